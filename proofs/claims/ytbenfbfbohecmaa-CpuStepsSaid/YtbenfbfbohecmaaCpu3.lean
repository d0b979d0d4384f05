/- The document's floor and InstrOf. No condition but a word of 64 bits. -/
import Derived.Test.YtbenfbfbohecmaaCpu2
namespace Go.Proofs.Ytbenfbfbohecmaa
open Go Go.RowKit Go.ChangeShapes Go.WideShapes Go.Deep
set_option linter.unusedVariables false
theorem tdiv_neg {n : Int} (h : n < 0) : n.tdiv 1024 = -((-n) / 1024) := by
  have : n.tdiv 1024 = -((-n).tdiv 1024) := by rw [Int.neg_tdiv, Int.neg_neg]
  rw [this, Int.tdiv_eq_ediv_of_nonneg (by omega)]
theorem tmod_neg1024 {n : Int} (h : n < 0) : n.tmod 1024 = -((-n) % 1024) := by
  have : n.tmod 1024 = -((-n).tmod 1024) := by rw [Int.neg_tmod, Int.neg_neg]
  rw [this, tmod_pos (by omega)]
theorem floor_neg {n : Int} (h1 : -9223372036854775808 ≤ n) (h : n.tmod 1024 < 0) : wrap64 (n.tdiv 1024 - 1) = n / 1024 := by
  by_cases hn : n < 0
  · rw [tmod_neg1024 hn] at h
    rw [tdiv_neg hn, wrap_id (by omega)]
    omega
  · rw [tmod_pos (by omega)] at h
    omega
theorem floor_pos {n : Int} (h : 0 ≤ n.tmod 1024) : n.tdiv 1024 = n / 1024 := by
  by_cases hn : n < 0
  · rw [tmod_neg1024 hn] at h
    rw [tdiv_neg hn]
    omega
  · exact Int.tdiv_eq_ediv_of_nonneg (by omega)

theorem floor_any (n : Int) (w : World) (h : -9223372036854775808 ≤ n ∧ n ≤ 9223372036854775807) : Calls Try.prog 39 #[.int .i64 n, .int .i64 1024] w fun e w' => e = .returned (.int .i64 (n / 1024)) ∧ w = w' := by
  obtain ⟨h1, h2⟩ := h
  go_enter Try.func39, Try.ntmps39
  go_wp2
  all_goals go_ret
  · exact ⟨ret_int (floor_neg h1 (by assumption)), rfl⟩
  · exact ⟨ret_int (floor_pos (by assumption)), rfl⟩
set_option maxHeartbeats 1000000 in
theorem instrOf_any (z : Int) (w : World) (h : -9223372036854775808 ≤ z ∧ z ≤ 9223372036854775807) : Calls Try.prog 36 #[.int .i64 z] w fun e w' => e = .returned (.tuple #[decV z, .int .i64 (decC z)]) ∧ Below w.heap.size w w' := by
  obtain ⟨h1, h2⟩ := h
  have HC := Lib.hid (ifault_any (decOp z) (decA z) (decB z) (decN z))
  have b1 : 0 ≤ z - 1024 * (z / 1024) := by omega
  have b2 : z - 1024 * (z / 1024) ≤ 1023 := by omega
  have b3 : -9007199254740992 ≤ z / 1024 := by omega
  have b4 : z / 1024 ≤ 9007199254740991 := by omega
  have HF := Lib.hid (fun w => floor_any z w ⟨h1, h2⟩)
  have e1 : (z - 1024 * (z / 1024)) % 16 = decOp z := by unfold decOp; omega
  have e2 : (z - 1024 * (z / 1024)) / 16 % 8 = decA z := by unfold decA; omega
  have e3 : (z - 1024 * (z / 1024)) / 128 = decB z := by unfold decB; omega
  have E4 := Lib.hid (show z / 1024 = decN z from rfl)
  by_cases hc : decC z = 0
  · have he : decV z = .agg #[.int .i64 (decOp z), .int .i64 (decA z), .int .i64 (decB z), .int .i64 (decN z)] := by unfold decV; rw [if_pos hc]
    rw [show iCode (decOp z) (decA z) (decB z) (decN z) = 0 from hc] at HC
    rw [hc, he, ← E4.out]
    rw [← E4.out] at HC
    clear hc he
    go_enter Try.func36, Try.ntmps36
    go_wp2_with (first | (go_at_call 39; refine (HF.out _).mono ?_; rintro e w' ⟨rfl, rfl⟩) | (go_at_call 40; refine (HC.out _).mono ?_; rintro e w' ⟨rfl, rfl⟩))
    refine bodyPost_ret (v := .tuple #[.agg #[.int .i64 (decOp z), .int .i64 (decA z), .int .i64 (decB z), .int .i64 (z / 1024)], .int .i64 0]) (by simp [results, Try.results36, go_sem]) rfl ⟨rfl, ?_⟩
    exact below_alloc3 _ _ _ _
  · have he : decV z = .agg #[.int .i64 0, .int .i64 0, .int .i64 0, .int .i64 0] := by unfold decV; rw [if_neg hc]
    rw [show iCode (decOp z) (decA z) (decB z) (decN z) = decC z from rfl, ← E4.out] at HC
    rw [he]
    generalize decC z = c at *
    have hb : (c != 0) = true := by rw [bne_iff_ne]; exact hc
    have hb' : (c == 0) = false := by rw [beq_eq_false_iff_ne]; exact hc
    clear he
    go_enter Try.func36, Try.ntmps36
    go_wp2_with (first | (go_at_call 39; refine (HF.out _).mono ?_; rintro e w' ⟨rfl, rfl⟩) | (go_at_call 40; refine (HC.out _).mono ?_; rintro e w' ⟨rfl, rfl⟩))
    refine bodyPost_ret (v := .tuple #[.agg #[.int .i64 0, .int .i64 0, .int .i64 0, .int .i64 0], .int .i64 c]) (by simp [results, Try.results36, go_sem]) rfl ⟨rfl, ?_⟩
    exact below_alloc3 _ _ _ _
end Go.Proofs.Ytbenfbfbohecmaa
