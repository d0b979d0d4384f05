/- Several texts joined, each with its own heading in the notes: Contracts of cpu. Contracts of the reference's InstrFault, WordOf, InstrOf, and of cpu. The document's floor and InstrOf. No condition beyond those of each row. -/
import Derived.Test.YtenicnneppgfmaaDoorYMem
namespace Go.Proofs.YtenicnneppgfmaaDoor
open Go Go.RowKit Go.ChangeShapes Go.WideShapes Go.Deep
set_option linter.unusedVariables false

/-- A number folded. -/
def foldZ (n : Int) : Int := (n + 1099511627776) % 2199023255553 - 1099511627776
theorem foldZ_id {n : Int} (h1 : -1099511627776 ≤ n) (h2 : n ≤ 1099511627776) : foldZ n = n := by unfold foldZ; omega
theorem foldZ_sub (n : Int) : foldZ (n - 2199023255553) = foldZ n := by unfold foldZ; omega
theorem foldZ_add (n : Int) : foldZ (n + 2199023255553) = foldZ n := by unfold foldZ; omega
theorem foldZ_bd (n : Int) : -1099511627776 ≤ foldZ n ∧ foldZ n ≤ 1099511627776 := by unfold foldZ; omega

theorem tmod_pos {a b : Int} (h : 0 ≤ a) : a.tmod b = a % b := Int.tmod_eq_emod_of_nonneg h
theorem tmod_neg {a : Int} (h : a < 0) : a.tmod 2199023255553 = - ((-a) % 2199023255553) := by
  have : a.tmod 2199023255553 = -((-a).tmod 2199023255553) := by rw [Int.neg_tmod, Int.neg_neg]
  rw [this, tmod_pos (by omega)]

theorem fold_neg {n : Int} (h1 : -4398046511104 ≤ n) (h2 : n ≤ 4398046511104) (h : (n + 1099511627776).tmod 2199023255553 < 0) : wrap64 (wrap64 ((n + 1099511627776).tmod 2199023255553 + 2199023255553) - 1099511627776) = foldZ n := by
  by_cases hp : 0 ≤ n + 1099511627776
  · rw [tmod_pos hp] at h
    omega
  · rw [tmod_neg (by omega)] at h ⊢
    unfold foldZ wrap64
    omega
theorem fold_pos {n : Int} (h1 : -4398046511104 ≤ n) (h2 : n ≤ 4398046511104) (h : 0 ≤ (n + 1099511627776).tmod 2199023255553) : wrap64 ((n + 1099511627776).tmod 2199023255553 - 1099511627776) = foldZ n := by
  by_cases hp : 0 ≤ n + 1099511627776
  · rw [tmod_pos hp] at h ⊢
    unfold foldZ wrap64
    omega
  · rw [tmod_neg (by omega)] at h ⊢
    unfold foldZ wrap64
    omega

set_option maxHeartbeats 400000 in
theorem fold_any (n : Int) (w : World) (h1 : -4398046511104 ≤ n) (h2 : n ≤ 4398046511104) : Calls Tryd.prog 110 #[.int .i64 n] w fun e w' => e = .returned (.int .i64 (foldZ n)) ∧ w = w' := by
  go_enter Tryd.func110, Tryd.ntmps110
  go_wp2
  all_goals go_ret
  · exact ⟨ret_int (fold_neg h1 h2 (by assumption)), rfl⟩
  · exact ⟨ret_int (fold_pos h1 h2 (by assumption)), rfl⟩

set_option maxHeartbeats 400000 in
theorem foldOf_any (n : Int) (w : World) (h1 : -4398046511104 ≤ n) (h2 : n ≤ 4398046511104) : Calls Tryd.prog 87 #[.int .i64 n] w fun e w' => e = .returned (.int .i64 (foldZ n)) ∧ w = w' := by
  go_enter Tryd.func87, Tryd.ntmps87
  go_wp2
  go_loop [0] (fun v => ∃ m : Int, v = .int .i64 m ∧ -4398046511104 ≤ m ∧ m ≤ 4398046511104 ∧ Hid (foldZ m = foldZ n)) (fun v => (intOf v + 4398046511104).toNat)
  case atStart => exact ⟨n, rfl, h1, h2, Lib.hid rfl⟩
  case round =>
    obtain ⟨m, rfl, hm1, hm2, hf⟩ := hrel
    by_cases hc : 1099511627776 < m
    · go_wp2
      go_round
      case rel => exact ⟨m - 2199023255553, by go_num, by omega, by omega, Lib.hid (by rw [foldZ_sub]; exact hf.out)⟩
      case measure => simp [intOf]; omega
    · go_wp2
      go_loop [0] (fun v => ∃ m : Int, v = .int .i64 m ∧ -4398046511104 ≤ m ∧ m ≤ 1099511627776 ∧ Hid (foldZ m = foldZ n)) (fun v => (1099511627776 - intOf v).toNat)
      case atStart => exact ⟨m, rfl, hm1, by omega, hf⟩
      case round =>
        obtain ⟨q, rfl, hq1, hq2, hg⟩ := hrel
        by_cases hd : q < -1099511627776
        · go_wp2
          go_round
          case rel => exact ⟨q + 2199023255553, by go_num, by omega, by omega, Lib.hid (by rw [foldZ_add]; exact hg.out)⟩
          case measure => simp [intOf]; omega
        · go_wp2
          go_ret
          exact ⟨ret_int (by rw [← hg.out, foldZ_id (by omega) (by omega)]), rfl⟩

/-- What is wrong with an instruction. -/
def iCode (op a b n : Int) : Int :=
  if op < 0 ∨ 15 < op then 3 else
  if a < 0 ∨ 8 ≤ a ∨ b < 0 ∨ 8 ≤ b ∨ n < -1048576 ∨ 1048576 ≤ n then 2 else
  if (op = 2 ∨ op = 3) ∧ (n < 0 ∨ 8 ≤ n) ∨ op = 12 ∧ (n < 0 ∨ 1 < n) then 4 else 0
theorem iCode3 {op a b n : Int} (h : op < 0 ∨ 15 < op) : (3 : Int) = iCode op a b n := by unfold iCode; rw [if_pos h]
theorem iCode2 {op a b n : Int} (h : ¬ (op < 0 ∨ 15 < op)) (h1 : a < 0 ∨ 8 ≤ a ∨ b < 0 ∨ 8 ≤ b ∨ n < -1048576 ∨ 1048576 ≤ n) : (2 : Int) = iCode op a b n := by unfold iCode; rw [if_neg h, if_pos h1]
theorem iCode4 {op a b n : Int} (h : ¬ (op < 0 ∨ 15 < op)) (h1 : ¬ (a < 0 ∨ 8 ≤ a ∨ b < 0 ∨ 8 ≤ b ∨ n < -1048576 ∨ 1048576 ≤ n)) (h2 : (op = 2 ∨ op = 3) ∧ (n < 0 ∨ 8 ≤ n) ∨ op = 12 ∧ (n < 0 ∨ 1 < n)) : (4 : Int) = iCode op a b n := by
  unfold iCode; rw [if_neg h, if_neg h1, if_pos h2]
theorem iCode0 {op a b n : Int} (h : ¬ (op < 0 ∨ 15 < op)) (h1 : ¬ (a < 0 ∨ 8 ≤ a ∨ b < 0 ∨ 8 ≤ b ∨ n < -1048576 ∨ 1048576 ≤ n)) (h2 : ¬ ((op = 2 ∨ op = 3) ∧ (n < 0 ∨ 8 ≤ n) ∨ op = 12 ∧ (n < 0 ∨ 1 < n))) : (0 : Int) = iCode op a b n := by
  unfold iCode; rw [if_neg h, if_neg h1, if_neg h2]

set_option maxHeartbeats 2000000 in
theorem icheck_any (op a b n : Int) (w : World) : Calls Tryd.prog 109 #[.agg #[.int .i64 op, .int .i64 a, .int .i64 b, .int .i64 n]] w fun e w' => e = .returned (.int .i64 (iCode op a b n)) ∧ w.alloc (.cells #[.int .i64 op, .int .i64 a, .int .i64 b, .int .i64 n] 82) = w' := by
  go_enter Tryd.func109, Tryd.ntmps109
  go_wp2
  all_goals go_ret
  all_goals refine ⟨ret_int ?_, by first | rfl | simp [*]⟩
  all_goals first | (refine iCode3 ?_; omega; done) | (refine iCode2 ?_ ?_ <;> omega; done) | (refine iCode4 ?_ ?_ ?_ <;> omega; done) | (refine iCode0 ?_ ?_ ?_ <;> omega; done)
end Go.Proofs.YtenicnneppgfmaaDoor
namespace Go.Proofs.YtenicnneppgfmaaDoor
open Go Go.RowKit Go.ChangeShapes Go.WideShapes Go.Deep
set_option linter.unusedVariables false

set_option maxHeartbeats 4000000 in
theorem ifault_any (op a b n : Int) (w : World) : Calls Tryd.prog 128 #[.agg #[.int .i64 op, .int .i64 a, .int .i64 b, .int .i64 n]] w fun e w' => e = .returned (.int .i64 (iCode op a b n)) ∧ w.alloc (.cells #[.int .i64 op, .int .i64 a, .int .i64 b, .int .i64 n] 82) = w' := by
  go_enter Tryd.func128, Tryd.ntmps128
  go_wp2_with (go_at_call 50; refine (in_or _ _ _ _).mono ?_; rintro e w' (⟨rfl, rfl, hlo, hhi⟩ | ⟨rfl, rfl, hno⟩))
  all_goals go_ret
  all_goals refine ⟨ret_int ?_, by first | rfl | simp [*]⟩
  all_goals first | (refine iCode3 ?_; omega; done) | (refine iCode2 ?_ ?_ <;> omega; done) | (refine iCode4 ?_ ?_ ?_ <;> omega; done) | (refine iCode0 ?_ ?_ ?_ <;> omega; done)

theorem iCode_rng {op a b n : Int} (h : iCode op a b n = 0) : 0 ≤ op ∧ op ≤ 15 ∧ 0 ≤ a ∧ a ≤ 7 ∧ 0 ≤ b ∧ b ≤ 7 ∧ -1048576 ≤ n ∧ n ≤ 1048575 := by
  unfold iCode at h
  split at h
  · omega
  · split at h <;> omega

/-- The parts of a word. -/
def decOp (z : Int) : Int := z % 16
def decA (z : Int) : Int := z / 16 % 8
def decB (z : Int) : Int := z / 128 % 8
def decN (z : Int) : Int := z / 1024
def decC (z : Int) : Int := iCode (decOp z) (decA z) (decB z) (decN z)
def decV (z : Int) : Value := if decC z = 0 then .agg #[.int .i64 (decOp z), .int .i64 (decA z), .int .i64 (decB z), .int .i64 (decN z)] else .agg #[.int .i64 0, .int .i64 0, .int .i64 0, .int .i64 0]

set_option maxHeartbeats 1000000 in
theorem decode_any (z : Int) (w : World) (h : -9223372036854775808 ≤ z ∧ z ≤ 9223372036854775807) : Calls Tryd.prog 79 #[.int .i64 z] w fun e w' => e = .returned (.tuple #[decV z, .int .i64 (decC z)]) ∧ Below w.heap.size w w' := by
  obtain ⟨h1, h2⟩ := h
  have HC := Lib.hid (icheck_any (decOp z) (decA z) (decB z) (decN z))
  have e1 : bits .and .i64 z 15 = decOp z := i64_and15 z
  have e2 : bits .and .i64 (z / 16) 7 = decA z := i64_and7 (z / 16)
  have e3 : bits .and .i64 (z / 128) 7 = decB z := i64_and7 (z / 128)
  have e4 : z / 1024 = decN z := rfl
  by_cases hc : decC z = 0
  · have he : decV z = .agg #[.int .i64 (decOp z), .int .i64 (decA z), .int .i64 (decB z), .int .i64 (decN z)] := by unfold decV; rw [if_pos hc]
    rw [show iCode (decOp z) (decA z) (decB z) (decN z) = 0 from hc] at HC
    rw [hc, he]
    clear hc he
    go_enter Tryd.func79, Tryd.ntmps79
    go_wp2_with (go_at_call 109; refine (HC.out _).mono ?_; rintro e w' ⟨rfl, rfl⟩)
    refine bodyPost_ret (v := .tuple #[.agg #[.int .i64 (decOp z), .int .i64 (decA z), .int .i64 (decB z), .int .i64 (decN z)], .int .i64 0]) (by simp [results, Tryd.results79, go_sem]) rfl ⟨rfl, ?_⟩
    exact below_alloc3 _ _ _ _
  · have he : decV z = .agg #[.int .i64 0, .int .i64 0, .int .i64 0, .int .i64 0] := by unfold decV; rw [if_neg hc]
    rw [show iCode (decOp z) (decA z) (decB z) (decN z) = decC z from rfl] at HC
    rw [he]
    generalize decC z = c at *
    have hb : (c != 0) = true := by rw [bne_iff_ne]; exact hc
    have hb' : (c == 0) = false := by rw [beq_eq_false_iff_ne]; exact hc
    clear he
    go_enter Tryd.func79, Tryd.ntmps79
    go_wp2_with (go_at_call 109; refine (HC.out _).mono ?_; rintro e w' ⟨rfl, rfl⟩)
    refine bodyPost_ret (v := .tuple #[.agg #[.int .i64 0, .int .i64 0, .int .i64 0, .int .i64 0], .int .i64 c]) (by simp [results, Tryd.results79, go_sem]) rfl ⟨rfl, ?_⟩
    exact below_alloc3 _ _ _ _

end Go.Proofs.YtenicnneppgfmaaDoor
namespace Go.Proofs.YtenicnneppgfmaaDoor
open Go Go.RowKit Go.ChangeShapes Go.WideShapes Go.Deep
set_option linter.unusedVariables false
theorem tdiv_neg {n : Int} (h : n < 0) : n.tdiv 1024 = -((-n) / 1024) := by
  have : n.tdiv 1024 = -((-n).tdiv 1024) := by rw [Int.neg_tdiv, Int.neg_neg]
  rw [this, Int.tdiv_eq_ediv_of_nonneg (by omega)]
theorem tmod_neg1024 {n : Int} (h : n < 0) : n.tmod 1024 = -((-n) % 1024) := by
  have : n.tmod 1024 = -((-n).tmod 1024) := by rw [Int.neg_tmod, Int.neg_neg]
  rw [this, tmod_pos (by omega)]
theorem floor_neg {n : Int} (h1 : -9223372036854775808 ≤ n) (h : n.tmod 1024 < 0) : wrap64 (n.tdiv 1024 - 1) = n / 1024 := by
  by_cases hn : n < 0
  · rw [tmod_neg1024 hn] at h
    rw [tdiv_neg hn, wrap_id (by omega)]
    omega
  · rw [tmod_pos (by omega)] at h
    omega
theorem floor_pos {n : Int} (h : 0 ≤ n.tmod 1024) : n.tdiv 1024 = n / 1024 := by
  by_cases hn : n < 0
  · rw [tmod_neg1024 hn] at h
    rw [tdiv_neg hn]
    omega
  · exact Int.tdiv_eq_ediv_of_nonneg (by omega)

theorem floor_any (n : Int) (w : World) (h : -9223372036854775808 ≤ n ∧ n ≤ 9223372036854775807) : Calls Tryd.prog 127 #[.int .i64 n, .int .i64 1024] w fun e w' => e = .returned (.int .i64 (n / 1024)) ∧ w = w' := by
  obtain ⟨h1, h2⟩ := h
  go_enter Tryd.func127, Tryd.ntmps127
  go_wp2
  all_goals go_ret
  · exact ⟨ret_int (floor_neg h1 (by assumption)), rfl⟩
  · exact ⟨ret_int (floor_pos (by assumption)), rfl⟩
set_option maxHeartbeats 1000000 in
theorem instrOf_any (z : Int) (w : World) (h : -9223372036854775808 ≤ z ∧ z ≤ 9223372036854775807) : Calls Tryd.prog 116 #[.int .i64 z] w fun e w' => e = .returned (.tuple #[decV z, .int .i64 (decC z)]) ∧ Below w.heap.size w w' := by
  obtain ⟨h1, h2⟩ := h
  have HC := Lib.hid (ifault_any (decOp z) (decA z) (decB z) (decN z))
  have b1 : 0 ≤ z - 1024 * (z / 1024) := by omega
  have b2 : z - 1024 * (z / 1024) ≤ 1023 := by omega
  have b3 : -9007199254740992 ≤ z / 1024 := by omega
  have b4 : z / 1024 ≤ 9007199254740991 := by omega
  have HF := Lib.hid (fun w => floor_any z w ⟨h1, h2⟩)
  have e1 : (z - 1024 * (z / 1024)) % 16 = decOp z := by unfold decOp; omega
  have e2 : (z - 1024 * (z / 1024)) / 16 % 8 = decA z := by unfold decA; omega
  have e3 : (z - 1024 * (z / 1024)) / 128 = decB z := by unfold decB; omega
  have E4 := Lib.hid (show z / 1024 = decN z from rfl)
  by_cases hc : decC z = 0
  · have he : decV z = .agg #[.int .i64 (decOp z), .int .i64 (decA z), .int .i64 (decB z), .int .i64 (decN z)] := by unfold decV; rw [if_pos hc]
    rw [show iCode (decOp z) (decA z) (decB z) (decN z) = 0 from hc] at HC
    rw [hc, he, ← E4.out]
    rw [← E4.out] at HC
    clear hc he
    go_enter Tryd.func116, Tryd.ntmps116
    go_wp2_with (first | (go_at_call 127; refine (HF.out _).mono ?_; rintro e w' ⟨rfl, rfl⟩) | (go_at_call 128; refine (HC.out _).mono ?_; rintro e w' ⟨rfl, rfl⟩))
    refine bodyPost_ret (v := .tuple #[.agg #[.int .i64 (decOp z), .int .i64 (decA z), .int .i64 (decB z), .int .i64 (z / 1024)], .int .i64 0]) (by simp [results, Tryd.results116, go_sem]) rfl ⟨rfl, ?_⟩
    exact below_alloc3 _ _ _ _
  · have he : decV z = .agg #[.int .i64 0, .int .i64 0, .int .i64 0, .int .i64 0] := by unfold decV; rw [if_neg hc]
    rw [show iCode (decOp z) (decA z) (decB z) (decN z) = decC z from rfl, ← E4.out] at HC
    rw [he]
    generalize decC z = c at *
    have hb : (c != 0) = true := by rw [bne_iff_ne]; exact hc
    have hb' : (c == 0) = false := by rw [beq_eq_false_iff_ne]; exact hc
    clear he
    go_enter Tryd.func116, Tryd.ntmps116
    go_wp2_with (first | (go_at_call 127; refine (HF.out _).mono ?_; rintro e w' ⟨rfl, rfl⟩) | (go_at_call 128; refine (HC.out _).mono ?_; rintro e w' ⟨rfl, rfl⟩))
    refine bodyPost_ret (v := .tuple #[.agg #[.int .i64 0, .int .i64 0, .int .i64 0, .int .i64 0], .int .i64 c]) (by simp [results, Tryd.results116, go_sem]) rfl ⟨rfl, ?_⟩
    exact below_alloc3 _ _ _ _
end Go.Proofs.YtenicnneppgfmaaDoor
