/- Several texts joined, each with its own heading in the notes: Contracts of cpu. Contracts of the reference's InstrFault, WordOf, InstrOf, and of cpu. No condition beyond those of each row. -/
import Derived.Test.YtilcnlmapifdgaaDoorYMem
namespace Go.Proofs.YtilcnlmapifdgaaDoor
open Go Go.RowKit Go.ChangeShapes Go.WideShapes Go.Deep
set_option linter.unusedVariables false

/-- A number folded. -/
def foldZ (n : Int) : Int := (n + 1099511627776) % 2199023255553 - 1099511627776
theorem foldZ_bd (n : Int) : -1099511627776 ≤ foldZ n ∧ foldZ n ≤ 1099511627776 := by unfold foldZ; omega

theorem tmod_pos {a b : Int} (h : 0 ≤ a) : a.tmod b = a % b := Int.tmod_eq_emod_of_nonneg h
theorem tmod_neg {a : Int} (h : a < 0) : a.tmod 2199023255553 = - ((-a) % 2199023255553) := by
  have : a.tmod 2199023255553 = -((-a).tmod 2199023255553) := by rw [Int.neg_tmod, Int.neg_neg]
  rw [this, tmod_pos (by omega)]

theorem fold_neg {n : Int} (h1 : -4398046511104 ≤ n) (h2 : n ≤ 4398046511104) (h : (n + 1099511627776).tmod 2199023255553 < 0) : wrap64 (wrap64 ((n + 1099511627776).tmod 2199023255553 + 2199023255553) - 1099511627776) = foldZ n := by
  by_cases hp : 0 ≤ n + 1099511627776
  · rw [tmod_pos hp] at h
    omega
  · rw [tmod_neg (by omega)] at h ⊢
    unfold foldZ wrap64
    omega
theorem fold_pos {n : Int} (h1 : -4398046511104 ≤ n) (h2 : n ≤ 4398046511104) (h : 0 ≤ (n + 1099511627776).tmod 2199023255553) : wrap64 ((n + 1099511627776).tmod 2199023255553 - 1099511627776) = foldZ n := by
  by_cases hp : 0 ≤ n + 1099511627776
  · rw [tmod_pos hp] at h ⊢
    unfold foldZ wrap64
    omega
  · rw [tmod_neg (by omega)] at h ⊢
    unfold foldZ wrap64
    omega

set_option maxHeartbeats 400000 in
theorem fold_any (n : Int) (w : World) (h1 : -4398046511104 ≤ n) (h2 : n ≤ 4398046511104) : Calls Tryd.prog 102 #[.int .i64 n] w fun e w' => e = .returned (.int .i64 (foldZ n)) ∧ w = w' := by
  go_enter Tryd.func102, Tryd.ntmps102
  go_wp2
  all_goals go_ret
  · exact ⟨ret_int (fold_neg h1 h2 (by assumption)), rfl⟩
  · exact ⟨ret_int (fold_pos h1 h2 (by assumption)), rfl⟩

/-- What is wrong with an instruction. -/
def iCode (op a b n : Int) : Int :=
  if op < 0 ∨ 15 < op then 3 else
  if a < 0 ∨ 8 ≤ a ∨ b < 0 ∨ 8 ≤ b ∨ n < -1048576 ∨ 1048576 ≤ n then 2 else
  if (op = 2 ∨ op = 3) ∧ (n < 0 ∨ 8 ≤ n) ∨ op = 12 ∧ (n < 0 ∨ 1 < n) then 4 else 0
theorem iCode3 {op a b n : Int} (h : op < 0 ∨ 15 < op) : (3 : Int) = iCode op a b n := by unfold iCode; rw [if_pos h]
theorem iCode2 {op a b n : Int} (h : ¬ (op < 0 ∨ 15 < op)) (h1 : a < 0 ∨ 8 ≤ a ∨ b < 0 ∨ 8 ≤ b ∨ n < -1048576 ∨ 1048576 ≤ n) : (2 : Int) = iCode op a b n := by unfold iCode; rw [if_neg h, if_pos h1]
theorem iCode4 {op a b n : Int} (h : ¬ (op < 0 ∨ 15 < op)) (h1 : ¬ (a < 0 ∨ 8 ≤ a ∨ b < 0 ∨ 8 ≤ b ∨ n < -1048576 ∨ 1048576 ≤ n)) (h2 : (op = 2 ∨ op = 3) ∧ (n < 0 ∨ 8 ≤ n) ∨ op = 12 ∧ (n < 0 ∨ 1 < n)) : (4 : Int) = iCode op a b n := by
  unfold iCode; rw [if_neg h, if_neg h1, if_pos h2]
theorem iCode0 {op a b n : Int} (h : ¬ (op < 0 ∨ 15 < op)) (h1 : ¬ (a < 0 ∨ 8 ≤ a ∨ b < 0 ∨ 8 ≤ b ∨ n < -1048576 ∨ 1048576 ≤ n)) (h2 : ¬ ((op = 2 ∨ op = 3) ∧ (n < 0 ∨ 8 ≤ n) ∨ op = 12 ∧ (n < 0 ∨ 1 < n))) : (0 : Int) = iCode op a b n := by
  unfold iCode; rw [if_neg h, if_neg h1, if_neg h2]

set_option maxHeartbeats 2000000 in
theorem icheck_any (op a b n : Int) (w : World) : Calls Tryd.prog 101 #[.agg #[.int .i64 op, .int .i64 a, .int .i64 b, .int .i64 n]] w fun e w' => e = .returned (.int .i64 (iCode op a b n)) ∧ w.alloc (.cells #[.int .i64 op, .int .i64 a, .int .i64 b, .int .i64 n] 92) = w' := by
  go_enter Tryd.func101, Tryd.ntmps101
  go_wp2
  all_goals go_ret
  all_goals refine ⟨ret_int ?_, by first | rfl | simp [*]⟩
  all_goals first | (refine iCode3 ?_; omega; done) | (refine iCode2 ?_ ?_ <;> omega; done) | (refine iCode4 ?_ ?_ ?_ <;> omega; done) | (refine iCode0 ?_ ?_ ?_ <;> omega; done)
end Go.Proofs.YtilcnlmapifdgaaDoor
namespace Go.Proofs.YtilcnlmapifdgaaDoor
open Go Go.RowKit Go.ChangeShapes Go.WideShapes Go.Deep
set_option linter.unusedVariables false

/-- The word of an instruction that may be. -/
def wordZ (op a b n : Int) : Int := 1024 * n + 128 * b + 16 * a + op
theorem word_bits {op a b n : Int} (h : iCode op a b n = 0) : bits .or .i64 (bits .or .i64 (bits .or .i64 (wrap64 (n * 1024)) (wrap64 (b * 128))) (wrap64 (a * 16))) op = wordZ op a b n := by
  have h' : ¬ (op < 0 ∨ 15 < op) ∧ ¬ (a < 0 ∨ 8 ≤ a ∨ b < 0 ∨ 8 ≤ b ∨ n < -1048576 ∨ 1048576 ≤ n) := by
    unfold iCode at h
    split at h
    · omega
    · split at h
      · omega
      · exact ⟨by assumption, by assumption⟩
  obtain ⟨h1, h2⟩ := h'
  rw [wrap_id (x := n * 1024) (by omega), wrap_id (x := b * 128) (by omega), wrap_id (x := a * 16) (by omega)]
  rw [i64_or_join 10 (by decide) (n * 1024) (b * 128) (by omega) (by unfold I64; omega) (by omega) (by omega)]
  rw [i64_or_join 7 (by decide) (n * 1024 + b * 128) (a * 16) (by omega) (by unfold I64; omega) (by omega) (by omega)]
  rw [i64_or_join 4 (by decide) (n * 1024 + b * 128 + a * 16) op (by omega) (by unfold I64; omega) (by omega) (by omega)]
  unfold wordZ
  omega
theorem iCode_rng {op a b n : Int} (h : iCode op a b n = 0) : 0 ≤ op ∧ op ≤ 15 ∧ 0 ≤ a ∧ a ≤ 7 ∧ 0 ≤ b ∧ b ≤ 7 ∧ -1048576 ≤ n ∧ n ≤ 1048575 := by
  unfold iCode at h
  split at h
  · omega
  · split at h <;> omega

/-- What Encode answers. -/
def encZ (op a b n : Int) : Int := if iCode op a b n = 0 then wordZ op a b n else 0

set_option maxHeartbeats 1000000 in
theorem encode_any (op a b n : Int) (w : World) : Calls Tryd.prog 83 #[.agg #[.int .i64 op, .int .i64 a, .int .i64 b, .int .i64 n]] w fun e w' => e = .returned (.tuple #[.int .i64 (encZ op a b n), .int .i64 (iCode op a b n)]) ∧ Below w.heap.size w w' := by
  have HC := Lib.hid (icheck_any op a b n)
  by_cases hc : iCode op a b n = 0
  · have hw := word_bits hc
    have he : encZ op a b n = wordZ op a b n := by unfold encZ; rw [if_pos hc]
    rw [hc] at HC ⊢
    rw [he]
    have Hw := Lib.hid hw
    clear hw hc he
    go_enter Tryd.func83, Tryd.ntmps83
    go_wp2_with (go_at_call 101; refine (HC.out _).mono ?_; rintro e w' ⟨rfl, rfl⟩)
    go_ret2
    refine ⟨?_, below_alloc2 _ _ _⟩
    rw [← Hw.out]
    rfl
  · have he : encZ op a b n = 0 := by unfold encZ; rw [if_neg hc]
    rw [he]
    generalize iCode op a b n = c at *
    have hb : (c != 0) = true := by rw [bne_iff_ne]; exact hc
    have hb' : (c == 0) = false := by rw [beq_eq_false_iff_ne]; exact hc
    clear he
    go_enter Tryd.func83, Tryd.ntmps83
    go_wp2_with (go_at_call 101; refine (HC.out _).mono ?_; rintro e w' ⟨rfl, rfl⟩)
    go_ret2
    exact ⟨rfl, below_alloc2 _ _ _⟩


/-- The parts of a word. -/
def decOp (z : Int) : Int := z % 16
def decA (z : Int) : Int := z / 16 % 8
def decB (z : Int) : Int := z / 128 % 8
def decN (z : Int) : Int := z / 1024
def decC (z : Int) : Int := iCode (decOp z) (decA z) (decB z) (decN z)
def decV (z : Int) : Value := if decC z = 0 then .agg #[.int .i64 (decOp z), .int .i64 (decA z), .int .i64 (decB z), .int .i64 (decN z)] else .agg #[.int .i64 0, .int .i64 0, .int .i64 0, .int .i64 0]

set_option maxHeartbeats 1000000 in
theorem decode_any (z : Int) (w : World) (h : -9223372036854775808 ≤ z ∧ z ≤ 9223372036854775807) : Calls Tryd.prog 77 #[.int .i64 z] w fun e w' => e = .returned (.tuple #[decV z, .int .i64 (decC z)]) ∧ Below w.heap.size w w' := by
  obtain ⟨h1, h2⟩ := h
  have HC := Lib.hid (icheck_any (decOp z) (decA z) (decB z) (decN z))
  have e1 : bits .and .i64 z 15 = decOp z := i64_and15 z
  have e2 : bits .and .i64 (z / 16) 7 = decA z := i64_and7 (z / 16)
  have e3 : bits .and .i64 (z / 128) 7 = decB z := i64_and7 (z / 128)
  have e4 : z / 1024 = decN z := rfl
  by_cases hc : decC z = 0
  · have he : decV z = .agg #[.int .i64 (decOp z), .int .i64 (decA z), .int .i64 (decB z), .int .i64 (decN z)] := by unfold decV; rw [if_pos hc]
    rw [show iCode (decOp z) (decA z) (decB z) (decN z) = 0 from hc] at HC
    rw [hc, he]
    clear hc he
    go_enter Tryd.func77, Tryd.ntmps77
    go_wp2_with (go_at_call 101; refine (HC.out _).mono ?_; rintro e w' ⟨rfl, rfl⟩)
    refine bodyPost_ret (v := .tuple #[.agg #[.int .i64 (decOp z), .int .i64 (decA z), .int .i64 (decB z), .int .i64 (decN z)], .int .i64 0]) (by simp [results, Tryd.results77, go_sem]) rfl ⟨rfl, ?_⟩
    exact below_alloc3 _ _ _ _
  · have he : decV z = .agg #[.int .i64 0, .int .i64 0, .int .i64 0, .int .i64 0] := by unfold decV; rw [if_neg hc]
    rw [show iCode (decOp z) (decA z) (decB z) (decN z) = decC z from rfl] at HC
    rw [he]
    generalize decC z = c at *
    have hb : (c != 0) = true := by rw [bne_iff_ne]; exact hc
    have hb' : (c == 0) = false := by rw [beq_eq_false_iff_ne]; exact hc
    clear he
    go_enter Tryd.func77, Tryd.ntmps77
    go_wp2_with (go_at_call 101; refine (HC.out _).mono ?_; rintro e w' ⟨rfl, rfl⟩)
    refine bodyPost_ret (v := .tuple #[.agg #[.int .i64 0, .int .i64 0, .int .i64 0, .int .i64 0], .int .i64 c]) (by simp [results, Tryd.results77, go_sem]) rfl ⟨rfl, ?_⟩
    exact below_alloc3 _ _ _ _

end Go.Proofs.YtilcnlmapifdgaaDoor
