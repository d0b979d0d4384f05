/- Contracts of cpu.Fold, Check, Encode, Decode and of the reference's FoldOf, InstrFault, WordOf, InstrOf. -/
import Derived.Test.YtbenfbfbohecmaaBase
import Derived.Test.YtbenfbfbohecmaaBits
namespace Go.Proofs.Ytbenfbfbohecmaa
open Go Go.RowKit Go.ChangeShapes Go.WideShapes Go.Deep
set_option linter.unusedVariables false

/-- A number folded. -/
def foldZ (n : Int) : Int := (n + 1099511627776) % 2199023255553 - 1099511627776
theorem foldZ_id {n : Int} (h1 : -1099511627776 ≤ n) (h2 : n ≤ 1099511627776) : foldZ n = n := by unfold foldZ; omega
theorem foldZ_sub (n : Int) : foldZ (n - 2199023255553) = foldZ n := by unfold foldZ; omega
theorem foldZ_add (n : Int) : foldZ (n + 2199023255553) = foldZ n := by unfold foldZ; omega
theorem foldZ_bd (n : Int) : -1099511627776 ≤ foldZ n ∧ foldZ n ≤ 1099511627776 := by unfold foldZ; omega

theorem tmod_pos {a b : Int} (h : 0 ≤ a) : a.tmod b = a % b := Int.tmod_eq_emod_of_nonneg h
theorem tmod_neg {a : Int} (h : a < 0) : a.tmod 2199023255553 = - ((-a) % 2199023255553) := by
  have : a.tmod 2199023255553 = -((-a).tmod 2199023255553) := by rw [Int.neg_tmod, Int.neg_neg]
  rw [this, tmod_pos (by omega)]

theorem fold_neg {n : Int} (h1 : -4398046511104 ≤ n) (h2 : n ≤ 4398046511104) (h : (n + 1099511627776).tmod 2199023255553 < 0) : wrap64 (wrap64 ((n + 1099511627776).tmod 2199023255553 + 2199023255553) - 1099511627776) = foldZ n := by
  by_cases hp : 0 ≤ n + 1099511627776
  · rw [tmod_pos hp] at h
    omega
  · rw [tmod_neg (by omega)] at h ⊢
    unfold foldZ wrap64
    omega
theorem fold_pos {n : Int} (h1 : -4398046511104 ≤ n) (h2 : n ≤ 4398046511104) (h : 0 ≤ (n + 1099511627776).tmod 2199023255553) : wrap64 ((n + 1099511627776).tmod 2199023255553 - 1099511627776) = foldZ n := by
  by_cases hp : 0 ≤ n + 1099511627776
  · rw [tmod_pos hp] at h ⊢
    unfold foldZ wrap64
    omega
  · rw [tmod_neg (by omega)] at h ⊢
    unfold foldZ wrap64
    omega

set_option maxHeartbeats 400000 in
theorem fold_any (n : Int) (w : World) (h1 : -4398046511104 ≤ n) (h2 : n ≤ 4398046511104) : Calls Try.prog 33 #[.int .i64 n] w fun e w' => e = .returned (.int .i64 (foldZ n)) ∧ w = w' := by
  go_enter Try.func33, Try.ntmps33
  go_wp2
  all_goals go_ret
  · exact ⟨ret_int (fold_neg h1 h2 (by assumption)), rfl⟩
  · exact ⟨ret_int (fold_pos h1 h2 (by assumption)), rfl⟩

set_option maxHeartbeats 400000 in
theorem foldOf_any (n : Int) (w : World) (h1 : -4398046511104 ≤ n) (h2 : n ≤ 4398046511104) : Calls Try.prog 29 #[.int .i64 n] w fun e w' => e = .returned (.int .i64 (foldZ n)) ∧ w = w' := by
  go_enter Try.func29, Try.ntmps29
  go_wp2
  go_loop [0] (fun v => ∃ m : Int, v = .int .i64 m ∧ -4398046511104 ≤ m ∧ m ≤ 4398046511104 ∧ Hid (foldZ m = foldZ n)) (fun v => (intOf v + 4398046511104).toNat)
  case atStart => exact ⟨n, rfl, h1, h2, Lib.hid rfl⟩
  case round =>
    obtain ⟨m, rfl, hm1, hm2, hf⟩ := hrel
    by_cases hc : 1099511627776 < m
    · go_wp2
      go_round
      case rel => exact ⟨m - 2199023255553, by go_num, by omega, by omega, Lib.hid (by rw [foldZ_sub]; exact hf.out)⟩
      case measure => simp [intOf]; omega
    · go_wp2
      go_loop [0] (fun v => ∃ m : Int, v = .int .i64 m ∧ -4398046511104 ≤ m ∧ m ≤ 1099511627776 ∧ Hid (foldZ m = foldZ n)) (fun v => (1099511627776 - intOf v).toNat)
      case atStart => exact ⟨m, rfl, hm1, by omega, hf⟩
      case round =>
        obtain ⟨q, rfl, hq1, hq2, hg⟩ := hrel
        by_cases hd : q < -1099511627776
        · go_wp2
          go_round
          case rel => exact ⟨q + 2199023255553, by go_num, by omega, by omega, Lib.hid (by rw [foldZ_add]; exact hg.out)⟩
          case measure => simp [intOf]; omega
        · go_wp2
          go_ret
          exact ⟨ret_int (by rw [← hg.out, foldZ_id (by omega) (by omega)]), rfl⟩

/-- What is wrong with an instruction. -/
def iCode (op a b n : Int) : Int :=
  if op < 0 ∨ 15 < op then 3 else
  if a < 0 ∨ 8 ≤ a ∨ b < 0 ∨ 8 ≤ b ∨ n < -1048576 ∨ 1048576 ≤ n then 2 else
  if (op = 2 ∨ op = 3) ∧ (n < 0 ∨ 8 ≤ n) ∨ op = 12 ∧ (n < 0 ∨ 1 < n) then 4 else 0
theorem iCode3 {op a b n : Int} (h : op < 0 ∨ 15 < op) : (3 : Int) = iCode op a b n := by unfold iCode; rw [if_pos h]
theorem iCode2 {op a b n : Int} (h : ¬ (op < 0 ∨ 15 < op)) (h1 : a < 0 ∨ 8 ≤ a ∨ b < 0 ∨ 8 ≤ b ∨ n < -1048576 ∨ 1048576 ≤ n) : (2 : Int) = iCode op a b n := by unfold iCode; rw [if_neg h, if_pos h1]
theorem iCode4 {op a b n : Int} (h : ¬ (op < 0 ∨ 15 < op)) (h1 : ¬ (a < 0 ∨ 8 ≤ a ∨ b < 0 ∨ 8 ≤ b ∨ n < -1048576 ∨ 1048576 ≤ n)) (h2 : (op = 2 ∨ op = 3) ∧ (n < 0 ∨ 8 ≤ n) ∨ op = 12 ∧ (n < 0 ∨ 1 < n)) : (4 : Int) = iCode op a b n := by
  unfold iCode; rw [if_neg h, if_neg h1, if_pos h2]
theorem iCode0 {op a b n : Int} (h : ¬ (op < 0 ∨ 15 < op)) (h1 : ¬ (a < 0 ∨ 8 ≤ a ∨ b < 0 ∨ 8 ≤ b ∨ n < -1048576 ∨ 1048576 ≤ n)) (h2 : ¬ ((op = 2 ∨ op = 3) ∧ (n < 0 ∨ 8 ≤ n) ∨ op = 12 ∧ (n < 0 ∨ 1 < n))) : (0 : Int) = iCode op a b n := by
  unfold iCode; rw [if_neg h, if_neg h1, if_neg h2]

set_option maxHeartbeats 2000000 in
theorem icheck_any (op a b n : Int) (w : World) : Calls Try.prog 38 #[.agg #[.int .i64 op, .int .i64 a, .int .i64 b, .int .i64 n]] w fun e w' => e = .returned (.int .i64 (iCode op a b n)) ∧ w.alloc (.cells #[.int .i64 op, .int .i64 a, .int .i64 b, .int .i64 n] 51) = w' := by
  go_enter Try.func38, Try.ntmps38
  go_wp2
  all_goals go_ret
  all_goals refine ⟨ret_int ?_, by first | rfl | simp [*]⟩
  all_goals first | (refine iCode3 ?_; omega; done) | (refine iCode2 ?_ ?_ <;> omega; done) | (refine iCode4 ?_ ?_ ?_ <;> omega; done) | (refine iCode0 ?_ ?_ ?_ <;> omega; done)
end Go.Proofs.Ytbenfbfbohecmaa
