/- Contracts of the reference's InstrFault, WordOf, InstrOf, and of cpu.Encode, cpu.Decode. -/
import Derived.Test.YtbenfbfbohecmaaCpu1
namespace Go.Proofs.Ytbenfbfbohecmaa
open Go Go.RowKit Go.ChangeShapes Go.WideShapes Go.Deep
set_option linter.unusedVariables false

set_option maxHeartbeats 4000000 in
theorem ifault_any (op a b n : Int) (w : World) : Calls Try.prog 40 #[.agg #[.int .i64 op, .int .i64 a, .int .i64 b, .int .i64 n]] w fun e w' => e = .returned (.int .i64 (iCode op a b n)) ∧ w.alloc (.cells #[.int .i64 op, .int .i64 a, .int .i64 b, .int .i64 n] 51) = w' := by
  go_enter Try.func40, Try.ntmps40
  go_wp2_with (go_at_call 27; refine (in_or _ _ _ _).mono ?_; rintro e w' (⟨rfl, rfl, hlo, hhi⟩ | ⟨rfl, rfl, hno⟩))
  all_goals go_ret
  all_goals refine ⟨ret_int ?_, by first | rfl | simp [*]⟩
  all_goals first | (refine iCode3 ?_; omega; done) | (refine iCode2 ?_ ?_ <;> omega; done) | (refine iCode4 ?_ ?_ ?_ <;> omega; done) | (refine iCode0 ?_ ?_ ?_ <;> omega; done)

/-- The word of an instruction that may be. -/
def wordZ (op a b n : Int) : Int := 1024 * n + 128 * b + 16 * a + op
theorem word_bits {op a b n : Int} (h : iCode op a b n = 0) : bits .or .i64 (bits .or .i64 (bits .or .i64 (wrap64 (n * 1024)) (wrap64 (b * 128))) (wrap64 (a * 16))) op = wordZ op a b n := by
  have h' : ¬ (op < 0 ∨ 15 < op) ∧ ¬ (a < 0 ∨ 8 ≤ a ∨ b < 0 ∨ 8 ≤ b ∨ n < -1048576 ∨ 1048576 ≤ n) := by
    unfold iCode at h
    split at h
    · omega
    · split at h
      · omega
      · exact ⟨by assumption, by assumption⟩
  obtain ⟨h1, h2⟩ := h'
  rw [wrap_id (x := n * 1024) (by omega), wrap_id (x := b * 128) (by omega), wrap_id (x := a * 16) (by omega)]
  rw [i64_or_join 10 (by decide) (n * 1024) (b * 128) (by omega) (by unfold I64; omega) (by omega) (by omega)]
  rw [i64_or_join 7 (by decide) (n * 1024 + b * 128) (a * 16) (by omega) (by unfold I64; omega) (by omega) (by omega)]
  rw [i64_or_join 4 (by decide) (n * 1024 + b * 128 + a * 16) op (by omega) (by unfold I64; omega) (by omega) (by omega)]
  unfold wordZ
  omega
theorem iCode_rng {op a b n : Int} (h : iCode op a b n = 0) : 0 ≤ op ∧ op ≤ 15 ∧ 0 ≤ a ∧ a ≤ 7 ∧ 0 ≤ b ∧ b ≤ 7 ∧ -1048576 ≤ n ∧ n ≤ 1048575 := by
  unfold iCode at h
  split at h
  · omega
  · split at h <;> omega

/-- What Encode answers. -/
def encZ (op a b n : Int) : Int := if iCode op a b n = 0 then wordZ op a b n else 0

/-- The parts of a word. -/
def decOp (z : Int) : Int := z % 16
def decA (z : Int) : Int := z / 16 % 8
def decB (z : Int) : Int := z / 128 % 8
def decN (z : Int) : Int := z / 1024
def decC (z : Int) : Int := iCode (decOp z) (decA z) (decB z) (decN z)
def decV (z : Int) : Value := if decC z = 0 then .agg #[.int .i64 (decOp z), .int .i64 (decA z), .int .i64 (decB z), .int .i64 (decN z)] else .agg #[.int .i64 0, .int .i64 0, .int .i64 0, .int .i64 0]

set_option maxHeartbeats 1000000 in
theorem decode_any (z : Int) (w : World) (h : -9223372036854775808 ≤ z ∧ z ≤ 9223372036854775807) : Calls Try.prog 32 #[.int .i64 z] w fun e w' => e = .returned (.tuple #[decV z, .int .i64 (decC z)]) ∧ Below w.heap.size w w' := by
  obtain ⟨h1, h2⟩ := h
  have HC := Lib.hid (icheck_any (decOp z) (decA z) (decB z) (decN z))
  have e1 : bits .and .i64 z 15 = decOp z := i64_and15 z
  have e2 : bits .and .i64 (z / 16) 7 = decA z := i64_and7 (z / 16)
  have e3 : bits .and .i64 (z / 128) 7 = decB z := i64_and7 (z / 128)
  have e4 : z / 1024 = decN z := rfl
  by_cases hc : decC z = 0
  · have he : decV z = .agg #[.int .i64 (decOp z), .int .i64 (decA z), .int .i64 (decB z), .int .i64 (decN z)] := by unfold decV; rw [if_pos hc]
    rw [show iCode (decOp z) (decA z) (decB z) (decN z) = 0 from hc] at HC
    rw [hc, he]
    clear hc he
    go_enter Try.func32, Try.ntmps32
    go_wp2_with (go_at_call 38; refine (HC.out _).mono ?_; rintro e w' ⟨rfl, rfl⟩)
    refine bodyPost_ret (v := .tuple #[.agg #[.int .i64 (decOp z), .int .i64 (decA z), .int .i64 (decB z), .int .i64 (decN z)], .int .i64 0]) (by simp [results, Try.results32, go_sem]) rfl ⟨rfl, ?_⟩
    exact below_alloc3 _ _ _ _
  · have he : decV z = .agg #[.int .i64 0, .int .i64 0, .int .i64 0, .int .i64 0] := by unfold decV; rw [if_neg hc]
    rw [show iCode (decOp z) (decA z) (decB z) (decN z) = decC z from rfl] at HC
    rw [he]
    generalize decC z = c at *
    have hb : (c != 0) = true := by rw [bne_iff_ne]; exact hc
    have hb' : (c == 0) = false := by rw [beq_eq_false_iff_ne]; exact hc
    clear he
    go_enter Try.func32, Try.ntmps32
    go_wp2_with (go_at_call 38; refine (HC.out _).mono ?_; rintro e w' ⟨rfl, rfl⟩)
    refine bodyPost_ret (v := .tuple #[.agg #[.int .i64 0, .int .i64 0, .int .i64 0, .int .i64 0], .int .i64 c]) (by simp [results, Try.results32, go_sem]) rfl ⟨rfl, ?_⟩
    exact below_alloc3 _ _ _ _

end Go.Proofs.Ytbenfbfbohecmaa
