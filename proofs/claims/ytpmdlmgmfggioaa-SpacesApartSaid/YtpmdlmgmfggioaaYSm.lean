/- Sums of counts; in plain Lean. No condition beyond those of each row. -/
import Derived.Test.YtpmdlmgmfggioaaYMem
namespace Go.Proofs.Ytpmdlmgmfggioaa
set_option linter.unusedVariables false

def sumN (f : Nat → Nat) : Nat → Nat
  | 0 => 0
  | m + 1 => sumN f m + f m
theorem sumN_ge {f : Nat → Nat} : ∀ {M : Nat}, (∀ m, m < M → 1 ≤ f m) → M ≤ sumN f M
  | 0, _ => Nat.zero_le _
  | M + 1, h => by
    have h1 := sumN_ge (f := f) (M := M) (fun m hm => h m (by omega))
    have h2 := h M (by omega)
    unfold sumN; omega
theorem sumN_add (f g : Nat → Nat) : ∀ M, sumN (fun n => f n + g n) M = sumN f M + sumN g M
  | 0 => rfl
  | M + 1 => by simp only [sumN, sumN_add f g M]; omega
theorem sumN_zero {f : Nat → Nat} (h : ∀ n, f n = 0) : ∀ M, sumN f M = 0
  | 0 => rfl
  | M + 1 => by unfold sumN; rw [sumN_zero h M, h M]
theorem sumN_one (x : Int) : ∀ M : Nat, sumN (fun n => if x = (n : Int) then 1 else 0) M = if 0 ≤ x ∧ x < M then 1 else 0
  | 0 => by rw [if_neg (by omega)]; rfl
  | M + 1 => by
    simp only [sumN, sumN_one x M]
    by_cases h : x = (M : Int)
    · rw [if_pos h, if_neg (by omega), if_pos (by omega)]
    · rw [if_neg h]
      by_cases h2 : 0 ≤ x ∧ x < M
      · rw [if_pos h2, if_pos (by omega)]
      · rw [if_neg h2, if_neg (by omega)]
theorem sum_count : ∀ (l : List Int) (M : Nat), sumN (fun n => l.count (n : Int)) M ≤ l.length
  | [], M => by
    rw [sumN_zero (fun n => List.count_nil)]; exact Nat.zero_le _
  | x :: l, M => by
    have h1 := sum_count l M
    have e : (fun n : Nat => (x :: l).count (n : Int)) = fun n : Nat => l.count (n : Int) + (if x = (n : Int) then 1 else 0) := by
      funext n; simp only [List.count_cons, beq_iff_eq]
    have h3 := sumN_one x M
    rw [e, sumN_add, h3, List.length_cons]
    split <;> omega
end Go.Proofs.Ytpmdlmgmfggioaa
