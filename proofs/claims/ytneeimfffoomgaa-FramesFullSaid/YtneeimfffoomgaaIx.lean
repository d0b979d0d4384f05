/- Contracts of slices.Index at zero and of the reference's firstFree. No condition. -/
import Derived.Test.YtneeimfffoomgaaDb
namespace Go.Proofs.Ytneeimfffoomgaa
open Go Go.RowKit Go.ChangeShapes Go.WideShapes Go.Deep
set_option linter.unusedVariables false

/-- i is the place of the first zero, or -1. -/
def Fz (zs : List Int) (i : Int) : Prop := (∃ k : Nat, i = k ∧ k < zs.length ∧ zs.getD k 0 = 0 ∧ ∀ j, j < k → zs.getD j 0 ≠ 0) ∨ (i = -1 ∧ ∀ j, j < zs.length → zs.getD j 0 ≠ 0)
theorem fz_ex (zs : List Int) : ∃ i, Fz zs i := by
  have key : ∀ n, (∃ k, k < n ∧ zs.getD k 0 = 0 ∧ ∀ j, j < k → zs.getD j 0 ≠ 0) ∨ ∀ j, j < n → zs.getD j 0 ≠ 0 := by
    intro n
    induction n with
    | zero => exact Or.inr fun j hj => absurd hj (Nat.not_lt_zero _)
    | succ n ih =>
      rcases ih with ⟨k, h1, h2⟩ | h
      · exact Or.inl ⟨k, by omega, h2⟩
      · rcases Decidable.em (zs.getD n 0 = 0) with e | e
        · exact Or.inl ⟨n, by omega, e, h⟩
        · refine Or.inr fun j hj => ?_
          rcases Nat.lt_succ_iff_lt_or_eq.1 hj with hj | rfl
          · exact h j hj
          · exact e
  rcases key zs.length with ⟨k, h1, h2, h3⟩ | h
  · exact ⟨k, Or.inl ⟨k, rfl, h1, h2, h3⟩⟩
  · exact ⟨-1, Or.inr ⟨rfl, h⟩⟩
theorem Fz.hit {zs : List Int} {i : Int} (h : Fz zs i) {k : Nat} (hk : k < zs.length) (hz : zs.getD k 0 = 0) (hb : ∀ j, j < k → zs.getD j 0 ≠ 0) : i = k := by
  rcases h with ⟨k', rfl, h1, h2, h3⟩ | ⟨_, h⟩
  · rcases Nat.lt_trichotomy k k' with h | h | h
    · exact absurd hz (h3 _ h)
    · rw [h]
    · exact absurd h2 (hb _ h)
  · exact absurd hz (h k hk)
theorem Fz.miss {zs : List Int} {i : Int} (h : Fz zs i) (hb : ∀ j, j < zs.length → zs.getD j 0 ≠ 0) : i = -1 := by
  rcases h with ⟨k', rfl, h1, h2, _⟩ | ⟨h, _⟩
  · exact absurd h2 (hb _ h1)
  · exact h
theorem nz_grow {zs : List Int} {k : Nat} (h : ∀ j, j < k → zs.getD j 0 ≠ 0) (h1 : zs.getD k 0 ≠ 0) : ∀ j, j < k + 1 → zs.getD j 0 ≠ 0 := by
  intro j hj
  rcases Nat.lt_succ_iff_lt_or_eq.1 hj with hj | rfl
  · exact h j hj
  · exact h1

set_option maxHeartbeats 1000000 in
theorem index_any (v : Value) (zs : List Int) (i : Int) (hi : Fz zs i) (w : World) (hf : Ints w.heap.size w v zs) : Calls Try.prog 46 #[v, .int .i64 0] w fun e w' => e = .returned (.int .i64 i) ∧ w' = w := by
  obtain ⟨ar, cr, rfl, hlr, _, hcr⟩ := hf
  have Hcr := Lib.hid hcr
  have Hi := Lib.hid hi
  clear hcr hi
  go_enter Try.func46, Try.ntmps46
  go_wp2
  go_loop [8] (fun i => ∃ k : Nat, k ≤ zs.length ∧ i = .int .i64 k ∧ Hid (∀ j, j < k → zs.getD j 0 ≠ 0)) (fun i => zs.length - (intOf i).toNat)
  case atStart => exact ⟨0, Nat.zero_le _, rfl, Lib.hid fun j hj => absurd hj (Nat.not_lt_zero _)⟩
  case round =>
    obtain ⟨k, hk, rfl, hgood⟩ := hrel
    by_cases hlt : k < zs.length
    · obtain ⟨br, offr, vz, har, hbr, hcellr, hvz, hz⟩ := Hcr.out k hlt
      subst har hvz
      have hzz := getD_of hlt 0
      generalize zs[k] = z at *
      have Hzz := Lib.hid hzz
      clear hz hzz Hcr
      by_cases hz0 : z = 0
      · subst hz0
        have hik := Hi.out.hit hlt Hzz.out hgood.out
        go_wp2
        go_ret
        exact ⟨rfl, rfl⟩
      · have hzb : ((0 : Int) == z) = false := by rw [beq_eq_false_iff_ne]; exact Ne.symm hz0
        go_wp2
        go_round
        case rel => exact ⟨k + 1, by omega, by go_num, Lib.hid (nz_grow hgood.out (by rw [Hzz.out]; exact hz0))⟩
        case measure => simp [intOf]; omega
    · have hik := Hi.out.miss (fun j hj => hgood.out j (by omega))
      go_wp2
      go_ret
      exact ⟨rfl, rfl⟩

end Go.Proofs.Ytneeimfffoomgaa
