/- Bytes that are read are those that would be written; in plain Lean. No condition beyond those of each row. -/
import Derived.Test.YtiekilpddmdhnaaDoorDe
namespace Go.Proofs.YtiekilpddmdhnaaDoor
set_option linter.unusedVariables false

theorem evP_canon {a : Int} {bs r : List UInt8} {x : Ev} (h : evP a bs = (0, x, r)) : bs = evE a x ++ r ∧ a ≤ x.at_ := by
  obtain ⟨e, n, r1, hn⟩ : ∃ e n r1, numP 0 0 bs = (e, n, r1) := ⟨_, _, _, rfl⟩
  by_cases he : e = 0
  · subst he
    have hc := numP_canon hn
    rcases (show n % 4 = 0 ∨ n % 4 = 1 ∨ n % 4 = 2 ∨ n % 4 = 3 by omega) with hk | hk | hk | hk
    · rw [evP_0 hn hk] at h
      simp only [Prod.mk.injEq] at h
      exact absurd h.1 (by decide)
    · rw [evP_1 hn hk] at h
      simp only [Prod.mk.injEq, true_and] at h
      obtain ⟨rfl, rfl⟩ := h
      refine ⟨?_, by simp only; omega⟩
      unfold evE dataE
      rw [if_neg (by simp), if_neg (by simp), List.append_nil]
      simp only
      rw [show (4 * (a + ((n / 4 : Nat) : Int) - a) + 1).toNat = n by omega]
      exact hc
    · obtain ⟨e2, d, r2, hb⟩ : ∃ e2 d r2, blkP 16 [] 0 r1 = (e2, d, r2) := ⟨_, _, _, rfl⟩
      rw [evP_2 hn hk hb] at h
      simp only [Prod.mk.injEq] at h
      obtain ⟨rfl, rfl, rfl⟩ := h
      obtain ⟨t, ht, _, hbs, _⟩ := blkP_inv _ _ _ _ _ _ hb (by simp) (by simp)
      simp only [List.nil_append] at ht
      subst ht
      refine ⟨?_, by simp only; omega⟩
      unfold evE dataE
      simp only [if_pos]
      rw [show (4 * (a + ((n / 4 : Nat) : Int) - a) + 2).toNat = n by omega, List.append_assoc, ← hbs]
      exact hc
    · obtain ⟨e2, z, r2, hb⟩ : ∃ e2 z r2, numP 0 0 r1 = (e2, z, r2) := ⟨_, _, _, rfl⟩
      rw [evP_3 hn hk hb] at h
      simp only [Prod.mk.injEq] at h
      obtain ⟨rfl, rfl, rfl⟩ := h
      refine ⟨?_, by simp only; omega⟩
      unfold evE dataE
      rw [if_neg (by simp), if_pos rfl]
      simp only [List.getD_cons_zero]
      rw [show (4 * (a + ((n / 4 : Nat) : Int) - a) + 3).toNat = n by omega, zig_zag, List.append_assoc, ← numP_canon hb]
      exact hc
  · rw [evP_e hn he] at h
    simp only [Prod.mk.injEq] at h
    exact absurd h.1 he
theorem evsP_canon : ∀ (m : Nat) (a : Int) (bs r : List UInt8) (l : List Ev), evsP m a bs = (0, l, r) → bs = evsE a l ++ r ∧ l.length = m := by
  intro m
  induction m with
  | zero =>
    intro a bs r l h
    simp only [evsP, Prod.mk.injEq, true_and] at h
    obtain ⟨rfl, rfl⟩ := h
    exact ⟨rfl, rfl⟩
  | succ m ih =>
    intro a bs r l h
    obtain ⟨e, x, r1, hx⟩ : ∃ e x r1, evP a bs = (e, x, r1) := ⟨_, _, _, rfl⟩
    by_cases he : e = 0
    · subst he
      rw [evsP_go hx] at h
      obtain ⟨q1, q2, q3, hq⟩ : ∃ q1 q2 q3, evsP m x.at_ r1 = (q1, q2, q3) := ⟨_, _, _, rfl⟩
      rw [hq] at h
      simp only [Prod.mk.injEq] at h
      obtain ⟨rfl, rfl, rfl⟩ := h
      obtain ⟨h1, h2⟩ := ih _ _ _ _ hq
      refine ⟨?_, by rw [List.length_cons, h2]⟩
      rw [(evP_canon hx).1, h1, evsE, List.append_assoc]
    · rw [evsP_e hx he] at h
      simp only [Prod.mk.injEq] at h
      exact absurd h.1 he
theorem dec_canon {b : List UInt8} {l : List Ev} (h : DecR b 0 l) : b = encE l ∧ EvRes l 0 := by
  rcases h with ⟨_, h, _⟩ | ⟨_, h, _⟩ | ⟨_, _, _, h, _⟩ | ⟨h1, h2, hs, hb⟩
  · exact absurd h (by decide)
  · exact absurd h (by decide)
  · exact absurd h (by decide)
  · obtain ⟨e1, m, r1, hn, h⟩ := hb
    rcases h with ⟨_, h, _⟩ | ⟨_, h, h', _⟩ | ⟨hm, rfl, e, ev, r, he, h⟩
    · exact absurd h (by decide)
    · exact absurd h'.symm h
    · rcases h with ⟨h, h', _⟩ | ⟨_, _, h, _⟩ | ⟨rfl, rfl, hr, hl⟩
      · exact absurd h'.symm h
      · exact absurd h (by decide)
      · rw [if_pos rfl] at hl
        subst hl
        refine ⟨?_, hr⟩
        obtain ⟨k1, k2⟩ := evsP_canon _ _ _ _ _ he
        rw [List.append_nil] at k1
        have hp : b.take (b.length - 4) = payE l := by
          unfold payE
          rw [k2, numP_canon hn, ← k1]
        unfold encE
        rw [← hp, hs, List.take_append_drop]
theorem dec_err {b : List UInt8} {c : Int} {l : List Ev} (h : DecR b c l) (h0 : c ≠ 0) : l = [] := by
  rcases h with ⟨_, _, h⟩ | ⟨_, _, h⟩ | ⟨_, _, _, _, h⟩ | ⟨_, _, _, e1, m, r1, _, h⟩
  · exact h
  · exact h
  · exact h
  · rcases h with ⟨_, _, h⟩ | ⟨_, _, _, h⟩ | ⟨_, _, e, ev, r, _, h⟩
    · exact h
    · exact h
    · rcases h with ⟨_, _, h⟩ | ⟨_, _, _, h⟩ | ⟨_, _, _, h⟩
      · exact h
      · exact h
      · rw [if_neg h0] at h; exact h
end Go.Proofs.YtiekilpddmdhnaaDoor
