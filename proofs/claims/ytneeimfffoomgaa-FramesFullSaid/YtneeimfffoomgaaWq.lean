/- The contract of the reference's WroteOf where a copy is written. No condition. -/
import Derived.Test.YtneeimfffoomgaaWp
namespace Go.Proofs.Ytneeimfffoomgaa
open Go Go.RowKit Go.ChangeShapes Go.WideShapes Go.Deep
set_option linter.unusedVariables false
attribute [local go_sem ↓] Go.wp_at_zero Go.wp_at_succ

/-- A cloned row is put into the frame i. -/
theorem wrow_close {w W2 W2' w3 : World} {g n m gd gr cd cr i d1 : Nat} {rs : List (List Int)} {zs row : List Int} {vs : List Value} {b1 : Option Addr} (hd : W2' = W2.drew) (hn : n = rs.length) (hm : m = zs.length) (h : FBx w g rs zs (.slice (some ⟨gd, 0, none⟩) n cd) (.slice (some ⟨gr, 0, none⟩) m cr) vs W2)
    (own1 : w3.ownsRow W2'.heap.size 3 1 (.slice b1 row.length d1) row.length (row.map (Value.int .i64))) (hb3 : Below W2'.heap.size W2' w3) (hi : i < rs.length) (hiz : i < zs.length) :
    FBx w g (rs.set i row) zs (.slice (some ⟨gd, 0, none⟩) n cd) (.slice (some ⟨gr, 0, none⟩) m cr) (vs.set i (.slice b1 row.length d1)) (w3.setCell ⟨gd, i, none⟩ (.slice b1 row.length d1)) := by
  subst hd
  have s0 : W2.drew.heap.size = W2.heap.size := rfl
  rw [s0] at own1 hb3
  have hb : Below W2.heap.size W2 w3 := (Below.refl _ _).drew.trans hb3
  have A1 : Apart (.slice b1 row.length d1) (.slice (some ⟨gr, 0, none⟩) m cr) ∧ Apart (.slice (some ⟨gr, 0, none⟩) m cr) (.slice b1 row.length d1) := by
    subst hm
    have := apart_of h.o.r own1 (Nat.le_refl _)
    exact ⟨this.2, this.1⟩
  have A2 : ∀ j, j < rs.length → Apart (.slice b1 row.length d1) (vs.getD j undef) ∧ Apart (vs.getD j undef) (.slice b1 row.length d1) := fun j hj => by
    have := apart_of (h.o.rows j hj).1 own1 (Nat.le_refl _)
    exact ⟨this.2, this.1⟩
  have h3 := h.grown hb
  obtain ⟨gd', gr', e1, e2, _, _, hat⟩ := h3.o.at' hn hm hi hiz
  simp only [Option.some.injEq, Addr.mk.injEq, and_true] at e1 e2
  subst e1 e2
  obtain ⟨_, _, _, _, ld, lr, wd, wr, ⟨curd, bd⟩, _⟩ := hat i hi hiz
  have hu := own_base own1 (b' := w.heap.size) (by have := h.b.size; exact this)
  exact h3.put bd (i := i) (u := .slice b1 row.length d1) (by decide) wd (h3.o.setRow' hn hi hu A1.1 A1.2 (fun j hj _ => A2 j hj))

end Go.Proofs.Ytneeimfffoomgaa
