/- The contract of the reference's FramesCopy: frames whose memory is the call's own. No condition. -/
import Derived.Test.YtneeimfffoomgaaFc
namespace Go.Proofs.Ytneeimfffoomgaa
open Go Go.RowKit Go.ChangeShapes Go.WideShapes Go.Deep
set_option linter.unusedVariables false
attribute [local go_sem ↓] Go.wp_at_zero Go.wp_at_succ

/-- What holds ahead of round k: the frames' box at block B0, the argument's box at block B0 - 2. -/
def DLoop (w : World) (ad : Option Addr) (cd : Nat) (ar : Option Addr) (cr : Nat) (rs : List (List Int)) (zs : List Int) (g : Nat) (vr : Value) (k : Nat) (wr : World) : Prop := ∃ (vd : Value) (vs : List Value), vs.length = k ∧ w.heap.size + 1 < g ∧
  wr.heap[w.heap.size]? = some (.cells #[.slice ad rs.length cd, .slice ar zs.length cr] 46 (0, 0)) ∧ wr.heap[w.heap.size + 1]? = some (.cells #[.slice none 0 0, .slice none 0 0] 46 (0, 0)) ∧
  wr.heap[g]? = some (.cells #[vd, vr] 46 (0, 0)) ∧
  wr.ownsRow w.heap.size 24 1 vd k vs ∧ wr.ownsRow w.heap.size 3 1 vr zs.length (zs.map (Value.int .i64)) ∧ RowsOwn w.heap.size wr vr rs k vs ∧ Below w.heap.size w wr

theorem dloop_step {w wr wr' w3 w4 : World} {ad : Option Addr} {cd : Nat} {ar : Option Addr} {cr : Nat} {rs : List (List Int)} {zs : List Int} {g : Nat} {vr : Value} {k : Nat} {vs : List Value} {row : List Int} {adk b1 : Option Addr} {cdk d1 g4 cp4 : Nat}
    (hd : wr' = wr.drew) (hrow : rs.getD k [] = row) (hk : k < rs.length) (hl : vs.length = k) (hgw : w.heap.size + 1 < g)
    (hx : wr.heap[w.heap.size]? = some (.cells #[.slice ad rs.length cd, .slice ar zs.length cr] 46 (0, 0))) (hy : wr.heap[w.heap.size + 1]? = some (.cells #[.slice none 0 0, .slice none 0 0] 46 (0, 0)))
    (hbox : wr.heap[g]? = some (.cells #[.slice adk k cdk, vr] 46 (0, 0))) (hdo : wr.ownsRow w.heap.size 24 1 (.slice adk k cdk) k vs) (hr : wr.ownsRow w.heap.size 3 1 vr zs.length (zs.map (Value.int .i64)))
    (hrows : RowsOwn w.heap.size wr vr rs k vs) (hb : Below w.heap.size w wr)
    (own1 : w3.ownsRow wr'.heap.size 3 1 (.slice b1 row.length d1) row.length (row.map (Value.int .i64))) (k1 : Below wr'.heap.size wr' w3)
    (own4 : w4.ownsRow w.heap.size 24 1 (.slice (some ⟨g4, 0, none⟩) (k + 1) cp4) (k + 1) (vs ++ [.slice b1 row.length d1])) (hg4 : w3.grownBy w4 (Value.slice adk k cdk).ownBlock) :
    DLoop w ad cd ar cr rs zs g vr (k + 1) (w4.setCell ⟨g, 0, none⟩ (.slice (some ⟨g4, 0, none⟩) (k + 1) cp4)) := by
  subst hrow hd
  have s0 : wr.drew.heap.size = wr.heap.size := rfl
  have s1 := k1.size
  have s2 := hb.size
  rw [s0] at s1 own1 k1
  have x3 := block_below k1 hx (Array.getElem?_eq_some_iff.1 hx).1
  have y3 := block_below k1 hy (Array.getElem?_eq_some_iff.1 hy).1
  have b3 := block_below k1 hbox (Array.getElem?_eq_some_iff.1 hbox).1
  have do3 := own_below (w := wr.drew) hdo k1 (Nat.le_refl _)
  have x4 := block_grown hg4 x3 (own_ne_block do3 x3 (by decide))
  have y4 := block_grown hg4 y3 (own_ne_block do3 y3 (by decide))
  have b4 := block_grown hg4 b3 (own_ne_block do3 b3 (by decide))
  have step : ∀ {v : Value} {n : Nat} {xs : List Value}, wr.ownsRow w.heap.size 3 1 v n xs → (w4.setCell ⟨g, 0, none⟩ (.slice (some ⟨g4, 0, none⟩) (k + 1) cp4)).ownsRow w.heap.size 3 1 v n xs := fun h => by
    have h3 := own_below (w := wr.drew) h k1 (Nat.le_refl _)
    have h4 := h3.kept hg4 (own_ne h3 do3 (by decide))
    exact own_set h4 (own_ne_block h4 b4 (by decide)) _
  have n3 := own_base own1 (b' := w.heap.size) (by omega)
  have n4 := n3.kept hg4 (own_ne n3 do3 (by decide))
  have n5 := own_set (g := g) (i := 0) n4 (own_ne_block n4 b4 (by decide)) (.slice (some ⟨g4, 0, none⟩) (k + 1) cp4)
  have getk : (vs ++ [Value.slice b1 (rs.getD k []).length d1]).getD k undef = .slice b1 (rs.getD k []).length d1 := by simp [List.getD, ← hl]
  have getj : ∀ j, j < k → (vs ++ [Value.slice b1 (rs.getD k []).length d1]).getD j undef = vs.getD j undef := fun j hj => by simp [List.getD, List.getElem?_append_left (show j < vs.length by omega)]
  refine ⟨_, vs ++ [.slice b1 (rs.getD k []).length d1], by simp [hl], hgw, set_block_ne x4 (by omega) _, set_block_ne y4 (by omega) _, set_block b4 _, own_set own4 (own_ne_block own4 b4 (by decide)) _, step hr, ?_, ?_⟩
  · intro j hj
    by_cases hjk : j = k
    · subst hjk
      rw [getk]
      have A1 := apart_of (w := wr.drew) hr own1 (Nat.le_refl _)
      refine ⟨n5, A1.2, A1.1, fun i hi hij => ?_⟩
      rw [getj i (by omega)]
      exact (apart_of (w := wr.drew) (hrows i (by omega)).1 own1 (Nat.le_refl _)).2
    · obtain ⟨q1, q2, q3, q4⟩ := hrows j (by omega)
      rw [getj j (by omega)]
      refine ⟨step q1, q2, q3, fun i hi hij => ?_⟩
      by_cases hik : i = k
      · subst hik
        rw [getk]
        exact (apart_of (w := wr.drew) q1 own1 (Nat.le_refl _)).1
      · rw [getj i (by omega)]
        exact q4 i (by omega) hij
  · exact (below_grown (hb.drew.trans (k1.mono s2)) do3 hg4 (by omega) (Nat.le_refl _)).setCell (by simp; omega) _

end Go.Proofs.Ytneeimfffoomgaa
