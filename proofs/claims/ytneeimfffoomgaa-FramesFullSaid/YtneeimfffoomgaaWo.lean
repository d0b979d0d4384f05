/- The contract of the reference's WroteOf. No condition. -/
import Derived.Test.YtneeimfffoomgaaWc
namespace Go.Proofs.Ytneeimfffoomgaa
open Go Go.RowKit Go.ChangeShapes Go.WideShapes Go.Deep
set_option linter.unusedVariables false
attribute [local go_sem ↓] Go.wp_at_zero Go.wp_at_succ

/-- The reading of the row k of frames. -/
theorem row_at {rs : List (List Int)} {zs : List Int} {w : World} {B k : Nat} {vr : Value} {a : Option Addr} {c1 : Nat} (hf : FramesR B w (.agg #[.slice a rs.length c1, vr]) rs zs) (hk : k < rs.length) : ∃ b off vi, a = some ⟨b, off, none⟩ ∧ b < B ∧ w.cell? ⟨b, off + k, none⟩ = some vi ∧ Ints B w vi (rs.getD k []) := by
  obtain ⟨vd', vr', hv, ⟨a0, c, hvd, _, _, hc⟩, _⟩ := hf
  simp only [Value.agg.injEq, Array.mk.injEq, List.cons.injEq, and_true] at hv
  obtain ⟨rfl, rfl⟩ := hv
  simp only [Value.slice.injEq, true_and] at hvd
  obtain ⟨rfl, rfl⟩ := hvd
  obtain ⟨b, off, vi, ha, hb, hcell, hvi⟩ := hc k hk
  rw [← getD_of hk []] at hvi
  exact ⟨b, off, vi, ha, hb, hcell, hvi⟩

theorem frames_put {wx : World} {p q i : Nat} {cs cur : Array Value} {t : TypeId} {fr : Nat × Nat} {u : Value} (hp : wx.heap[p]? = some (.cells cs 46 fr)) (hq : wx.heap[q]? = some (.cells cur t (0, 0))) (ht : 46 ≠ t) : (wx.setCell ⟨q, i, none⟩ u).heap[p]? = some (.cells cs 46 fr) := by
  refine set_block_ne hp (fun e => ?_) _
  subst e
  rw [hq] at hp
  simp only [Option.some.injEq, Obj.cells.injEq] at hp
  exact ht hp.2.1.symm

/-- What stands behind the copy of the frames, in a box g. -/
theorem wo_open {w w1 w2 : World} {rs : List (List Int)} {zs : List Int} {vs : List Value} {vd vr pd pr : Value} (hB : Below w.heap.size w w1) (hx : w1.heap[w.heap.size]? = some (.cells #[pd, pr] 46 (0, 0))) (hy : w1.heap[w.heap.size + 1]? = some (.cells #[.slice none 0 0, .slice none 0 0] 46 (0, 0)))
    (hown : FrOwn w1.heap.size w2 vd vr rs zs vs) (hb2 : Below w1.heap.size w1 w2) :
    FBx w w2.heap.size rs zs vd vr vs (w2.alloc (.cells #[vd, vr] 46 (0, 0))) ∧ (w2.alloc (.cells #[vd, vr] 46 (0, 0))).heap[w.heap.size]? = some (.cells #[pd, pr] 46 (0, 0)) := by
  have l1 := (Array.getElem?_eq_some_iff.1 hx).1
  have l2 := (Array.getElem?_eq_some_iff.1 hy).1
  have s1 := hB.size
  have s2 := hb2.size
  have x2 := block_below hb2 hx l1
  have y2 := block_below hb2 hy l2
  exact ⟨⟨alloc_at rfl, (alloc_lt (by omega)).trans y2, (hown.base (b' := w.heap.size) (by omega)).grown (below_alloc _ _), (hB.trans (hb2.mono (by omega))).alloc (by omega) _⟩, (alloc_lt (by omega)).trans x2⟩
end Go.Proofs.Ytneeimfffoomgaa
