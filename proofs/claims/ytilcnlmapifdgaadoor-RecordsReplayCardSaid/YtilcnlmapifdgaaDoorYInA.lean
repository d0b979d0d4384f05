/- What the contract of instr is made of. No condition. -/
import Derived.Test.YtilcnlmapifdgaaDoorYPk
import Derived.Test.YtilcnlmapifdgaaDoorYCpu1
import Derived.Test.YtilcnlmapifdgaaDoorYEv
import Derived.Deep.RegionHeld3
import Derived.Deep.CutBlock
import Derived.IntWalk
namespace Go.Proofs.YtilcnlmapifdgaaDoor
open Go Go.RowKit Go.ChangeShapes Go.WideShapes Go.Deep
set_option linter.unusedVariables false
attribute [local go_sem ↓] Go.wp_at_zero Go.wp_at_succ

/-- An instruction that may be is handed back. -/
def InPost (w : World) (e : Ending) (w' : World) : Prop := ∃ op a b n : Int, e = .returned (.agg #[.int .i64 op, .int .i64 a, .int .i64 b, .int .i64 n]) ∧ iCode op a b n = 0 ∧ Below w.heap.size w w'

/-- What stands behind the first words: the raw thing's box, the result's box, the instruction's box. -/
structure ICut (w : World) (k a b c : Int) (gi : Nat) (x y : Int) (wx : World) : Prop where
  r : wx.heap[w.heap.size]? = some (.cells #[.int .i64 k, .int .i64 a, .int .i64 b, .int .i64 c] 105 (0, 0))
  o : wx.heap[w.heap.size + 1]? = some (.cells #[.int .i64 0, .int .i64 0, .int .i64 0, .int .i64 0] 92 (0, 0))
  i : wx.heap[gi]? = some (.cells #[.int .i64 0, .int .i64 x, .int .i64 y, .int .i64 0] 92 (0, 0))
  b : Below w.heap.size w wx
  gt : w.heap.size + 1 < gi

/-- What stands behind the switch. -/
structure IEnd (w : World) (gi : Nat) (op a b n : Int) (wx : World) : Prop where
  o : wx.heap[w.heap.size + 1]? = some (.cells #[.int .i64 0, .int .i64 0, .int .i64 0, .int .i64 0] 92 (0, 0))
  i : wx.heap[gi]? = some (.cells #[.int .i64 op, .int .i64 a, .int .i64 b, .int .i64 n] 92 (0, 0))
  b : Below w.heap.size w wx
theorem tdiv8 (c : Int) (h1 : -9223372036854775808 ≤ c) (h2 : c ≤ 9223372036854775807) : -9223372036854775808 ≤ c.tdiv 8 ∧ c.tdiv 8 ≤ 9223372036854775807 := by
  by_cases h : 0 ≤ c
  · rw [Int.tdiv_eq_ediv_of_nonneg h]; omega
  · have e : c.tdiv 8 = -((-c) / 8) := by
      have : c.tdiv 8 = -((-c).tdiv 8) := by rw [Int.neg_tdiv, Int.neg_neg]
      rw [this, Int.tdiv_eq_ediv_of_nonneg (by omega)]
    rw [e]; omega
theorem ICut.grown {w wx wy : World} {k a b c x y : Int} {gi : Nat} (h : ICut w k a b c gi x y wx) (hb : Below wx.heap.size wx wy) : ICut w k a b c gi x y wy :=
  ⟨block_below hb h.r (Array.getElem?_eq_some_iff.1 h.r).1, block_below hb h.o (Array.getElem?_eq_some_iff.1 h.o).1, block_below hb h.i (Array.getElem?_eq_some_iff.1 h.i).1, h.b.trans (hb.mono h.b.size), h.gt⟩
theorem iend2 {w wx : World} {k a b c x y op n : Int} {gi : Nat} (h : ICut w k a b c gi x y wx) : IEnd w gi op x y n ((wx.setCell ⟨gi, 0, none⟩ (.int .i64 op)).setCell ⟨gi, 3, none⟩ (.int .i64 n)) :=
  ⟨set_block_ne (set_block_ne h.o (by have := h.gt; omega) _) (by have := h.gt; omega) _, by simpa using set_block (i := 3) (set_block (i := 0) h.i (.int .i64 op)) (.int .i64 n), ((h.b.setCell (by have := h.gt; simp; omega) _).setCell (by have := h.gt; simp; omega) _)⟩
theorem iend3 {w wx : World} {k a b c x y op m n : Int} {gi : Nat} (h : ICut w k a b c gi x y wx) : IEnd w gi op x m n (((wx.setCell ⟨gi, 0, none⟩ (.int .i64 op)).setCell ⟨gi, 2, none⟩ (.int .i64 m)).setCell ⟨gi, 3, none⟩ (.int .i64 n)) :=
  ⟨set_block_ne (set_block_ne (set_block_ne h.o (by have := h.gt; omega) _) (by have := h.gt; omega) _) (by have := h.gt; omega) _, by simpa using set_block (i := 3) (set_block (i := 2) (set_block (i := 0) h.i (.int .i64 op)) (.int .i64 m)) (.int .i64 n), (((h.b.setCell (by have := h.gt; simp; omega) _).setCell (by have := h.gt; simp; omega) _).setCell (by have := h.gt; simp; omega) _)⟩
theorem iend1 {w wx : World} {k a b c x y op : Int} {gi : Nat} (h : ICut w k a b c gi x y wx) : IEnd w gi op x y 0 (wx.setCell ⟨gi, 0, none⟩ (.int .i64 op)) :=
  ⟨set_block_ne h.o (by have := h.gt; omega) _, by simpa using set_block (i := 0) h.i (.int .i64 op), (h.b.setCell (by have := h.gt; simp; omega) _)⟩

theorem IEnd.grown {w wx wy : World} {gi : Nat} {op a b n : Int} (h : IEnd w gi op a b n wx) (hb : Below wx.heap.size wx wy) : IEnd w gi op a b n wy :=
  ⟨block_below hb h.o (Array.getElem?_eq_some_iff.1 h.o).1, block_below hb h.i (Array.getElem?_eq_some_iff.1 h.i).1, h.b.trans (hb.mono h.b.size)⟩

end Go.Proofs.YtilcnlmapifdgaaDoor
