/- The contract of cpu.New. No condition beyond the reading. -/
import Derived.Test.YtbenfbfbohecmaaCm
import Derived.Laws.CopyOwn
namespace Go.Proofs.Ytbenfbfbohecmaa
open Go Go.RowKit Go.ChangeShapes Go.WideShapes Go.Deep
set_option linter.unusedVariables false

/-- A guest that is none. -/
def zeroM : Mach := ⟨[], 0, 0, false, false, 0, 0, 0, [], [], 0, 0⟩
/-- A guest with an image. -/
def imageM (img : List Int) : Mach := ⟨List.replicate 8 0, 0, 0, false, false, -1, 0, 0, img ++ List.replicate (256 - img.length) 0, [], 0, -1⟩
/-- What New answers. -/
def newC (img : List Int) : Int := if 256 < img.length then 1 else if img.any oddB = true then 2 else 0
def newM (img : List Int) : Mach := if 256 < img.length then zeroM else if img.any oddB = true then zeroM else imageM img

def NewPost (w : World) (m : Mach) (c : Int) (e : Ending) (w' : World) : Prop := ∃ ar cr am cm ao co, e = .returned (.tuple #[m.agg (.slice ar m.regs.length cr) (.slice am m.mem.length cm) (.slice ao m.out.length co), .int .i64 c]) ∧ MachOwn w.heap.size w' m (.slice ar m.regs.length cr) (.slice am m.mem.length cm) (.slice ao m.out.length co) ∧ Below w.heap.size w w'

theorem zeroM_own (base : Nat) (w : World) : MachOwn base w zeroM (.slice none 0 0) (.slice none 0 0) (.slice none 0 0) :=
  ⟨World.ownsRow_nil _ _ _ _, World.ownsRow_nil _ _ _ _, World.ownsRow_nil _ _ _ _, Or.inl rfl, Or.inl rfl, Or.inl rfl, Or.inl rfl, Or.inl rfl, Or.inl rfl⟩
theorem zero_post {w w' : World} {c : Int} (h : Below w.heap.size w w') : NewPost w zeroM c (.returned (.tuple #[.agg #[.slice none 0 0, .int .i64 0, .int .i64 0, .bool false, .bool false, .int .i64 0, .int .i64 0, .int .i64 0, .slice none 0 0, .slice none 0 0, .int .i64 0, .int .i64 0], .int .i64 c])) w' :=
  ⟨none, 0, none, 0, none, 0, rfl, zeroM_own _ _, h⟩

theorem zeroInts_eq (n : Nat) : zeroInts n = ((List.replicate n (0 : Int)).map (Value.int .i64)).toArray := by
  rw [List.map_replicate, ← zeroInts_list, Array.toArray_toList]
theorem own_block {w : World} {g base n : Nat} {zs : List Int} (h : w.heap[g]? = some (.cells (zs.map (Value.int .i64)).toArray 3 (0, 0))) (hb : base ≤ g) (hn : zs.length = n) (hm : n ≤ 1000000) : w.ownsRow base 3 1 (.slice (some ⟨g, 0, none⟩) n n) n (zs.map (Value.int .i64)) :=
  ⟨by simp [hn], .inr ⟨g, n, _, rfl, hb, h, Nat.le_refl _, by unfold maxLen; omega, by simp [hn], by rw [← hn]; simp [List.take_of_length_le]⟩⟩

theorem mk8 (w : World) : (Instr.makeSlice 22 (.int .i64 8) (.int .i64 8)).run Try.prog w = .ok (.slice (some ⟨w.heap.size, 0, none⟩) 8 8) (w.alloc (.cells (zeroInts 8) 3)) := mk_ints 8 (by omega) (by omega) w
theorem mk256 (w : World) : (Instr.makeSlice 22 (.int .i64 256) (.int .i64 256)).run Try.prog w = .ok (.slice (some ⟨w.heap.size, 0, none⟩) 256 256) (w.alloc (.cells (zeroInts 256) 3)) := mk_ints 256 (by omega) (by omega) w

/-- What stands behind the making: the result's box, the guest's box gb, its registers gr, its memory gm. -/
structure NewCut (w : World) (gb gr gm : Nat) (mem : List Int) (wx : World) : Prop where
  x : wx.heap[w.heap.size]? = some (.cells #[.slice none 0 0, .int .i64 0, .int .i64 0, .bool false, .bool false, .int .i64 0, .int .i64 0, .int .i64 0, .slice none 0 0, .slice none 0 0, .int .i64 0, .int .i64 0] 24 (0, 0))
  y : wx.heap[gb]? = some (.cells #[.slice (some ⟨gr, 0, none⟩) 8 8, .int .i64 0, .int .i64 0, .bool false, .bool false, .int .i64 (-1), .int .i64 0, .int .i64 0, .slice (some ⟨gm, 0, none⟩) 256 256, .slice none 0 0, .int .i64 0, .int .i64 (-1)] 24 (0, 0))
  r : wx.heap[gr]? = some (.cells ((List.replicate 8 (0 : Int)).map (Value.int .i64)).toArray 3 (0, 0))
  m : wx.heap[gm]? = some (.cells (mem.map (Value.int .i64)).toArray 3 (0, 0))
  b : Below w.heap.size w wx
  wr : w.heap.size < gr
  wm : w.heap.size < gm
  rm : gr ≠ gm

/-- What stays while a result is laid in the box g, cell by cell. -/
structure SInv (w0 : World) (g : Nat) (m : Mach) (vr vm vo : Value) (w : World) : Prop where
  own : MachOwn w0.heap.size w m vr vm vo
  box : ∃ cs, w.heap[g]? = some (.cells cs 24 (0, 0))
  below : Below w0.heap.size w0 w
theorem SInv.step {w0 w : World} {g : Nat} {m : Mach} {vr vm vo : Value} (hg : w0.heap.size ≤ g) (i : Nat) (u : Value) (h : SInv w0 g m vr vm vo w) : SInv w0 g m vr vm vo (w.setCell ⟨g, i, none⟩ u) := by
  obtain ⟨ho, ⟨cs, hb⟩, hB⟩ := h
  exact ⟨ho.set hb (by decide), ⟨_, set_block hb u⟩, hB.setCell (by simpa using hg) u⟩
theorem SInv.post {w0 w : World} {g : Nat} {m : Mach} {ar am ao : Option Addr} {cr cm co : Nat} {c : Int} (h : SInv w0 g m (.slice ar m.regs.length cr) (.slice am m.mem.length cm) (.slice ao m.out.length co) w) : NewPost w0 m c (.returned (.tuple #[m.agg (.slice ar m.regs.length cr) (.slice am m.mem.length cm) (.slice ao m.out.length co), .int .i64 c])) w :=
  ⟨ar, cr, am, cm, ao, co, rfl, h.own, h.below⟩

theorem SInv.post' {w0 w : World} {g n1 n2 n3 : Nat} {m : Mach} {ar am ao : Option Addr} {cr cm co : Nat} {c : Int} (e1 : n1 = m.regs.length) (e2 : n2 = m.mem.length) (e3 : n3 = m.out.length) (h : SInv w0 g m (.slice ar n1 cr) (.slice am n2 cm) (.slice ao n3 co) w) : NewPost w0 m c (.returned (.tuple #[m.agg (.slice ar n1 cr) (.slice am n2 cm) (.slice ao n3 co), .int .i64 c])) w := by
  subst e1 e2 e3
  exact h.post
theorem image_len (img : List Int) (h : img.length ≤ 256) : (imageM img).mem.length = 256 := by simp [imageM]; omega
theorem NewCut.own {w wx : World} {gb gr gm : Nat} {img : List Int} (hl : img.length ≤ 256) (h : NewCut w gb gr gm (imageM img).mem wx) : SInv w w.heap.size (imageM img) (.slice (some ⟨gr, 0, none⟩) 8 8) (.slice (some ⟨gm, 0, none⟩) 256 256) (.slice none 0 0) wx := by
  have l1 : (imageM img).regs.length = 8 := by simp [imageM]
  have l2 := image_len img hl
  have o1 := own_block (base := w.heap.size) h.r (by have := h.wr; omega) (n := 8) (by simp) (by omega)
  have o2 := own_block (base := w.heap.size) h.m (by have := h.wm; omega) (n := 256) l2 (by omega)
  refine ⟨⟨by rw [l1]; exact o1, by rw [l2]; exact o2, World.ownsRow_nil _ _ _ _, ?_, ?_, ?_, ?_, ?_, ?_⟩, ⟨_, h.x⟩, h.b⟩
  · exact Or.inr (by simp [Value.ownBlock]; exact h.rm)
  · exact Or.inr (by simp [Value.ownBlock])
  · exact Or.inr (by simp [Value.ownBlock])
  · exact Or.inr (by simp [Value.ownBlock]; exact fun e => h.rm e.symm)
  · exact Or.inl rfl
  · exact Or.inl rfl

theorem splice_n (n : Nat) (img : List Int) : ((((List.replicate n (0 : Int)).map (Value.int .i64)).toArray.toList.take 0) ++ (img.map (Value.int .i64) ++ ((List.replicate n (0 : Int)).map (Value.int .i64)).toArray.toList.drop (0 + (img.map (Value.int .i64)).length))).toArray = ((img ++ List.replicate (n - img.length) 0).map (Value.int .i64)).toArray := by
  simp
theorem splice_img (img : List Int) : ((((List.replicate 256 (0 : Int)).map (Value.int .i64)).toArray.toList.take 0) ++ (img.map (Value.int .i64) ++ ((List.replicate 256 (0 : Int)).map (Value.int .i64)).toArray.toList.drop (0 + (img.map (Value.int .i64)).length))).toArray = ((imageM img).mem.map (Value.int .i64)).toArray := splice_n 256 img
theorem NewCut.row {w wx : World} {gb gr gm : Nat} {img : List Int} (h : NewCut w gb gr gm (List.replicate 256 0) wx) (ngb : gb ≠ gm) :
    NewCut w gb gr gm (imageM img).mem (wx.setRow gm ((((List.replicate 256 (0 : Int)).map (Value.int .i64)).toArray.toList.take 0) ++ (img.map (Value.int .i64) ++ ((List.replicate 256 (0 : Int)).map (Value.int .i64)).toArray.toList.drop (0 + (img.map (Value.int .i64)).length))).toArray) := by
  rw [splice_img]
  exact ⟨(setRow_other _ _ _ _ (by have := h.wm; omega)).trans h.x, (setRow_other _ _ _ _ ngb).trans h.y, (setRow_other _ _ _ _ h.rm).trans h.r, setRow_heap _ _ _ _ _ _ h.m, below_setRow h.b (by have := h.wm; omega) _, h.wr, h.wm, h.rm⟩

end Go.Proofs.Ytbenfbfbohecmaa
