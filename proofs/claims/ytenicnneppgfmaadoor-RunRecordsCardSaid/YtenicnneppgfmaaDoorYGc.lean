/- The contract of the document's GuestCopy. No condition beyond the readings. -/
import Derived.Test.YtenicnneppgfmaaDoorYCm
import Derived.Handy
import Derived.Deep.CutBlock
import Derived.Deep.CutRange
namespace Go.Proofs.YtenicnneppgfmaaDoor
open Go Go.RowKit Go.ChangeShapes Go.WideShapes Go.Deep
set_option linter.unusedVariables false
attribute [local go_sem ↓] Go.wp_at_zero Go.wp_at_succ

/-- A guest that is being copied, slice by slice. -/
structure GCp (w0 : World) (m : Mach) (vr vm vo : Value) (w : World) : Prop where
  x : w.heap[w0.heap.size]? = some (.cells #[vr, .int .i64 m.pc, .int .i64 m.back, .bool m.ints, .bool m.wait, .int .i64 m.table, .int .i64 m.count, .int .i64 m.fin, vm, vo, .int .i64 m.ready, .int .i64 m.want] 30 (0, 0))
  y : w.heap[w0.heap.size + 1]? = some (.cells #[.slice none 0 0, .int .i64 0, .int .i64 0, .bool false, .bool false, .int .i64 0, .int .i64 0, .int .i64 0, .slice none 0 0, .slice none 0 0, .int .i64 0, .int .i64 0] 30 (0, 0))
  b : Below w0.heap.size w0 w
theorem GCp.s0 {w0 w w1 : World} {m : Mach} {vr vm vo : Value} (h : GCp w0 m vr vm vo w) (hb : Below w.heap.size w w1) (u : Value) : GCp w0 m u vm vo (w1.setCell ⟨w0.heap.size, 0, none⟩ u) := by
  have lx := (Array.getElem?_eq_some_iff.1 h.x).1
  have ly := (Array.getElem?_eq_some_iff.1 h.y).1
  have x1 := block_below hb h.x lx
  have y1 := block_below hb h.y ly
  refine ⟨by simpa using set_block (i := 0) x1 u, set_block_ne y1 (by omega) _, ((h.b.trans (hb.mono h.b.size)).setCell (by simp) _)⟩
theorem GCp.s8 {w0 w w1 : World} {m : Mach} {vr vm vo : Value} (h : GCp w0 m vr vm vo w) (hb : Below w.heap.size w w1) (u : Value) : GCp w0 m vr u vo (w1.setCell ⟨w0.heap.size, 8, none⟩ u) := by
  have lx := (Array.getElem?_eq_some_iff.1 h.x).1
  have ly := (Array.getElem?_eq_some_iff.1 h.y).1
  have x1 := block_below hb h.x lx
  have y1 := block_below hb h.y ly
  refine ⟨by simpa using set_block (i := 8) x1 u, set_block_ne y1 (by omega) _, ((h.b.trans (hb.mono h.b.size)).setCell (by simp) _)⟩
theorem GCp.s9 {w0 w w1 : World} {m : Mach} {vr vm vo : Value} (h : GCp w0 m vr vm vo w) (hb : Below w.heap.size w w1) (u : Value) : GCp w0 m vr vm u (w1.setCell ⟨w0.heap.size, 9, none⟩ u) := by
  have lx := (Array.getElem?_eq_some_iff.1 h.x).1
  have ly := (Array.getElem?_eq_some_iff.1 h.y).1
  have x1 := block_below hb h.x lx
  have y1 := block_below hb h.y ly
  refine ⟨by simpa using set_block (i := 9) x1 u, set_block_ne y1 (by omega) _, ((h.b.trans (hb.mono h.b.size)).setCell (by simp) _)⟩
theorem GCp.own {w0 w w1 : World} {m : Mach} {vr vm vo v : Value} {k n : Nat} {xs : List Value} {base : Nat} (h : GCp w0 m vr vm vo w) (hb : Below w.heap.size w w1) (ho : w1.ownsRow base 3 1 v n xs) (hbase : w0.heap.size ≤ base) (u : Value) : (w1.setCell ⟨w0.heap.size, k, none⟩ u).ownsRow w0.heap.size 3 1 v n xs := by
  have x1 := block_below hb h.x (Array.getElem?_eq_some_iff.1 h.x).1
  exact own_set (own_base ho hbase) (own_ne_block ho x1 (by decide)) _

set_option maxHeartbeats 4000000 in
set_option maxRecDepth 100000 in
theorem gcopy_any (m : Mach) (ar am ao : Option Addr) (cr cm co : Nat) (w : World) (hr : Ints w.heap.size w (.slice ar m.regs.length cr) m.regs) (hm : Ints w.heap.size w (.slice am m.mem.length cm) m.mem) (ho : Ints w.heap.size w (.slice ao m.out.length co) m.out) : Calls Tryd.prog 53 #[.agg #[.slice ar m.regs.length cr, .int .i64 m.pc, .int .i64 m.back, .bool m.ints, .bool m.wait, .int .i64 m.table, .int .i64 m.count, .int .i64 m.fin, .slice am m.mem.length cm, .slice ao m.out.length co, .int .i64 m.ready, .int .i64 m.want]] w (CopyPost w m) := by
  have HR := Lib.hid hr
  have HM := Lib.hid hm
  have HO := Lib.hid ho
  clear hr hm ho
  go_enter Tryd.func53, Tryd.ntmps53
  go_upto_region 1 with fail
  generalize hW : World.alloc (World.alloc w _) _ = W2
  have HG : Hid (GCp w m (.slice ar m.regs.length cr) (.slice am m.mem.length cm) (.slice ao m.out.length co) W2) := Lib.hid (by rw [← hW]; exact ⟨(alloc_lt (by simp)).trans (alloc_at rfl), alloc_at (by simp), below_alloc2 _ _ _⟩)
  clear hW
  have c0 : W2.cell? ⟨w.heap.size, 0, none⟩ = some (.slice ar m.regs.length cr) := cell_block HG.out.x 0
  have l0 := (Array.getElem?_eq_some_iff.1 HG.out.x).1
  go_cut [] from 3 (fun wx => ∃ a1 c1, Hid (GCp w m (.slice a1 m.regs.length c1) (.slice am m.mem.length cm) (.slice ao m.out.length co) wx) ∧ Hid (wx.ownsRow w.heap.size 3 1 (.slice a1 m.regs.length c1) m.regs.length (m.regs.map (Value.int .i64))))
  case first =>
    go_wp2_with (go_at_call 51; refine (wordsI_any _ m.regs _ (HR.out.to HG.out.b.size (same_below HG.out.b))).mono ?_; rintro e w1 ⟨a1, c1, rfl, hown1, hb1⟩; have x1 := block_below hb1 HG.out.x l0; have k0 : w1.cell? ⟨w.heap.size, 0, none⟩ = some (.slice ar m.regs.length cr) := cell_block x1 0; have f0 := free_block x1 0; have l1 := (Array.getElem?_eq_some_iff.1 x1).1; have HB1 := Lib.hid hb1; have HW1 := Lib.hid hown1; clear x1 hb1 hown1)
    go_meet
    case rel => exact ⟨a1, c1, Lib.hid (HG.out.s0 HB1.out _), Lib.hid (HG.out.own HB1.out HW1.out HG.out.b.size _)⟩
  case rest =>
  obtain ⟨a1, c1, HG1, HO1⟩ := hcut
  clear c0 l0 HG
  have c8 : wc.cell? ⟨w.heap.size, 8, none⟩ = some (.slice am m.mem.length cm) := cell_block HG1.out.x 8
  have l0 := (Array.getElem?_eq_some_iff.1 HG1.out.x).1
  go_upto_region 2 with fail
  go_cut [] from 3 (fun wx => ∃ a2 c2, Hid (GCp w m (.slice a1 m.regs.length c1) (.slice a2 m.mem.length c2) (.slice ao m.out.length co) wx) ∧ Hid (wx.ownsRow w.heap.size 3 1 (.slice a1 m.regs.length c1) m.regs.length (m.regs.map (Value.int .i64))) ∧ Hid (wx.ownsRow w.heap.size 3 1 (.slice a2 m.mem.length c2) m.mem.length (m.mem.map (Value.int .i64))) ∧ Hid (Apart (.slice a1 m.regs.length c1) (.slice a2 m.mem.length c2) ∧ Apart (.slice a2 m.mem.length c2) (.slice a1 m.regs.length c1)))
  case first =>
    go_wp2_with (go_at_call 51; refine (wordsI_any _ m.mem _ (HM.out.to HG1.out.b.size (same_below HG1.out.b))).mono ?_; rintro e w1 ⟨a2, c2, rfl, hown1, hb1⟩; have x1 := block_below hb1 HG1.out.x l0; have k0 : w1.cell? ⟨w.heap.size, 8, none⟩ = some (.slice am m.mem.length cm) := cell_block x1 8; have f0 := free_block x1 8; have l1 := (Array.getElem?_eq_some_iff.1 x1).1; have HB1 := Lib.hid hb1; have HW1 := Lib.hid hown1; clear x1 hb1 hown1)
    go_meet
    case rel => exact ⟨a2, c2, Lib.hid (HG1.out.s8 HB1.out _), Lib.hid (HG1.out.own HB1.out (own_below HO1.out HB1.out (Nat.le_refl _)) (Nat.le_refl _) _), Lib.hid (HG1.out.own HB1.out HW1.out HG1.out.b.size _), Lib.hid (apart_of HO1.out HW1.out (Nat.le_refl _))⟩
  case rest =>
  obtain ⟨a2, c2, HG2, HO12, HO22, HAP⟩ := hcut
  clear c8 l0 HG1 HO1
  have c9 : wc.cell? ⟨w.heap.size, 9, none⟩ = some (.slice ao m.out.length co) := cell_block HG2.out.x 9
  have l0 := (Array.getElem?_eq_some_iff.1 HG2.out.x).1
  go_upto_region 3 with fail
  go_cut [] from 3 (fun wx => ∃ a3 c3, Hid (GCp w m (.slice a1 m.regs.length c1) (.slice a2 m.mem.length c2) (.slice a3 m.out.length c3) wx) ∧ Hid (MachOwn w.heap.size wx m (.slice a1 m.regs.length c1) (.slice a2 m.mem.length c2) (.slice a3 m.out.length c3)))
  case first =>
    go_wp2_with (go_at_call 51; refine (wordsI_any _ m.out _ (HO.out.to HG2.out.b.size (same_below HG2.out.b))).mono ?_; rintro e w1 ⟨a3, c3, rfl, hown1, hb1⟩; have x1 := block_below hb1 HG2.out.x l0; have k0 : w1.cell? ⟨w.heap.size, 9, none⟩ = some (.slice ao m.out.length co) := cell_block x1 9; have f0 := free_block x1 9; have l1 := (Array.getElem?_eq_some_iff.1 x1).1; have HB1 := Lib.hid hb1; have HW1 := Lib.hid hown1; clear x1 hb1 hown1)
    go_meet
    case rel => exact ⟨a3, c3, Lib.hid (HG2.out.s9 HB1.out _), Lib.hid ⟨HG2.out.own HB1.out (own_below HO12.out HB1.out (Nat.le_refl _)) (Nat.le_refl _) _, HG2.out.own HB1.out (own_below HO22.out HB1.out (Nat.le_refl _)) (Nat.le_refl _) _, HG2.out.own HB1.out HW1.out HG2.out.b.size _, HAP.out.1, (apart_of HO12.out HW1.out (Nat.le_refl _)).1, (apart_of HO22.out HW1.out (Nat.le_refl _)).1, HAP.out.2, (apart_of HO12.out HW1.out (Nat.le_refl _)).2, (apart_of HO22.out HW1.out (Nat.le_refl _)).2⟩⟩
  case rest =>
  obtain ⟨a3, c3, HG3, HOWN⟩ := hcut
  clear c9 l0 HG2 HO12 HO22 HAP
  have q0 : wc.cell? ⟨w.heap.size, 0, none⟩ = some (.slice a1 m.regs.length c1) := cell_block HG3.out.x 0
  have q1 : wc.cell? ⟨w.heap.size, 1, none⟩ = some (.int .i64 m.pc) := cell_block HG3.out.x 1
  have q2 : wc.cell? ⟨w.heap.size, 2, none⟩ = some (.int .i64 m.back) := cell_block HG3.out.x 2
  have q3 : wc.cell? ⟨w.heap.size, 3, none⟩ = some (.bool m.ints) := cell_block HG3.out.x 3
  have q4 : wc.cell? ⟨w.heap.size, 4, none⟩ = some (.bool m.wait) := cell_block HG3.out.x 4
  have q5 : wc.cell? ⟨w.heap.size, 5, none⟩ = some (.int .i64 m.table) := cell_block HG3.out.x 5
  have q6 : wc.cell? ⟨w.heap.size, 6, none⟩ = some (.int .i64 m.count) := cell_block HG3.out.x 6
  have q7 : wc.cell? ⟨w.heap.size, 7, none⟩ = some (.int .i64 m.fin) := cell_block HG3.out.x 7
  have q8 : wc.cell? ⟨w.heap.size, 8, none⟩ = some (.slice a2 m.mem.length c2) := cell_block HG3.out.x 8
  have q9 : wc.cell? ⟨w.heap.size, 9, none⟩ = some (.slice a3 m.out.length c3) := cell_block HG3.out.x 9
  have q10 : wc.cell? ⟨w.heap.size, 10, none⟩ = some (.int .i64 m.ready) := cell_block HG3.out.x 10
  have q11 : wc.cell? ⟨w.heap.size, 11, none⟩ = some (.int .i64 m.want) := cell_block HG3.out.x 11
  have r0 : wc.cell? ⟨w.heap.size + 1, 0, none⟩ = some (.slice none 0 0) := cell_block HG3.out.y 0
  have g0 := free_block HG3.out.y 0
  have r1 : wc.cell? ⟨w.heap.size + 1, 1, none⟩ = some (.int .i64 0) := cell_block HG3.out.y 1
  have g1 := free_block HG3.out.y 1
  have r2 : wc.cell? ⟨w.heap.size + 1, 2, none⟩ = some (.int .i64 0) := cell_block HG3.out.y 2
  have g2 := free_block HG3.out.y 2
  have r3 : wc.cell? ⟨w.heap.size + 1, 3, none⟩ = some (.bool false) := cell_block HG3.out.y 3
  have g3 := free_block HG3.out.y 3
  have r4 : wc.cell? ⟨w.heap.size + 1, 4, none⟩ = some (.bool false) := cell_block HG3.out.y 4
  have g4 := free_block HG3.out.y 4
  have r5 : wc.cell? ⟨w.heap.size + 1, 5, none⟩ = some (.int .i64 0) := cell_block HG3.out.y 5
  have g5 := free_block HG3.out.y 5
  have r6 : wc.cell? ⟨w.heap.size + 1, 6, none⟩ = some (.int .i64 0) := cell_block HG3.out.y 6
  have g6 := free_block HG3.out.y 6
  have r7 : wc.cell? ⟨w.heap.size + 1, 7, none⟩ = some (.int .i64 0) := cell_block HG3.out.y 7
  have g7 := free_block HG3.out.y 7
  have r8 : wc.cell? ⟨w.heap.size + 1, 8, none⟩ = some (.slice none 0 0) := cell_block HG3.out.y 8
  have g8 := free_block HG3.out.y 8
  have r9 : wc.cell? ⟨w.heap.size + 1, 9, none⟩ = some (.slice none 0 0) := cell_block HG3.out.y 9
  have g9 := free_block HG3.out.y 9
  have r10 : wc.cell? ⟨w.heap.size + 1, 10, none⟩ = some (.int .i64 0) := cell_block HG3.out.y 10
  have g10 := free_block HG3.out.y 10
  have r11 : wc.cell? ⟨w.heap.size + 1, 11, none⟩ = some (.int .i64 0) := cell_block HG3.out.y 11
  have g11 := free_block HG3.out.y 11
  have l0 := (Array.getElem?_eq_some_iff.1 HG3.out.x).1
  have l1 := (Array.getElem?_eq_some_iff.1 HG3.out.y).1
  go_wp2
  refine bodyPost_ret (v := .agg #[.slice a1 m.regs.length c1, .int .i64 m.pc, .int .i64 m.back, .bool m.ints, .bool m.wait, .int .i64 m.table, .int .i64 m.count, .int .i64 m.fin, .slice a2 m.mem.length c2, .slice a3 m.out.length c3, .int .i64 m.ready, .int .i64 m.want]) (by simp [results, Tryd.results53, go_sem, r0, r1, r2, r3, r4, r5, r6, r7, r8, r9, r10, r11]) rfl ?_
  have hS := SetInv.mk' HOWN.out HG3.out.y HG3.out.b
  have hS' := ((((((((((((hS.step 0 (.slice a1 m.regs.length c1)).step 1 (.int .i64 m.pc)).step 2 (.int .i64 m.back)).step 3 (.bool m.ints)).step 4 (.bool m.wait)).step 5 (.int .i64 m.table)).step 6 (.int .i64 m.count)).step 7 (.int .i64 m.fin)).step 8 (.slice a2 m.mem.length c2)).step 9 (.slice a3 m.out.length c3)).step 10 (.int .i64 m.ready)).step 11 (.int .i64 m.want))
  exact ⟨a1, c1, a2, c2, a3, c3, rfl, hS'.own, hS'.below⟩
end Go.Proofs.YtenicnneppgfmaaDoor
