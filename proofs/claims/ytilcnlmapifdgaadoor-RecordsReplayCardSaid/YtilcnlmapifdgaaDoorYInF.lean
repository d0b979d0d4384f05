/- The contract of instr, where its kind is 19. No condition beyond it. -/
import Derived.Test.YtilcnlmapifdgaaDoorYInA
namespace Go.Proofs.YtilcnlmapifdgaaDoor
open Go Go.RowKit Go.ChangeShapes Go.WideShapes Go.Deep
set_option linter.unusedVariables false
attribute [local go_sem ↓] Go.wp_at_zero Go.wp_at_succ

set_option maxHeartbeats 40000000 in
set_option maxRecDepth 100000 in
theorem instr_19_0 (v : Value) (k a b c : Int) (w : World) (hv : RawR v k a b c) (hr : 19 ≤ pickZ k 24 ∧ pickZ k 24 < 20) (hq : pickZ c 2 = 0) : Calls Tryd.prog 49 #[v] w (InPost w) := by
  obtain ⟨rfl, hk, ha, hb, hc⟩ := hv
  obtain ⟨hk1, hk2⟩ := hk
  obtain ⟨ha1, ha2⟩ := ha
  obtain ⟨hb1, hb2⟩ := hb
  obtain ⟨hc1, hc2⟩ := hc
  go_enter Tryd.func49, Tryd.ntmps49
  go_upto_region 1 with fail
  go_cut [3] (fun s3 wx => ∃ gi x y, s3 = .pointer (some ⟨gi, 0, none⟩) ∧ 0 ≤ x ∧ x < 6 ∧ 0 ≤ y ∧ y < 6 ∧ ICut w k a b c gi x y wx)
  case first =>
    go_region_with ((go_at_call 22; refine (picked_in _ _ _ ?_ ?_ ?_ ?_).mono ?_; (first | exact ha1 | exact hb1); (first | exact ha2 | exact hb2); omega; omega; rintro e w' ⟨z, hz1, hz2, rfl, rfl⟩))
    all_goals (go_wp2_with fail; go_meet)
    all_goals refine ⟨_, _, _, rfl, ?_, ?_, ?_, ?_, ⟨(alloc_lt (by simp; omega)).trans ((alloc_lt (by simp)).trans (alloc_at rfl)), (alloc_lt (by simp)).trans (alloc_at (by simp)), alloc_at (by simp), ((below_alloc2 _ _ _).alloc (by simp; omega) _).drew, by omega⟩⟩ <;> assumption
  case rest =>
    obtain ⟨gi, x, y, rfl, hx1, hx2, hy1, hy2, hI⟩ := hcut
    have c0 : wc.cell? ⟨w.heap.size, 0, none⟩ = some (.int .i64 k) := cell_block hI.r 0
    have c3 : wc.cell? ⟨w.heap.size, 3, none⟩ = some (.int .i64 c) := cell_block hI.r 3
    have i0 : wc.cell? ⟨gi, 0, none⟩ = some (.int .i64 0) := cell_block hI.i 0
    have i1 : wc.cell? ⟨gi, 1, none⟩ = some (.int .i64 x) := cell_block hI.i 1
    have i2 : wc.cell? ⟨gi, 2, none⟩ = some (.int .i64 y) := cell_block hI.i 2
    have i3 : wc.cell? ⟨gi, 3, none⟩ = some (.int .i64 0) := cell_block hI.i 3
    have o0 : wc.cell? ⟨w.heap.size + 1, 0, none⟩ = some (.int .i64 0) := cell_block hI.o 0
    have o1 : wc.cell? ⟨w.heap.size + 1, 1, none⟩ = some (.int .i64 0) := cell_block hI.o 1
    have o2 : wc.cell? ⟨w.heap.size + 1, 2, none⟩ = some (.int .i64 0) := cell_block hI.o 2
    have o3 : wc.cell? ⟨w.heap.size + 1, 3, none⟩ = some (.int .i64 0) := cell_block hI.o 3
    have f0 := free_block hI.i 0
    have f1 := free_block hI.i 1
    have f2 := free_block hI.i 2
    have f3 := free_block hI.i 3
    have g0 := free_block hI.o 0
    have g1 := free_block hI.o 1
    have g2 := free_block hI.o 2
    have g3 := free_block hI.o 3
    have lgi : gi < wc.heap.size := (Array.getElem?_eq_some_iff.1 hI.i).1
    have lgo : w.heap.size + 1 < wc.heap.size := (Array.getElem?_eq_some_iff.1 hI.o).1
    have lgr : w.heap.size < wc.heap.size := by omega
    have ne1 : gi ≠ w.heap.size + 1 := by have := hI.gt; omega
    have ne2 : w.heap.size + 1 ≠ gi := fun e => ne1 e.symm
    have ne3 : gi ≠ w.heap.size := by have := hI.gt; omega
    have ne4 : w.heap.size ≠ gi := fun e => ne3 e.symm
    have HI := Lib.hid hI
    clear hI
    go_upto_region 2 with fail
    go_cut [4] (fun s4 wx => ∃ z : Int, s4 = .int .i64 z ∧ z = pickZ k 24 ∧ wx = wc)
    case first =>
      go_wp2_with (go_at_call 22; refine (picked_any _ _ _ hk1 hk2 (by omega) (by omega)).mono ?_; rintro e w' ⟨rfl, rfl⟩)
      go_meet
      exact ⟨_, rfl, rfl, rfl⟩
    case rest =>
    obtain ⟨z, rfl, hz, hwx⟩ := hcut
    subst hwx
    rw [← hz] at hr
    clear hz
    go_upto_block 0 with fail
    go_cut [] (fun wx => ∃ op a b n : Int, iCode op a b n = 0 ∧ IEnd w gi op a b n wx)
    case first =>
      clear o0 o1 o2 o3 g0 g1 g2 g3 hk1 hk2 ha1 ha2 hb1 hb2 c0 i1 f1 lgo ne1 ne2
      obtain ⟨hz1, hz2⟩ := hr
      obtain rfl : z = 19 := by omega
      go_upto_region 21 with fail
      go_region_with (go_at_call 22; refine (picked_any _ _ _ (by omega) (by omega) (by omega) (by omega)).mono ?_; rintro e w' ⟨he, rfl⟩; (try rw [hq] at he); subst he)
      all_goals (go_wp2_with fail; go_meet)
      all_goals exact ⟨11, x, y, 4, (iCode0 (by omega) (by omega) (by omega)).symm, (iend2 HI.out).grown (below_alloc _ _).drew⟩
    case rest =>
      obtain ⟨op, a1, b1, n, hcode, hE⟩ := hcut
      clear c0 c3 i0 i1 i2 i3 o0 o1 o2 o3 f0 f1 f2 f3 g0 g1 g2 g3 lgi lgo lgr
      have i0 : wc.cell? ⟨gi, 0, none⟩ = some (.int .i64 op) := cell_block hE.i 0
      have i1 : wc.cell? ⟨gi, 1, none⟩ = some (.int .i64 a1) := cell_block hE.i 1
      have i2 : wc.cell? ⟨gi, 2, none⟩ = some (.int .i64 b1) := cell_block hE.i 2
      have i3 : wc.cell? ⟨gi, 3, none⟩ = some (.int .i64 n) := cell_block hE.i 3
      have o0 : wc.cell? ⟨w.heap.size + 1, 0, none⟩ = some (.int .i64 0) := cell_block hE.o 0
      have o1 : wc.cell? ⟨w.heap.size + 1, 1, none⟩ = some (.int .i64 0) := cell_block hE.o 1
      have o2 : wc.cell? ⟨w.heap.size + 1, 2, none⟩ = some (.int .i64 0) := cell_block hE.o 2
      have o3 : wc.cell? ⟨w.heap.size + 1, 3, none⟩ = some (.int .i64 0) := cell_block hE.o 3
      have g0 := free_block hE.o 0
      have g1 := free_block hE.o 1
      have g2 := free_block hE.o 2
      have g3 := free_block hE.o 3
      have lgo : w.heap.size + 1 < wc.heap.size := (Array.getElem?_eq_some_iff.1 hE.o).1
      have HE := Lib.hid hE
      have HCO := Lib.hid hcode
      clear hE hcode
      go_wp2
      exact bodyPost_ret (v := .agg #[.int .i64 op, .int .i64 a1, .int .i64 b1, .int .i64 n]) (by simp [results, Tryd.results49, go_sem, o0, o1, o2, o3]) rfl ⟨op, a1, b1, n, rfl, HCO.out, ((((HE.out.b.setCell (by simp) _).setCell (by simp) _).setCell (by simp) _).setCell (by simp) _)⟩
set_option maxHeartbeats 40000000 in
set_option maxRecDepth 100000 in
theorem instr_19_1 (v : Value) (k a b c : Int) (w : World) (hv : RawR v k a b c) (hr : 19 ≤ pickZ k 24 ∧ pickZ k 24 < 20) (hq : pickZ c 2 = 1) : Calls Tryd.prog 49 #[v] w (InPost w) := by
  obtain ⟨rfl, hk, ha, hb, hc⟩ := hv
  obtain ⟨hk1, hk2⟩ := hk
  obtain ⟨ha1, ha2⟩ := ha
  obtain ⟨hb1, hb2⟩ := hb
  obtain ⟨hc1, hc2⟩ := hc
  go_enter Tryd.func49, Tryd.ntmps49
  go_upto_region 1 with fail
  go_cut [3] (fun s3 wx => ∃ gi x y, s3 = .pointer (some ⟨gi, 0, none⟩) ∧ 0 ≤ x ∧ x < 6 ∧ 0 ≤ y ∧ y < 6 ∧ ICut w k a b c gi x y wx)
  case first =>
    go_region_with ((go_at_call 22; refine (picked_in _ _ _ ?_ ?_ ?_ ?_).mono ?_; (first | exact ha1 | exact hb1); (first | exact ha2 | exact hb2); omega; omega; rintro e w' ⟨z, hz1, hz2, rfl, rfl⟩))
    all_goals (go_wp2_with fail; go_meet)
    all_goals refine ⟨_, _, _, rfl, ?_, ?_, ?_, ?_, ⟨(alloc_lt (by simp; omega)).trans ((alloc_lt (by simp)).trans (alloc_at rfl)), (alloc_lt (by simp)).trans (alloc_at (by simp)), alloc_at (by simp), ((below_alloc2 _ _ _).alloc (by simp; omega) _).drew, by omega⟩⟩ <;> assumption
  case rest =>
    obtain ⟨gi, x, y, rfl, hx1, hx2, hy1, hy2, hI⟩ := hcut
    have c0 : wc.cell? ⟨w.heap.size, 0, none⟩ = some (.int .i64 k) := cell_block hI.r 0
    have c3 : wc.cell? ⟨w.heap.size, 3, none⟩ = some (.int .i64 c) := cell_block hI.r 3
    have i0 : wc.cell? ⟨gi, 0, none⟩ = some (.int .i64 0) := cell_block hI.i 0
    have i1 : wc.cell? ⟨gi, 1, none⟩ = some (.int .i64 x) := cell_block hI.i 1
    have i2 : wc.cell? ⟨gi, 2, none⟩ = some (.int .i64 y) := cell_block hI.i 2
    have i3 : wc.cell? ⟨gi, 3, none⟩ = some (.int .i64 0) := cell_block hI.i 3
    have o0 : wc.cell? ⟨w.heap.size + 1, 0, none⟩ = some (.int .i64 0) := cell_block hI.o 0
    have o1 : wc.cell? ⟨w.heap.size + 1, 1, none⟩ = some (.int .i64 0) := cell_block hI.o 1
    have o2 : wc.cell? ⟨w.heap.size + 1, 2, none⟩ = some (.int .i64 0) := cell_block hI.o 2
    have o3 : wc.cell? ⟨w.heap.size + 1, 3, none⟩ = some (.int .i64 0) := cell_block hI.o 3
    have f0 := free_block hI.i 0
    have f1 := free_block hI.i 1
    have f2 := free_block hI.i 2
    have f3 := free_block hI.i 3
    have g0 := free_block hI.o 0
    have g1 := free_block hI.o 1
    have g2 := free_block hI.o 2
    have g3 := free_block hI.o 3
    have lgi : gi < wc.heap.size := (Array.getElem?_eq_some_iff.1 hI.i).1
    have lgo : w.heap.size + 1 < wc.heap.size := (Array.getElem?_eq_some_iff.1 hI.o).1
    have lgr : w.heap.size < wc.heap.size := by omega
    have ne1 : gi ≠ w.heap.size + 1 := by have := hI.gt; omega
    have ne2 : w.heap.size + 1 ≠ gi := fun e => ne1 e.symm
    have ne3 : gi ≠ w.heap.size := by have := hI.gt; omega
    have ne4 : w.heap.size ≠ gi := fun e => ne3 e.symm
    have HI := Lib.hid hI
    clear hI
    go_upto_region 2 with fail
    go_cut [4] (fun s4 wx => ∃ z : Int, s4 = .int .i64 z ∧ z = pickZ k 24 ∧ wx = wc)
    case first =>
      go_wp2_with (go_at_call 22; refine (picked_any _ _ _ hk1 hk2 (by omega) (by omega)).mono ?_; rintro e w' ⟨rfl, rfl⟩)
      go_meet
      exact ⟨_, rfl, rfl, rfl⟩
    case rest =>
    obtain ⟨z, rfl, hz, hwx⟩ := hcut
    subst hwx
    rw [← hz] at hr
    clear hz
    go_upto_block 0 with fail
    go_cut [] (fun wx => ∃ op a b n : Int, iCode op a b n = 0 ∧ IEnd w gi op a b n wx)
    case first =>
      clear o0 o1 o2 o3 g0 g1 g2 g3 hk1 hk2 ha1 ha2 hb1 hb2 c0 i1 f1 lgo ne1 ne2
      obtain ⟨hz1, hz2⟩ := hr
      obtain rfl : z = 19 := by omega
      go_upto_region 21 with fail
      go_region_with (go_at_call 22; refine (picked_any _ _ _ (by omega) (by omega) (by omega) (by omega)).mono ?_; rintro e w' ⟨he, rfl⟩; (try rw [hq] at he); subst he)
      all_goals (go_wp2_with fail; go_meet)
      all_goals exact ⟨11, x, y, 3, (iCode0 (by omega) (by omega) (by omega)).symm, (iend2 HI.out).grown (below_alloc _ _).drew⟩
    case rest =>
      obtain ⟨op, a1, b1, n, hcode, hE⟩ := hcut
      clear c0 c3 i0 i1 i2 i3 o0 o1 o2 o3 f0 f1 f2 f3 g0 g1 g2 g3 lgi lgo lgr
      have i0 : wc.cell? ⟨gi, 0, none⟩ = some (.int .i64 op) := cell_block hE.i 0
      have i1 : wc.cell? ⟨gi, 1, none⟩ = some (.int .i64 a1) := cell_block hE.i 1
      have i2 : wc.cell? ⟨gi, 2, none⟩ = some (.int .i64 b1) := cell_block hE.i 2
      have i3 : wc.cell? ⟨gi, 3, none⟩ = some (.int .i64 n) := cell_block hE.i 3
      have o0 : wc.cell? ⟨w.heap.size + 1, 0, none⟩ = some (.int .i64 0) := cell_block hE.o 0
      have o1 : wc.cell? ⟨w.heap.size + 1, 1, none⟩ = some (.int .i64 0) := cell_block hE.o 1
      have o2 : wc.cell? ⟨w.heap.size + 1, 2, none⟩ = some (.int .i64 0) := cell_block hE.o 2
      have o3 : wc.cell? ⟨w.heap.size + 1, 3, none⟩ = some (.int .i64 0) := cell_block hE.o 3
      have g0 := free_block hE.o 0
      have g1 := free_block hE.o 1
      have g2 := free_block hE.o 2
      have g3 := free_block hE.o 3
      have lgo : w.heap.size + 1 < wc.heap.size := (Array.getElem?_eq_some_iff.1 hE.o).1
      have HE := Lib.hid hE
      have HCO := Lib.hid hcode
      clear hE hcode
      go_wp2
      exact bodyPost_ret (v := .agg #[.int .i64 op, .int .i64 a1, .int .i64 b1, .int .i64 n]) (by simp [results, Tryd.results49, go_sem, o0, o1, o2, o3]) rfl ⟨op, a1, b1, n, rfl, HCO.out, ((((HE.out.b.setCell (by simp) _).setCell (by simp) _).setCell (by simp) _).setCell (by simp) _)⟩
end Go.Proofs.YtilcnlmapifdgaaDoor
