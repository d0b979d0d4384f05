/- Several texts joined, each with its own heading in the notes: What the contract of instr is made of. The contract of instr, where its kind is 3 or 4. The contract of instr, where its kind is 3 or 4. No condition beyond those of each row. -/
import Derived.Test.YtpdbcdfgonnnnaaDoorYPk
import Derived.Test.YtpdbcdfgonnnnaaDoorYCpu1
import Derived.Test.YtpdbcdfgonnnnaaDoorYEv
import Derived.Deep.RegionHeld3
import Derived.Deep.CutBlock
import Derived.IntWalk
namespace Go.Proofs.YtpdbcdfgonnnnaaDoor
open Go Go.RowKit Go.ChangeShapes Go.WideShapes Go.Deep
set_option maxHeartbeats 40000000
set_option maxRecDepth 100000
set_option linter.unusedVariables false
attribute [local go_sem ↓] Go.wp_at_zero Go.wp_at_succ
def InPost (w : World) (e : Ending) (w' : World) : Prop := ∃ op a b n : Int, e = .returned (.agg #[.int .i64 op, .int .i64 a, .int .i64 b, .int .i64 n]) ∧ iCode op a b n = 0 ∧ Below w.heap.size w w'
structure ICut (w : World) (k a b c : Int) (gi : Nat) (x y : Int) (wx : World) : Prop where
 r : wx.heap[w.heap.size]? = some (.cells #[.int .i64 k, .int .i64 a, .int .i64 b, .int .i64 c] 99 (0, 0))
 o : wx.heap[w.heap.size + 1]? = some (.cells #[.int .i64 0, .int .i64 0, .int .i64 0, .int .i64 0] 86 (0, 0))
 i : wx.heap[gi]? = some (.cells #[.int .i64 0, .int .i64 x, .int .i64 y, .int .i64 0] 86 (0, 0))
 b : Below w.heap.size w wx
 gt : w.heap.size + 1 < gi
structure IEnd (w : World) (gi : Nat) (op a b n : Int) (wx : World) : Prop where
 o : wx.heap[w.heap.size + 1]? = some (.cells #[.int .i64 0, .int .i64 0, .int .i64 0, .int .i64 0] 86 (0, 0))
 i : wx.heap[gi]? = some (.cells #[.int .i64 op, .int .i64 a, .int .i64 b, .int .i64 n] 86 (0, 0))
 b : Below w.heap.size w wx
theorem ICut.all {w wc : World} {k a b c x y : Int} {gi : Nat} (hI : ICut w k a b c gi x y wc) : wc.cell? ⟨w.heap.size, 0, none⟩ = some (.int .i64 k) ∧ wc.cell? ⟨w.heap.size, 3, none⟩ = some (.int .i64 c) ∧ wc.cell? ⟨gi, 0, none⟩ = some (.int .i64 0) ∧ wc.cell? ⟨gi, 1, none⟩ = some (.int .i64 x) ∧ wc.cell? ⟨gi, 2, none⟩ = some (.int .i64 y) ∧ wc.cell? ⟨gi, 3, none⟩ = some (.int .i64 0) ∧ wc.cell? ⟨w.heap.size + 1, 0, none⟩ = some (.int .i64 0) ∧ wc.cell? ⟨w.heap.size + 1, 1, none⟩ = some (.int .i64 0) ∧ wc.cell? ⟨w.heap.size + 1, 2, none⟩ = some (.int .i64 0) ∧ wc.cell? ⟨w.heap.size + 1, 3, none⟩ = some (.int .i64 0) ∧ wc.frozen? ⟨gi, 0, none⟩ = false ∧ wc.frozen? ⟨gi, 1, none⟩ = false ∧ wc.frozen? ⟨gi, 2, none⟩ = false ∧ wc.frozen? ⟨gi, 3, none⟩ = false ∧ wc.frozen? ⟨w.heap.size + 1, 0, none⟩ = false ∧ wc.frozen? ⟨w.heap.size + 1, 1, none⟩ = false ∧ wc.frozen? ⟨w.heap.size + 1, 2, none⟩ = false ∧ wc.frozen? ⟨w.heap.size + 1, 3, none⟩ = false ∧ gi < wc.heap.size ∧ w.heap.size + 1 < wc.heap.size ∧ w.heap.size < wc.heap.size ∧ gi ≠ w.heap.size + 1 ∧ w.heap.size + 1 ≠ gi ∧ gi ≠ w.heap.size ∧ w.heap.size ≠ gi := by
 have lgo : w.heap.size + 1 < wc.heap.size := (Array.getElem?_eq_some_iff.1 hI.o).1
 have := hI.gt
 exact ⟨cell_block hI.r 0, cell_block hI.r 3, cell_block hI.i 0, cell_block hI.i 1, cell_block hI.i 2, cell_block hI.i 3, cell_block hI.o 0, cell_block hI.o 1, cell_block hI.o 2, cell_block hI.o 3, free_block hI.i 0, free_block hI.i 1, free_block hI.i 2, free_block hI.i 3, free_block hI.o 0, free_block hI.o 1, free_block hI.o 2, free_block hI.o 3, (Array.getElem?_eq_some_iff.1 hI.i).1, lgo, by omega, by omega, by omega, by omega, by omega⟩
theorem IEnd.all {w wc : World} {op a1 b1 n : Int} {gi : Nat} (hE : IEnd w gi op a1 b1 n wc) : wc.cell? ⟨gi, 0, none⟩ = some (.int .i64 op) ∧ wc.cell? ⟨gi, 1, none⟩ = some (.int .i64 a1) ∧ wc.cell? ⟨gi, 2, none⟩ = some (.int .i64 b1) ∧ wc.cell? ⟨gi, 3, none⟩ = some (.int .i64 n) ∧ wc.cell? ⟨w.heap.size + 1, 0, none⟩ = some (.int .i64 0) ∧ wc.cell? ⟨w.heap.size + 1, 1, none⟩ = some (.int .i64 0) ∧ wc.cell? ⟨w.heap.size + 1, 2, none⟩ = some (.int .i64 0) ∧ wc.cell? ⟨w.heap.size + 1, 3, none⟩ = some (.int .i64 0) ∧ wc.frozen? ⟨w.heap.size + 1, 0, none⟩ = false ∧ wc.frozen? ⟨w.heap.size + 1, 1, none⟩ = false ∧ wc.frozen? ⟨w.heap.size + 1, 2, none⟩ = false ∧ wc.frozen? ⟨w.heap.size + 1, 3, none⟩ = false ∧ w.heap.size + 1 < wc.heap.size :=
 ⟨cell_block hE.i 0, cell_block hE.i 1, cell_block hE.i 2, cell_block hE.i 3, cell_block hE.o 0, cell_block hE.o 1, cell_block hE.o 2, cell_block hE.o 3, free_block hE.o 0, free_block hE.o 1, free_block hE.o 2, free_block hE.o 3, (Array.getElem?_eq_some_iff.1 hE.o).1⟩
theorem tdiv8 (c : Int) (h1 : -9223372036854775808 ≤ c) (h2 : c ≤ 9223372036854775807) : -9223372036854775808 ≤ c.tdiv 8 ∧ c.tdiv 8 ≤ 9223372036854775807 := by
 by_cases h : 0 ≤ c
 · rw [Int.tdiv_eq_ediv_of_nonneg h]; omega
 ·
  have e : c.tdiv 8 = -((-c) / 8) := by
   have : c.tdiv 8 = -((-c).tdiv 8) := by rw [Int.neg_tdiv, Int.neg_neg]
   rw [this, Int.tdiv_eq_ediv_of_nonneg (by omega)]
  rw [e]; omega
theorem iend2 {w wx : World} {k a b c x y op n : Int} {gi : Nat} (h : ICut w k a b c gi x y wx) : IEnd w gi op x y n ((wx.setCell ⟨gi, 0, none⟩ (.int .i64 op)).setCell ⟨gi, 3, none⟩ (.int .i64 n)) :=
 ⟨set_block_ne (set_block_ne h.o (by have := h.gt; omega) _) (by have := h.gt; omega) _, by simpa using set_block (i := 3) (set_block (i := 0) h.i (.int .i64 op)) (.int .i64 n), ((h.b.setCell (by have := h.gt; simp; omega) _).setCell (by have := h.gt; simp; omega) _)⟩
theorem iend3 {w wx : World} {k a b c x y op m n : Int} {gi : Nat} (h : ICut w k a b c gi x y wx) : IEnd w gi op x m n (((wx.setCell ⟨gi, 0, none⟩ (.int .i64 op)).setCell ⟨gi, 2, none⟩ (.int .i64 m)).setCell ⟨gi, 3, none⟩ (.int .i64 n)) :=
 ⟨set_block_ne (set_block_ne (set_block_ne h.o (by have := h.gt; omega) _) (by have := h.gt; omega) _) (by have := h.gt; omega) _, by simpa using set_block (i := 3) (set_block (i := 2) (set_block (i := 0) h.i (.int .i64 op)) (.int .i64 m)) (.int .i64 n), (((h.b.setCell (by have := h.gt; simp; omega) _).setCell (by have := h.gt; simp; omega) _).setCell (by have := h.gt; simp; omega) _)⟩
theorem iend1 {w wx : World} {k a b c x y op : Int} {gi : Nat} (h : ICut w k a b c gi x y wx) : IEnd w gi op x y 0 (wx.setCell ⟨gi, 0, none⟩ (.int .i64 op)) :=
 ⟨set_block_ne h.o (by have := h.gt; omega) _, by simpa using set_block (i := 0) h.i (.int .i64 op), (h.b.setCell (by have := h.gt; simp; omega) _)⟩
theorem IEnd.grown {w wx wy : World} {gi : Nat} {op a b n : Int} (h : IEnd w gi op a b n wx) (hb : Below wx.heap.size wx wy) : IEnd w gi op a b n wy :=
 ⟨block_below hb h.o (Array.getElem?_eq_some_iff.1 h.o).1, block_below hb h.i (Array.getElem?_eq_some_iff.1 h.i).1, h.b.trans (hb.mono h.b.size)⟩
theorem instr_3_0 (v : Value) (k a b c : Int) (w : World) (hv : RawR v k a b c) (hr : 3 ≤ pickZ k 24 ∧ pickZ k 24 < 5) (hq : pickZ (c.tdiv 8) 2 = 0) : Calls Tryd.prog 44 #[v] w (InPost w) := by
 obtain ⟨rfl, hk, ha, hb, hc⟩ := hv
 obtain ⟨hk1, hk2⟩ := hk
 obtain ⟨ha1, ha2⟩ := ha
 obtain ⟨hb1, hb2⟩ := hb
 obtain ⟨hc1, hc2⟩ := hc
 go_enter Tryd.func44, Tryd.ntmps44
 go_upto_region 1 with fail
 go_cut [3] (fun s3 wx => ∃ gi x y, s3 = .pointer (some ⟨gi, 0, none⟩) ∧ 0 ≤ x ∧ x < 6 ∧ 0 ≤ y ∧ y < 6 ∧ ICut w k a b c gi x y wx)
 case first =>
  go_region_with ((go_at_call 20; refine (picked_in _ _ _ ?_ ?_ ?_ ?_).mono ?_; (first | exact ha1 | exact hb1); (first | exact ha2 | exact hb2); omega; omega; rintro e w' ⟨z, hz1, hz2, rfl, rfl⟩))
  all_goals (go_wp2_with fail; go_meet)
  all_goals refine ⟨_, _, _, rfl, ?_, ?_, ?_, ?_, ⟨(alloc_lt (by simp; omega)).trans ((alloc_lt (by simp)).trans (alloc_at rfl)), (alloc_lt (by simp)).trans (alloc_at (by simp)), alloc_at (by simp), ((below_alloc2 _ _ _).alloc (by simp; omega) _).drew, by omega⟩⟩ <;> assumption
 case rest =>
  obtain ⟨gi, x, y, rfl, hx1, hx2, hy1, hy2, hI⟩ := hcut
  obtain ⟨c0, c3, i0, i1, i2, i3, o0, o1, o2, o3, f0, f1, f2, f3, g0, g1, g2, g3, lgi, lgo, lgr, ne1, ne2, ne3, ne4⟩ := hI.all
  have HI := Lib.hid hI
  clear hI
  go_upto_region 2 with fail
  go_cut [4] (fun s4 wx => ∃ z : Int, s4 = .int .i64 z ∧ z = pickZ k 24 ∧ wx = wc)
  case first =>
   go_wp2_with (go_at_call 20; refine (picked_any _ _ _ hk1 hk2 (by omega) (by omega)).mono ?_; rintro e w' ⟨rfl, rfl⟩)
   go_meet
   exact ⟨_, rfl, rfl, rfl⟩
  case rest =>
  obtain ⟨z, rfl, hz, hwx⟩ := hcut
  subst hwx
  rw [← hz] at hr
  clear hz
  go_upto_block 0 with fail
  go_cut [] (fun wx => ∃ op a b n : Int, iCode op a b n = 0 ∧ IEnd w gi op a b n wx)
  case first =>
   clear o0 o1 o2 o3 g0 g1 g2 g3 hk1 hk2 ha1 ha2 hb1 hb2 c0 i1 f1 lgo ne1 ne2
   obtain ⟨hz1, hz2⟩ := hr
   have h1 : ¬ z < 3 := by omega
   have h2 : z < 5 := by omega
   obtain ⟨ht1, ht2⟩ := tdiv8 c hc1 hc2
   have hw8 : IntKind.i64.wrap (c.tdiv 8) = c.tdiv 8 := IntWalk.i64_in _ (by omega)
   have hp6 := pick_rng c 6 (by omega)
   go_upto_region 7 with fail
   go_region_with (go_at_call 20; refine (picked_any _ _ _ (by omega) (by omega) (by omega) (by omega)).mono ?_; rintro e w' ⟨he, rfl⟩; (try rw [hq] at he); subst he)
   all_goals (go_wp2_with fail; go_meet)
   all_goals exact ⟨2, x, y, pickZ c 6, (iCode0 (by omega) (by omega) (by omega)).symm, (iend2 HI.out).grown (below_alloc _ _).drew⟩
  case rest =>
   obtain ⟨op, a1, b1, n, hcode, hE⟩ := hcut
   clear c0 c3 i0 i1 i2 i3 o0 o1 o2 o3 f0 f1 f2 f3 g0 g1 g2 g3 lgi lgo lgr
   obtain ⟨i0, i1, i2, i3, o0, o1, o2, o3, g0, g1, g2, g3, lgo⟩ := hE.all
   have HE := Lib.hid hE
   have HCO := Lib.hid hcode
   clear hE hcode
   go_wp2
   exact bodyPost_ret (v := .agg #[.int .i64 op, .int .i64 a1, .int .i64 b1, .int .i64 n]) (by simp [results, Tryd.results44, go_sem, o0, o1, o2, o3]) rfl ⟨op, a1, b1, n, rfl, HCO.out, ((((HE.out.b.setCell (by simp) _).setCell (by simp) _).setCell (by simp) _).setCell (by simp) _)⟩
theorem instr_3_1 (v : Value) (k a b c : Int) (w : World) (hv : RawR v k a b c) (hr : 3 ≤ pickZ k 24 ∧ pickZ k 24 < 5) (hq : pickZ (c.tdiv 8) 2 = 1) : Calls Tryd.prog 44 #[v] w (InPost w) := by
 obtain ⟨rfl, hk, ha, hb, hc⟩ := hv
 obtain ⟨hk1, hk2⟩ := hk
 obtain ⟨ha1, ha2⟩ := ha
 obtain ⟨hb1, hb2⟩ := hb
 obtain ⟨hc1, hc2⟩ := hc
 go_enter Tryd.func44, Tryd.ntmps44
 go_upto_region 1 with fail
 go_cut [3] (fun s3 wx => ∃ gi x y, s3 = .pointer (some ⟨gi, 0, none⟩) ∧ 0 ≤ x ∧ x < 6 ∧ 0 ≤ y ∧ y < 6 ∧ ICut w k a b c gi x y wx)
 case first =>
  go_region_with ((go_at_call 20; refine (picked_in _ _ _ ?_ ?_ ?_ ?_).mono ?_; (first | exact ha1 | exact hb1); (first | exact ha2 | exact hb2); omega; omega; rintro e w' ⟨z, hz1, hz2, rfl, rfl⟩))
  all_goals (go_wp2_with fail; go_meet)
  all_goals refine ⟨_, _, _, rfl, ?_, ?_, ?_, ?_, ⟨(alloc_lt (by simp; omega)).trans ((alloc_lt (by simp)).trans (alloc_at rfl)), (alloc_lt (by simp)).trans (alloc_at (by simp)), alloc_at (by simp), ((below_alloc2 _ _ _).alloc (by simp; omega) _).drew, by omega⟩⟩ <;> assumption
 case rest =>
  obtain ⟨gi, x, y, rfl, hx1, hx2, hy1, hy2, hI⟩ := hcut
  obtain ⟨c0, c3, i0, i1, i2, i3, o0, o1, o2, o3, f0, f1, f2, f3, g0, g1, g2, g3, lgi, lgo, lgr, ne1, ne2, ne3, ne4⟩ := hI.all
  have HI := Lib.hid hI
  clear hI
  go_upto_region 2 with fail
  go_cut [4] (fun s4 wx => ∃ z : Int, s4 = .int .i64 z ∧ z = pickZ k 24 ∧ wx = wc)
  case first =>
   go_wp2_with (go_at_call 20; refine (picked_any _ _ _ hk1 hk2 (by omega) (by omega)).mono ?_; rintro e w' ⟨rfl, rfl⟩)
   go_meet
   exact ⟨_, rfl, rfl, rfl⟩
  case rest =>
  obtain ⟨z, rfl, hz, hwx⟩ := hcut
  subst hwx
  rw [← hz] at hr
  clear hz
  go_upto_block 0 with fail
  go_cut [] (fun wx => ∃ op a b n : Int, iCode op a b n = 0 ∧ IEnd w gi op a b n wx)
  case first =>
   clear o0 o1 o2 o3 g0 g1 g2 g3 hk1 hk2 ha1 ha2 hb1 hb2 c0 i1 f1 lgo ne1 ne2
   obtain ⟨hz1, hz2⟩ := hr
   have h1 : ¬ z < 3 := by omega
   have h2 : z < 5 := by omega
   obtain ⟨ht1, ht2⟩ := tdiv8 c hc1 hc2
   have hw8 : IntKind.i64.wrap (c.tdiv 8) = c.tdiv 8 := IntWalk.i64_in _ (by omega)
   have hp6 := pick_rng c 6 (by omega)
   go_upto_region 7 with fail
   go_region_with (go_at_call 20; refine (picked_any _ _ _ (by omega) (by omega) (by omega) (by omega)).mono ?_; rintro e w' ⟨he, rfl⟩; (try rw [hq] at he); subst he)
   all_goals (go_wp2_with fail; go_meet)
   all_goals exact ⟨3, x, y, pickZ c 6, (iCode0 (by omega) (by omega) (by omega)).symm, (iend2 HI.out).grown (below_alloc _ _).drew⟩
  case rest =>
   obtain ⟨op, a1, b1, n, hcode, hE⟩ := hcut
   clear c0 c3 i0 i1 i2 i3 o0 o1 o2 o3 f0 f1 f2 f3 g0 g1 g2 g3 lgi lgo lgr
   obtain ⟨i0, i1, i2, i3, o0, o1, o2, o3, g0, g1, g2, g3, lgo⟩ := hE.all
   have HE := Lib.hid hE
   have HCO := Lib.hid hcode
   clear hE hcode
   go_wp2
   exact bodyPost_ret (v := .agg #[.int .i64 op, .int .i64 a1, .int .i64 b1, .int .i64 n]) (by simp [results, Tryd.results44, go_sem, o0, o1, o2, o3]) rfl ⟨op, a1, b1, n, rfl, HCO.out, ((((HE.out.b.setCell (by simp) _).setCell (by simp) _).setCell (by simp) _).setCell (by simp) _)⟩
end Go.Proofs.YtpdbcdfgonnnnaaDoor
