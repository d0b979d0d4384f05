/- Several texts joined, each with its own heading in the notes: The contract of instr, where its kind is one of 0 to 2, 5 to 12. The contract of instr, where its kind is 13, 14 or 15. No condition beyond those of each row. -/
import Derived.Test.YtpdbcdfgonnnnaaDoorYInA
namespace Go.Proofs.YtpdbcdfgonnnnaaDoor
open Go Go.RowKit Go.ChangeShapes Go.WideShapes Go.Deep
set_option maxHeartbeats 40000000
set_option maxRecDepth 100000
set_option linter.unusedVariables false
attribute [local go_sem ↓] Go.wp_at_zero Go.wp_at_succ
theorem instr_0 (v : Value) (k a b c : Int) (w : World) (hv : RawR v k a b c) (hr : 0 ≤ pickZ k 24 ∧ pickZ k 24 < 3) : Calls Tryd.prog 44 #[v] w (InPost w) := by
 obtain ⟨rfl, hk, ha, hb, hc⟩ := hv
 obtain ⟨hk1, hk2⟩ := hk
 obtain ⟨ha1, ha2⟩ := ha
 obtain ⟨hb1, hb2⟩ := hb
 obtain ⟨hc1, hc2⟩ := hc
 go_enter Tryd.func44, Tryd.ntmps44
 go_upto_region 1 with fail
 go_cut [3] (fun s3 wx => ∃ gi x y, s3 = .pointer (some ⟨gi, 0, none⟩) ∧ 0 ≤ x ∧ x < 6 ∧ 0 ≤ y ∧ y < 6 ∧ ICut w k a b c gi x y wx)
 case first =>
  go_region_with ((go_at_call 20; refine (picked_in _ _ _ ?_ ?_ ?_ ?_).mono ?_; (first | exact ha1 | exact hb1); (first | exact ha2 | exact hb2); omega; omega; rintro e w' ⟨z, hz1, hz2, rfl, rfl⟩))
  all_goals (go_wp2_with fail; go_meet)
  all_goals refine ⟨_, _, _, rfl, ?_, ?_, ?_, ?_, ⟨(alloc_lt (by simp; omega)).trans ((alloc_lt (by simp)).trans (alloc_at rfl)), (alloc_lt (by simp)).trans (alloc_at (by simp)), alloc_at (by simp), ((below_alloc2 _ _ _).alloc (by simp; omega) _).drew, by omega⟩⟩ <;> assumption
 case rest =>
  obtain ⟨gi, x, y, rfl, hx1, hx2, hy1, hy2, hI⟩ := hcut
  obtain ⟨c0, c3, i0, i1, i2, i3, o0, o1, o2, o3, f0, f1, f2, f3, g0, g1, g2, g3, lgi, lgo, lgr, ne1, ne2, ne3, ne4⟩ := hI.all
  have HI := Lib.hid hI
  clear hI
  go_upto_region 2 with fail
  go_cut [4] (fun s4 wx => ∃ z : Int, s4 = .int .i64 z ∧ z = pickZ k 24 ∧ wx = wc)
  case first =>
   go_wp2_with (go_at_call 20; refine (picked_any _ _ _ hk1 hk2 (by omega) (by omega)).mono ?_; rintro e w' ⟨rfl, rfl⟩)
   go_meet
   exact ⟨_, rfl, rfl, rfl⟩
  case rest =>
  obtain ⟨z, rfl, hz, hwx⟩ := hcut
  subst hwx
  rw [← hz] at hr
  clear hz
  go_upto_block 0 with fail
  go_cut [] (fun wx => ∃ op a b n : Int, iCode op a b n = 0 ∧ IEnd w gi op a b n wx)
  case first =>
   clear o0 o1 o2 o3 g0 g1 g2 g3 hk1 hk2 ha1 ha2 hb1 hb2 c0 i1 f1 lgo ne1 ne2
   obtain ⟨hz1, hz2⟩ := hr
   have h1 : z < 3 := by omega
   go_wp2_with (go_at_call 20; refine (picked_in _ _ _ hc1 hc2 (by omega) (by omega)).mono ?_; rintro e w' ⟨q, hq1, hq2, rfl, rfl⟩)
   go_meet
   exact ⟨1, x, y, q - 10, (iCode0 (by omega) (by omega) (by omega)).symm, iend2 HI.out⟩
  case rest =>
   obtain ⟨op, a1, b1, n, hcode, hE⟩ := hcut
   clear c0 c3 i0 i1 i2 i3 o0 o1 o2 o3 f0 f1 f2 f3 g0 g1 g2 g3 lgi lgo lgr
   obtain ⟨i0, i1, i2, i3, o0, o1, o2, o3, g0, g1, g2, g3, lgo⟩ := hE.all
   have HE := Lib.hid hE
   have HCO := Lib.hid hcode
   clear hE hcode
   go_wp2
   exact bodyPost_ret (v := .agg #[.int .i64 op, .int .i64 a1, .int .i64 b1, .int .i64 n]) (by simp [results, Tryd.results44, go_sem, o0, o1, o2, o3]) rfl ⟨op, a1, b1, n, rfl, HCO.out, ((((HE.out.b.setCell (by simp) _).setCell (by simp) _).setCell (by simp) _).setCell (by simp) _)⟩
theorem instr_5 (v : Value) (k a b c : Int) (w : World) (hv : RawR v k a b c) (hr : 5 ≤ pickZ k 24 ∧ pickZ k 24 < 8) : Calls Tryd.prog 44 #[v] w (InPost w) := by
 obtain ⟨rfl, hk, ha, hb, hc⟩ := hv
 obtain ⟨hk1, hk2⟩ := hk
 obtain ⟨ha1, ha2⟩ := ha
 obtain ⟨hb1, hb2⟩ := hb
 obtain ⟨hc1, hc2⟩ := hc
 go_enter Tryd.func44, Tryd.ntmps44
 go_upto_region 1 with fail
 go_cut [3] (fun s3 wx => ∃ gi x y, s3 = .pointer (some ⟨gi, 0, none⟩) ∧ 0 ≤ x ∧ x < 6 ∧ 0 ≤ y ∧ y < 6 ∧ ICut w k a b c gi x y wx)
 case first =>
  go_region_with ((go_at_call 20; refine (picked_in _ _ _ ?_ ?_ ?_ ?_).mono ?_; (first | exact ha1 | exact hb1); (first | exact ha2 | exact hb2); omega; omega; rintro e w' ⟨z, hz1, hz2, rfl, rfl⟩))
  all_goals (go_wp2_with fail; go_meet)
  all_goals refine ⟨_, _, _, rfl, ?_, ?_, ?_, ?_, ⟨(alloc_lt (by simp; omega)).trans ((alloc_lt (by simp)).trans (alloc_at rfl)), (alloc_lt (by simp)).trans (alloc_at (by simp)), alloc_at (by simp), ((below_alloc2 _ _ _).alloc (by simp; omega) _).drew, by omega⟩⟩ <;> assumption
 case rest =>
  obtain ⟨gi, x, y, rfl, hx1, hx2, hy1, hy2, hI⟩ := hcut
  obtain ⟨c0, c3, i0, i1, i2, i3, o0, o1, o2, o3, f0, f1, f2, f3, g0, g1, g2, g3, lgi, lgo, lgr, ne1, ne2, ne3, ne4⟩ := hI.all
  have HI := Lib.hid hI
  clear hI
  go_upto_region 2 with fail
  go_cut [4] (fun s4 wx => ∃ z : Int, s4 = .int .i64 z ∧ z = pickZ k 24 ∧ wx = wc)
  case first =>
   go_wp2_with (go_at_call 20; refine (picked_any _ _ _ hk1 hk2 (by omega) (by omega)).mono ?_; rintro e w' ⟨rfl, rfl⟩)
   go_meet
   exact ⟨_, rfl, rfl, rfl⟩
  case rest =>
  obtain ⟨z, rfl, hz, hwx⟩ := hcut
  subst hwx
  rw [← hz] at hr
  clear hz
  go_upto_block 0 with fail
  go_cut [] (fun wx => ∃ op a b n : Int, iCode op a b n = 0 ∧ IEnd w gi op a b n wx)
  case first =>
   clear o0 o1 o2 o3 g0 g1 g2 g3 hk1 hk2 ha1 ha2 hb1 hb2 c0 i1 f1 lgo ne1 ne2
   obtain ⟨hz1, hz2⟩ := hr
   have h1 : ¬ z < 3 := by omega
   have h2 : ¬ z < 5 := by omega
   have h3 : z < 8 := by omega
   go_wp2_with (go_at_call 20; refine (picked_in _ _ _ hc1 hc2 (by omega) (by omega)).mono ?_; rintro e w' ⟨q, hq1, hq2, rfl, rfl⟩)
   go_meet
   exact ⟨4, x, y, q - 4, (iCode0 (by omega) (by omega) (by omega)).symm, iend2 HI.out⟩
  case rest =>
   obtain ⟨op, a1, b1, n, hcode, hE⟩ := hcut
   clear c0 c3 i0 i1 i2 i3 o0 o1 o2 o3 f0 f1 f2 f3 g0 g1 g2 g3 lgi lgo lgr
   obtain ⟨i0, i1, i2, i3, o0, o1, o2, o3, g0, g1, g2, g3, lgo⟩ := hE.all
   have HE := Lib.hid hE
   have HCO := Lib.hid hcode
   clear hE hcode
   go_wp2
   exact bodyPost_ret (v := .agg #[.int .i64 op, .int .i64 a1, .int .i64 b1, .int .i64 n]) (by simp [results, Tryd.results44, go_sem, o0, o1, o2, o3]) rfl ⟨op, a1, b1, n, rfl, HCO.out, ((((HE.out.b.setCell (by simp) _).setCell (by simp) _).setCell (by simp) _).setCell (by simp) _)⟩
theorem instr_8 (v : Value) (k a b c : Int) (w : World) (hv : RawR v k a b c) (hr : 8 ≤ pickZ k 24 ∧ pickZ k 24 < 11) : Calls Tryd.prog 44 #[v] w (InPost w) := by
 obtain ⟨rfl, hk, ha, hb, hc⟩ := hv
 obtain ⟨hk1, hk2⟩ := hk
 obtain ⟨ha1, ha2⟩ := ha
 obtain ⟨hb1, hb2⟩ := hb
 obtain ⟨hc1, hc2⟩ := hc
 go_enter Tryd.func44, Tryd.ntmps44
 go_upto_region 1 with fail
 go_cut [3] (fun s3 wx => ∃ gi x y, s3 = .pointer (some ⟨gi, 0, none⟩) ∧ 0 ≤ x ∧ x < 6 ∧ 0 ≤ y ∧ y < 6 ∧ ICut w k a b c gi x y wx)
 case first =>
  go_region_with ((go_at_call 20; refine (picked_in _ _ _ ?_ ?_ ?_ ?_).mono ?_; (first | exact ha1 | exact hb1); (first | exact ha2 | exact hb2); omega; omega; rintro e w' ⟨z, hz1, hz2, rfl, rfl⟩))
  all_goals (go_wp2_with fail; go_meet)
  all_goals refine ⟨_, _, _, rfl, ?_, ?_, ?_, ?_, ⟨(alloc_lt (by simp; omega)).trans ((alloc_lt (by simp)).trans (alloc_at rfl)), (alloc_lt (by simp)).trans (alloc_at (by simp)), alloc_at (by simp), ((below_alloc2 _ _ _).alloc (by simp; omega) _).drew, by omega⟩⟩ <;> assumption
 case rest =>
  obtain ⟨gi, x, y, rfl, hx1, hx2, hy1, hy2, hI⟩ := hcut
  obtain ⟨c0, c3, i0, i1, i2, i3, o0, o1, o2, o3, f0, f1, f2, f3, g0, g1, g2, g3, lgi, lgo, lgr, ne1, ne2, ne3, ne4⟩ := hI.all
  have HI := Lib.hid hI
  clear hI
  go_upto_region 2 with fail
  go_cut [4] (fun s4 wx => ∃ z : Int, s4 = .int .i64 z ∧ z = pickZ k 24 ∧ wx = wc)
  case first =>
   go_wp2_with (go_at_call 20; refine (picked_any _ _ _ hk1 hk2 (by omega) (by omega)).mono ?_; rintro e w' ⟨rfl, rfl⟩)
   go_meet
   exact ⟨_, rfl, rfl, rfl⟩
  case rest =>
  obtain ⟨z, rfl, hz, hwx⟩ := hcut
  subst hwx
  rw [← hz] at hr
  clear hz
  go_upto_block 0 with fail
  go_cut [] (fun wx => ∃ op a b n : Int, iCode op a b n = 0 ∧ IEnd w gi op a b n wx)
  case first =>
   clear o0 o1 o2 o3 g0 g1 g2 g3 hk1 hk2 ha1 ha2 hb1 hb2 c0 i1 f1 lgo ne1 ne2
   obtain ⟨hz1, hz2⟩ := hr
   have h1 : ¬ z < 3 := by omega
   have h2 : ¬ z < 5 := by omega
   have h3 : ¬ z < 8 := by omega
   have h4 : z < 11 := by omega
   go_wp2_with (go_at_call 20; refine (picked_in _ _ _ hc1 hc2 (by omega) (by omega)).mono ?_; rintro e w' ⟨q, hq1, hq2, rfl, rfl⟩)
   go_meet
   exact ⟨6, x, 6, 100 + q, (iCode0 (by omega) (by omega) (by omega)).symm, iend3 HI.out⟩
  case rest =>
   obtain ⟨op, a1, b1, n, hcode, hE⟩ := hcut
   clear c0 c3 i0 i1 i2 i3 o0 o1 o2 o3 f0 f1 f2 f3 g0 g1 g2 g3 lgi lgo lgr
   obtain ⟨i0, i1, i2, i3, o0, o1, o2, o3, g0, g1, g2, g3, lgo⟩ := hE.all
   have HE := Lib.hid hE
   have HCO := Lib.hid hcode
   clear hE hcode
   go_wp2
   exact bodyPost_ret (v := .agg #[.int .i64 op, .int .i64 a1, .int .i64 b1, .int .i64 n]) (by simp [results, Tryd.results44, go_sem, o0, o1, o2, o3]) rfl ⟨op, a1, b1, n, rfl, HCO.out, ((((HE.out.b.setCell (by simp) _).setCell (by simp) _).setCell (by simp) _).setCell (by simp) _)⟩
theorem instr_11 (v : Value) (k a b c : Int) (w : World) (hv : RawR v k a b c) (hr : 11 ≤ pickZ k 24 ∧ pickZ k 24 < 13) : Calls Tryd.prog 44 #[v] w (InPost w) := by
 obtain ⟨rfl, hk, ha, hb, hc⟩ := hv
 obtain ⟨hk1, hk2⟩ := hk
 obtain ⟨ha1, ha2⟩ := ha
 obtain ⟨hb1, hb2⟩ := hb
 obtain ⟨hc1, hc2⟩ := hc
 go_enter Tryd.func44, Tryd.ntmps44
 go_upto_region 1 with fail
 go_cut [3] (fun s3 wx => ∃ gi x y, s3 = .pointer (some ⟨gi, 0, none⟩) ∧ 0 ≤ x ∧ x < 6 ∧ 0 ≤ y ∧ y < 6 ∧ ICut w k a b c gi x y wx)
 case first =>
  go_region_with ((go_at_call 20; refine (picked_in _ _ _ ?_ ?_ ?_ ?_).mono ?_; (first | exact ha1 | exact hb1); (first | exact ha2 | exact hb2); omega; omega; rintro e w' ⟨z, hz1, hz2, rfl, rfl⟩))
  all_goals (go_wp2_with fail; go_meet)
  all_goals refine ⟨_, _, _, rfl, ?_, ?_, ?_, ?_, ⟨(alloc_lt (by simp; omega)).trans ((alloc_lt (by simp)).trans (alloc_at rfl)), (alloc_lt (by simp)).trans (alloc_at (by simp)), alloc_at (by simp), ((below_alloc2 _ _ _).alloc (by simp; omega) _).drew, by omega⟩⟩ <;> assumption
 case rest =>
  obtain ⟨gi, x, y, rfl, hx1, hx2, hy1, hy2, hI⟩ := hcut
  obtain ⟨c0, c3, i0, i1, i2, i3, o0, o1, o2, o3, f0, f1, f2, f3, g0, g1, g2, g3, lgi, lgo, lgr, ne1, ne2, ne3, ne4⟩ := hI.all
  have HI := Lib.hid hI
  clear hI
  go_upto_region 2 with fail
  go_cut [4] (fun s4 wx => ∃ z : Int, s4 = .int .i64 z ∧ z = pickZ k 24 ∧ wx = wc)
  case first =>
   go_wp2_with (go_at_call 20; refine (picked_any _ _ _ hk1 hk2 (by omega) (by omega)).mono ?_; rintro e w' ⟨rfl, rfl⟩)
   go_meet
   exact ⟨_, rfl, rfl, rfl⟩
  case rest =>
  obtain ⟨z, rfl, hz, hwx⟩ := hcut
  subst hwx
  rw [← hz] at hr
  clear hz
  go_upto_block 0 with fail
  go_cut [] (fun wx => ∃ op a b n : Int, iCode op a b n = 0 ∧ IEnd w gi op a b n wx)
  case first =>
   clear o0 o1 o2 o3 g0 g1 g2 g3 hk1 hk2 ha1 ha2 hb1 hb2 c0 i1 f1 lgo ne1 ne2
   obtain ⟨hz1, hz2⟩ := hr
   have h1 : ¬ z < 3 := by omega
   have h2 : ¬ z < 5 := by omega
   have h3 : ¬ z < 8 := by omega
   have h4 : ¬ z < 11 := by omega
   have h5 : z < 13 := by omega
   go_wp2_with (go_at_call 20; refine (picked_in _ _ _ hc1 hc2 (by omega) (by omega)).mono ?_; rintro e w' ⟨q, hq1, hq2, rfl, rfl⟩)
   go_meet
   exact ⟨5, x, 6, 100 + q, (iCode0 (by omega) (by omega) (by omega)).symm, iend3 HI.out⟩
  case rest =>
   obtain ⟨op, a1, b1, n, hcode, hE⟩ := hcut
   clear c0 c3 i0 i1 i2 i3 o0 o1 o2 o3 f0 f1 f2 f3 g0 g1 g2 g3 lgi lgo lgr
   obtain ⟨i0, i1, i2, i3, o0, o1, o2, o3, g0, g1, g2, g3, lgo⟩ := hE.all
   have HE := Lib.hid hE
   have HCO := Lib.hid hcode
   clear hE hcode
   go_wp2
   exact bodyPost_ret (v := .agg #[.int .i64 op, .int .i64 a1, .int .i64 b1, .int .i64 n]) (by simp [results, Tryd.results44, go_sem, o0, o1, o2, o3]) rfl ⟨op, a1, b1, n, rfl, HCO.out, ((((HE.out.b.setCell (by simp) _).setCell (by simp) _).setCell (by simp) _).setCell (by simp) _)⟩
theorem instr_13 (v : Value) (k a b c : Int) (w : World) (hv : RawR v k a b c) (hr : 13 ≤ pickZ k 24 ∧ pickZ k 24 < 14) : Calls Tryd.prog 44 #[v] w (InPost w) := by
 obtain ⟨rfl, hk, ha, hb, hc⟩ := hv
 obtain ⟨hk1, hk2⟩ := hk
 obtain ⟨ha1, ha2⟩ := ha
 obtain ⟨hb1, hb2⟩ := hb
 obtain ⟨hc1, hc2⟩ := hc
 go_enter Tryd.func44, Tryd.ntmps44
 go_upto_region 1 with fail
 go_cut [3] (fun s3 wx => ∃ gi x y, s3 = .pointer (some ⟨gi, 0, none⟩) ∧ 0 ≤ x ∧ x < 6 ∧ 0 ≤ y ∧ y < 6 ∧ ICut w k a b c gi x y wx)
 case first =>
  go_region_with ((go_at_call 20; refine (picked_in _ _ _ ?_ ?_ ?_ ?_).mono ?_; (first | exact ha1 | exact hb1); (first | exact ha2 | exact hb2); omega; omega; rintro e w' ⟨z, hz1, hz2, rfl, rfl⟩))
  all_goals (go_wp2_with fail; go_meet)
  all_goals refine ⟨_, _, _, rfl, ?_, ?_, ?_, ?_, ⟨(alloc_lt (by simp; omega)).trans ((alloc_lt (by simp)).trans (alloc_at rfl)), (alloc_lt (by simp)).trans (alloc_at (by simp)), alloc_at (by simp), ((below_alloc2 _ _ _).alloc (by simp; omega) _).drew, by omega⟩⟩ <;> assumption
 case rest =>
  obtain ⟨gi, x, y, rfl, hx1, hx2, hy1, hy2, hI⟩ := hcut
  obtain ⟨c0, c3, i0, i1, i2, i3, o0, o1, o2, o3, f0, f1, f2, f3, g0, g1, g2, g3, lgi, lgo, lgr, ne1, ne2, ne3, ne4⟩ := hI.all
  have HI := Lib.hid hI
  clear hI
  go_upto_region 2 with fail
  go_cut [4] (fun s4 wx => ∃ z : Int, s4 = .int .i64 z ∧ z = pickZ k 24 ∧ wx = wc)
  case first =>
   go_wp2_with (go_at_call 20; refine (picked_any _ _ _ hk1 hk2 (by omega) (by omega)).mono ?_; rintro e w' ⟨rfl, rfl⟩)
   go_meet
   exact ⟨_, rfl, rfl, rfl⟩
  case rest =>
  obtain ⟨z, rfl, hz, hwx⟩ := hcut
  subst hwx
  rw [← hz] at hr
  clear hz
  go_upto_block 0 with fail
  go_cut [] (fun wx => ∃ op a b n : Int, iCode op a b n = 0 ∧ IEnd w gi op a b n wx)
  case first =>
   clear o0 o1 o2 o3 g0 g1 g2 g3 hk1 hk2 ha1 ha2 hb1 hb2 c0 i1 f1 lgo ne1 ne2
   obtain ⟨hz1, hz2⟩ := hr
   obtain rfl : z = 13 := by omega
   have hp := pick_rng c 14 (by omega)
   have hwp : IntKind.i64.wrap (pickZ c 14 - 6) = pickZ c 14 - 6 := IntWalk.i64_in _ (by omega)
   have hq : (0 : Int) = 0 := rfl
   go_upto_region 15 with fail
   go_region_with (go_at_call 20; refine (picked_any _ _ _ (by omega) (by omega) (by omega) (by omega)).mono ?_; rintro e w' ⟨he, rfl⟩; (try rw [hq] at he); subst he)
   all_goals (go_wp2_with fail; go_meet)
   all_goals exact ⟨7, x, y, pickZ c 14 - 6, (iCode0 (by omega) (by omega) (by omega)).symm, (iend2 HI.out).grown (below_alloc _ _).drew⟩
  case rest =>
   obtain ⟨op, a1, b1, n, hcode, hE⟩ := hcut
   clear c0 c3 i0 i1 i2 i3 o0 o1 o2 o3 f0 f1 f2 f3 g0 g1 g2 g3 lgi lgo lgr
   obtain ⟨i0, i1, i2, i3, o0, o1, o2, o3, g0, g1, g2, g3, lgo⟩ := hE.all
   have HE := Lib.hid hE
   have HCO := Lib.hid hcode
   clear hE hcode
   go_wp2
   exact bodyPost_ret (v := .agg #[.int .i64 op, .int .i64 a1, .int .i64 b1, .int .i64 n]) (by simp [results, Tryd.results44, go_sem, o0, o1, o2, o3]) rfl ⟨op, a1, b1, n, rfl, HCO.out, ((((HE.out.b.setCell (by simp) _).setCell (by simp) _).setCell (by simp) _).setCell (by simp) _)⟩
theorem instr_14 (v : Value) (k a b c : Int) (w : World) (hv : RawR v k a b c) (hr : 14 ≤ pickZ k 24 ∧ pickZ k 24 < 15) : Calls Tryd.prog 44 #[v] w (InPost w) := by
 obtain ⟨rfl, hk, ha, hb, hc⟩ := hv
 obtain ⟨hk1, hk2⟩ := hk
 obtain ⟨ha1, ha2⟩ := ha
 obtain ⟨hb1, hb2⟩ := hb
 obtain ⟨hc1, hc2⟩ := hc
 go_enter Tryd.func44, Tryd.ntmps44
 go_upto_region 1 with fail
 go_cut [3] (fun s3 wx => ∃ gi x y, s3 = .pointer (some ⟨gi, 0, none⟩) ∧ 0 ≤ x ∧ x < 6 ∧ 0 ≤ y ∧ y < 6 ∧ ICut w k a b c gi x y wx)
 case first =>
  go_region_with ((go_at_call 20; refine (picked_in _ _ _ ?_ ?_ ?_ ?_).mono ?_; (first | exact ha1 | exact hb1); (first | exact ha2 | exact hb2); omega; omega; rintro e w' ⟨z, hz1, hz2, rfl, rfl⟩))
  all_goals (go_wp2_with fail; go_meet)
  all_goals refine ⟨_, _, _, rfl, ?_, ?_, ?_, ?_, ⟨(alloc_lt (by simp; omega)).trans ((alloc_lt (by simp)).trans (alloc_at rfl)), (alloc_lt (by simp)).trans (alloc_at (by simp)), alloc_at (by simp), ((below_alloc2 _ _ _).alloc (by simp; omega) _).drew, by omega⟩⟩ <;> assumption
 case rest =>
  obtain ⟨gi, x, y, rfl, hx1, hx2, hy1, hy2, hI⟩ := hcut
  obtain ⟨c0, c3, i0, i1, i2, i3, o0, o1, o2, o3, f0, f1, f2, f3, g0, g1, g2, g3, lgi, lgo, lgr, ne1, ne2, ne3, ne4⟩ := hI.all
  have HI := Lib.hid hI
  clear hI
  go_upto_region 2 with fail
  go_cut [4] (fun s4 wx => ∃ z : Int, s4 = .int .i64 z ∧ z = pickZ k 24 ∧ wx = wc)
  case first =>
   go_wp2_with (go_at_call 20; refine (picked_any _ _ _ hk1 hk2 (by omega) (by omega)).mono ?_; rintro e w' ⟨rfl, rfl⟩)
   go_meet
   exact ⟨_, rfl, rfl, rfl⟩
  case rest =>
  obtain ⟨z, rfl, hz, hwx⟩ := hcut
  subst hwx
  rw [← hz] at hr
  clear hz
  go_upto_block 0 with fail
  go_cut [] (fun wx => ∃ op a b n : Int, iCode op a b n = 0 ∧ IEnd w gi op a b n wx)
  case first =>
   clear o0 o1 o2 o3 g0 g1 g2 g3 hk1 hk2 ha1 ha2 hb1 hb2 c0 i1 f1 lgo ne1 ne2
   obtain ⟨hz1, hz2⟩ := hr
   obtain rfl : z = 14 := by omega
   have hp := pick_rng c 14 (by omega)
   have hwp : IntKind.i64.wrap (pickZ c 14 - 6) = pickZ c 14 - 6 := IntWalk.i64_in _ (by omega)
   have hq : (0 : Int) = 0 := rfl
   go_upto_region 15 with fail
   go_region_with (go_at_call 20; refine (picked_any _ _ _ (by omega) (by omega) (by omega) (by omega)).mono ?_; rintro e w' ⟨he, rfl⟩; (try rw [hq] at he); subst he)
   all_goals (go_wp2_with fail; go_meet)
   all_goals exact ⟨8, x, y, pickZ c 14 - 6, (iCode0 (by omega) (by omega) (by omega)).symm, (iend2 HI.out).grown (below_alloc _ _).drew⟩
  case rest =>
   obtain ⟨op, a1, b1, n, hcode, hE⟩ := hcut
   clear c0 c3 i0 i1 i2 i3 o0 o1 o2 o3 f0 f1 f2 f3 g0 g1 g2 g3 lgi lgo lgr
   obtain ⟨i0, i1, i2, i3, o0, o1, o2, o3, g0, g1, g2, g3, lgo⟩ := hE.all
   have HE := Lib.hid hE
   have HCO := Lib.hid hcode
   clear hE hcode
   go_wp2
   exact bodyPost_ret (v := .agg #[.int .i64 op, .int .i64 a1, .int .i64 b1, .int .i64 n]) (by simp [results, Tryd.results44, go_sem, o0, o1, o2, o3]) rfl ⟨op, a1, b1, n, rfl, HCO.out, ((((HE.out.b.setCell (by simp) _).setCell (by simp) _).setCell (by simp) _).setCell (by simp) _)⟩
theorem instr_15 (v : Value) (k a b c : Int) (w : World) (hv : RawR v k a b c) (hr : 15 ≤ pickZ k 24 ∧ pickZ k 24 < 16) : Calls Tryd.prog 44 #[v] w (InPost w) := by
 obtain ⟨rfl, hk, ha, hb, hc⟩ := hv
 obtain ⟨hk1, hk2⟩ := hk
 obtain ⟨ha1, ha2⟩ := ha
 obtain ⟨hb1, hb2⟩ := hb
 obtain ⟨hc1, hc2⟩ := hc
 go_enter Tryd.func44, Tryd.ntmps44
 go_upto_region 1 with fail
 go_cut [3] (fun s3 wx => ∃ gi x y, s3 = .pointer (some ⟨gi, 0, none⟩) ∧ 0 ≤ x ∧ x < 6 ∧ 0 ≤ y ∧ y < 6 ∧ ICut w k a b c gi x y wx)
 case first =>
  go_region_with ((go_at_call 20; refine (picked_in _ _ _ ?_ ?_ ?_ ?_).mono ?_; (first | exact ha1 | exact hb1); (first | exact ha2 | exact hb2); omega; omega; rintro e w' ⟨z, hz1, hz2, rfl, rfl⟩))
  all_goals (go_wp2_with fail; go_meet)
  all_goals refine ⟨_, _, _, rfl, ?_, ?_, ?_, ?_, ⟨(alloc_lt (by simp; omega)).trans ((alloc_lt (by simp)).trans (alloc_at rfl)), (alloc_lt (by simp)).trans (alloc_at (by simp)), alloc_at (by simp), ((below_alloc2 _ _ _).alloc (by simp; omega) _).drew, by omega⟩⟩ <;> assumption
 case rest =>
  obtain ⟨gi, x, y, rfl, hx1, hx2, hy1, hy2, hI⟩ := hcut
  obtain ⟨c0, c3, i0, i1, i2, i3, o0, o1, o2, o3, f0, f1, f2, f3, g0, g1, g2, g3, lgi, lgo, lgr, ne1, ne2, ne3, ne4⟩ := hI.all
  have HI := Lib.hid hI
  clear hI
  go_upto_region 2 with fail
  go_cut [4] (fun s4 wx => ∃ z : Int, s4 = .int .i64 z ∧ z = pickZ k 24 ∧ wx = wc)
  case first =>
   go_wp2_with (go_at_call 20; refine (picked_any _ _ _ hk1 hk2 (by omega) (by omega)).mono ?_; rintro e w' ⟨rfl, rfl⟩)
   go_meet
   exact ⟨_, rfl, rfl, rfl⟩
  case rest =>
  obtain ⟨z, rfl, hz, hwx⟩ := hcut
  subst hwx
  rw [← hz] at hr
  clear hz
  go_upto_block 0 with fail
  go_cut [] (fun wx => ∃ op a b n : Int, iCode op a b n = 0 ∧ IEnd w gi op a b n wx)
  case first =>
   clear o0 o1 o2 o3 g0 g1 g2 g3 hk1 hk2 ha1 ha2 hb1 hb2 c0 i1 f1 lgo ne1 ne2
   obtain ⟨hz1, hz2⟩ := hr
   obtain rfl : z = 15 := by omega
   have hp := pick_rng c 14 (by omega)
   have hwp : IntKind.i64.wrap (pickZ c 14 - 6) = pickZ c 14 - 6 := IntWalk.i64_in _ (by omega)
   have hq : (0 : Int) = 0 := rfl
   go_upto_region 15 with fail
   go_region_with (go_at_call 20; refine (picked_any _ _ _ (by omega) (by omega) (by omega) (by omega)).mono ?_; rintro e w' ⟨he, rfl⟩; (try rw [hq] at he); subst he)
   all_goals (go_wp2_with fail; go_meet)
   all_goals exact ⟨9, x, y, pickZ c 14 - 6, (iCode0 (by omega) (by omega) (by omega)).symm, (iend2 HI.out).grown (below_alloc _ _).drew⟩
  case rest =>
   obtain ⟨op, a1, b1, n, hcode, hE⟩ := hcut
   clear c0 c3 i0 i1 i2 i3 o0 o1 o2 o3 f0 f1 f2 f3 g0 g1 g2 g3 lgi lgo lgr
   obtain ⟨i0, i1, i2, i3, o0, o1, o2, o3, g0, g1, g2, g3, lgo⟩ := hE.all
   have HE := Lib.hid hE
   have HCO := Lib.hid hcode
   clear hE hcode
   go_wp2
   exact bodyPost_ret (v := .agg #[.int .i64 op, .int .i64 a1, .int .i64 b1, .int .i64 n]) (by simp [results, Tryd.results44, go_sem, o0, o1, o2, o3]) rfl ⟨op, a1, b1, n, rfl, HCO.out, ((((HE.out.b.setCell (by simp) _).setCell (by simp) _).setCell (by simp) _).setCell (by simp) _)⟩
end Go.Proofs.YtpdbcdfgonnnnaaDoor
