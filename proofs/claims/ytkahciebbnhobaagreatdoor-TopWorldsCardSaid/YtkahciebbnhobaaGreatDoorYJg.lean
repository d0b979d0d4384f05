/- Several texts joined, each with its own heading in the notes: The contract of instr, where its kind is one of 16 to 18, 20 to 22. The contract of instr, where its kind is 23. The contract of instr: the instruction of the raw thing. The keep's Image: the words of the raw things. No condition beyond those of each row. -/
import Derived.Test.YtkahciebbnhobaaGreatDoorYJa
import Derived.Test.YtkahciebbnhobaaGreatDoorYJb
import Derived.Test.YtkahciebbnhobaaGreatDoorYJe
import Derived.Test.YtkahciebbnhobaaGreatDoorYKa
import Derived.Test.YtkahciebbnhobaaGreatDoorYInA
import Derived.Test.YtkahciebbnhobaaGreatDoorYPk
import Derived.Test.YtkahciebbnhobaaGreatDoorYCl
namespace Go.Proofs.YtkahciebbnhobaaGreatDoor
open Go Go.RowKit Go.ChangeShapes Go.WideShapes Go.Deep
set_option maxHeartbeats 40000000
set_option maxRecDepth 100000
set_option linter.unusedVariables false
attribute [local go_sem ↓] Go.wp_at_zero Go.wp_at_succ
theorem insz_16 (v:Value) (k a b c:Int) (w:World) (hv:RawR v k a b c) (hr:16≤pickZ k 24∧pickZ k 24 < 18):Calls Tryz.prog 34 #[v] w (InAt w 10 (pickZ a 6) (pickZ b 6) (pickZ c 3)):=by
 obtain⟨rfl,hk,ha,hb,hc⟩:=hv
 obtain⟨hk1,hk2⟩:=hk
 obtain⟨ha1,ha2⟩:=ha
 obtain⟨hb1,hb2⟩:=hb
 obtain⟨hc1,hc2⟩:=hc
 have HPA:=Lib.hid (fun w=>picked_any a 6 w ha1 ha2 (by omega) (by omega))
 have HPB:=Lib.hid (fun w=>picked_any b 6 w hb1 hb2 (by omega) (by omega))
 obtain⟨hx1,hx2⟩:=pick_rng a 6 (by omega)
 obtain⟨hy1,hy2⟩:=pick_rng b 6 (by omega)
 have HPC:=Lib.hid (fun w=>picked_any c 3 w hc1 hc2 (by omega) (by omega))
 obtain⟨hq1,hq2⟩:=pick_rng c 3 (by omega)
 generalize pickZ c 3=q at *
 generalize pickZ a 6=x at *
 generalize pickZ b 6=y at *
 go_enter Tryz.func34,Tryz.ntmps34
 go_upto_region 1 with fail
 go_cut [3] (fun s3 wx =>∃gi,s3=.pointer (some ⟨gi,0,none⟩)∧ICut w k a b c gi x y wx)
 case first =>
  go_region_with ((go_at_call 22;(first | (with_reducible refine (HPA.out _).mono ?_) | (with_reducible refine (HPB.out _).mono ?_));rintro e w' ⟨rfl,rfl⟩))
  all_goals (go_wp2_with fail;go_meet)
  all_goals exact⟨_,rfl,⟨(alloc_lt (by simp;omega)).trans ((alloc_lt (by simp)).trans (alloc_at rfl)),(alloc_lt (by simp)).trans (alloc_at (by simp)),alloc_at (by simp),((below_alloc2 _ _ _).alloc (by simp;omega) _).drew,by omega⟩⟩
 case rest =>
  obtain⟨gi,rfl,hI⟩:=hcut
  clear HPA HPB
  obtain⟨c0,c3,i0,i1,i2,i3,o0,o1,o2,o3,f0,f1,f2,f3,g0,g1,g2,g3,lgi,lgo,lgr,ne1,ne2,ne3,ne4⟩:=hI.all
  have HI:=Lib.hid hI
  clear hI
  go_upto_region 2 with fail
  go_cut [4] (fun s4 wx =>∃z:Int,s4=.int .i64 z∧z=pickZ k 24∧wx=wc)
  case first =>
   go_wp2_with (go_at_call 22;refine (picked_any _ _ _ hk1 hk2 (by omega) (by omega)).mono ?_;rintro e w' ⟨rfl,rfl⟩)
   go_meet
   exact⟨_,rfl,rfl,rfl⟩
  case rest =>
  obtain⟨z,rfl,hz,hwx⟩:=hcut
  subst hwx
  rw [← hz] at hr
  clear hz
  go_upto_block 0 with fail
  go_cut [] (fun wx=>IEnd w gi 10 x y (q) wx)
  case first =>
   clear o0 o1 o2 o3 g0 g1 g2 g3 hk1 hk2 ha1 ha2 hb1 hb2 c0 i1 f1 lgo ne1 ne2
   obtain⟨hz1,hz2⟩:=hr
   have h1:¬ z < 3:=by omega
   have h2:¬ z < 5:=by omega
   have h3:¬ z < 8:=by omega
   have h4:¬ z < 11:=by omega
   have h5:¬ z < 13:=by omega
   have h6:¬ z < 16:=by omega
   have h7:z < 18:=by omega
   go_wp2_with (go_at_call 22;refine (HPC.out _).mono ?_;rintro e w' ⟨rfl,rfl⟩)
   go_meet
   exact iend2 HI.out
  case rest =>
   have hE:=hcut
   clear hcut
   clear c0 c3 i0 i1 i2 i3 o0 o1 o2 o3 f0 f1 f2 f3 g0 g1 g2 g3 lgi lgo lgr
   obtain⟨i0,i1,i2,i3,o0,o1,o2,o3,g0,g1,g2,g3,lgo⟩:=hE.all
   have HE:=Lib.hid hE
   clear hE
   go_wp2
   exact bodyPost_ret (v:=.agg #[.int .i64 10,.int .i64 x,.int .i64 y,.int .i64 (q)]) (by simp [results,Tryz.results34,go_sem,o0,o1,o2,o3]) rfl ⟨rfl,(iCode0 (by omega) (by omega) (by omega)).symm,((((HE.out.b.setCell (by simp) _).setCell (by simp) _).setCell (by simp) _).setCell (by simp) _)⟩
theorem insz_18 (v:Value) (k a b c:Int) (w:World) (hv:RawR v k a b c) (hr:18≤pickZ k 24∧pickZ k 24 < 19):Calls Tryz.prog 34 #[v] w (InAt w 11 (pickZ a 6) (pickZ b 6) (3)):=by
 obtain⟨rfl,hk,ha,hb,hc⟩:=hv
 obtain⟨hk1,hk2⟩:=hk
 obtain⟨ha1,ha2⟩:=ha
 obtain⟨hb1,hb2⟩:=hb
 obtain⟨hc1,hc2⟩:=hc
 have HPA:=Lib.hid (fun w=>picked_any a 6 w ha1 ha2 (by omega) (by omega))
 have HPB:=Lib.hid (fun w=>picked_any b 6 w hb1 hb2 (by omega) (by omega))
 obtain⟨hx1,hx2⟩:=pick_rng a 6 (by omega)
 obtain⟨hy1,hy2⟩:=pick_rng b 6 (by omega)
 generalize pickZ a 6=x at *
 generalize pickZ b 6=y at *
 go_enter Tryz.func34,Tryz.ntmps34
 go_upto_region 1 with fail
 go_cut [3] (fun s3 wx =>∃gi,s3=.pointer (some ⟨gi,0,none⟩)∧ICut w k a b c gi x y wx)
 case first =>
  go_region_with ((go_at_call 22;(first | (with_reducible refine (HPA.out _).mono ?_) | (with_reducible refine (HPB.out _).mono ?_));rintro e w' ⟨rfl,rfl⟩))
  all_goals (go_wp2_with fail;go_meet)
  all_goals exact⟨_,rfl,⟨(alloc_lt (by simp;omega)).trans ((alloc_lt (by simp)).trans (alloc_at rfl)),(alloc_lt (by simp)).trans (alloc_at (by simp)),alloc_at (by simp),((below_alloc2 _ _ _).alloc (by simp;omega) _).drew,by omega⟩⟩
 case rest =>
  obtain⟨gi,rfl,hI⟩:=hcut
  clear HPA HPB
  obtain⟨c0,c3,i0,i1,i2,i3,o0,o1,o2,o3,f0,f1,f2,f3,g0,g1,g2,g3,lgi,lgo,lgr,ne1,ne2,ne3,ne4⟩:=hI.all
  have HI:=Lib.hid hI
  clear hI
  go_upto_region 2 with fail
  go_cut [4] (fun s4 wx =>∃z:Int,s4=.int .i64 z∧z=pickZ k 24∧wx=wc)
  case first =>
   go_wp2_with (go_at_call 22;refine (picked_any _ _ _ hk1 hk2 (by omega) (by omega)).mono ?_;rintro e w' ⟨rfl,rfl⟩)
   go_meet
   exact⟨_,rfl,rfl,rfl⟩
  case rest =>
  obtain⟨z,rfl,hz,hwx⟩:=hcut
  subst hwx
  rw [← hz] at hr
  clear hz
  go_upto_block 0 with fail
  go_cut [] (fun wx=>IEnd w gi 11 x y (3) wx)
  case first =>
   clear o0 o1 o2 o3 g0 g1 g2 g3 hk1 hk2 ha1 ha2 hb1 hb2 c0 i1 f1 lgo ne1 ne2
   obtain⟨hz1,hz2⟩:=hr
   obtain rfl:z=18:=by omega
   go_wp2
   go_meet
   exact iend2 HI.out
  case rest =>
   have hE:=hcut
   clear hcut
   clear c0 c3 i0 i1 i2 i3 o0 o1 o2 o3 f0 f1 f2 f3 g0 g1 g2 g3 lgi lgo lgr
   obtain⟨i0,i1,i2,i3,o0,o1,o2,o3,g0,g1,g2,g3,lgo⟩:=hE.all
   have HE:=Lib.hid hE
   clear hE
   go_wp2
   exact bodyPost_ret (v:=.agg #[.int .i64 11,.int .i64 x,.int .i64 y,.int .i64 (3)]) (by simp [results,Tryz.results34,go_sem,o0,o1,o2,o3]) rfl ⟨rfl,(iCode0 (by omega) (by omega) (by omega)).symm,((((HE.out.b.setCell (by simp) _).setCell (by simp) _).setCell (by simp) _).setCell (by simp) _)⟩
theorem insz_20 (v:Value) (k a b c:Int) (w:World) (hv:RawR v k a b c) (hr:20≤pickZ k 24∧pickZ k 24 < 21):Calls Tryz.prog 34 #[v] w (InAt w 12 (pickZ a 6) (pickZ b 6) (pickZ c 3 / 2)):=by
 obtain⟨rfl,hk,ha,hb,hc⟩:=hv
 obtain⟨hk1,hk2⟩:=hk
 obtain⟨ha1,ha2⟩:=ha
 obtain⟨hb1,hb2⟩:=hb
 obtain⟨hc1,hc2⟩:=hc
 have HPA:=Lib.hid (fun w=>picked_any a 6 w ha1 ha2 (by omega) (by omega))
 have HPB:=Lib.hid (fun w=>picked_any b 6 w hb1 hb2 (by omega) (by omega))
 obtain⟨hx1,hx2⟩:=pick_rng a 6 (by omega)
 obtain⟨hy1,hy2⟩:=pick_rng b 6 (by omega)
 have HPC:=Lib.hid (fun w=>picked_any c 3 w hc1 hc2 (by omega) (by omega))
 obtain⟨hq1,hq2⟩:=pick_rng c 3 (by omega)
 generalize pickZ c 3=q at *
 generalize pickZ a 6=x at *
 generalize pickZ b 6=y at *
 go_enter Tryz.func34,Tryz.ntmps34
 go_upto_region 1 with fail
 go_cut [3] (fun s3 wx =>∃gi,s3=.pointer (some ⟨gi,0,none⟩)∧ICut w k a b c gi x y wx)
 case first =>
  go_region_with ((go_at_call 22;(first | (with_reducible refine (HPA.out _).mono ?_) | (with_reducible refine (HPB.out _).mono ?_));rintro e w' ⟨rfl,rfl⟩))
  all_goals (go_wp2_with fail;go_meet)
  all_goals exact⟨_,rfl,⟨(alloc_lt (by simp;omega)).trans ((alloc_lt (by simp)).trans (alloc_at rfl)),(alloc_lt (by simp)).trans (alloc_at (by simp)),alloc_at (by simp),((below_alloc2 _ _ _).alloc (by simp;omega) _).drew,by omega⟩⟩
 case rest =>
  obtain⟨gi,rfl,hI⟩:=hcut
  clear HPA HPB
  obtain⟨c0,c3,i0,i1,i2,i3,o0,o1,o2,o3,f0,f1,f2,f3,g0,g1,g2,g3,lgi,lgo,lgr,ne1,ne2,ne3,ne4⟩:=hI.all
  have HI:=Lib.hid hI
  clear hI
  go_upto_region 2 with fail
  go_cut [4] (fun s4 wx =>∃z:Int,s4=.int .i64 z∧z=pickZ k 24∧wx=wc)
  case first =>
   go_wp2_with (go_at_call 22;refine (picked_any _ _ _ hk1 hk2 (by omega) (by omega)).mono ?_;rintro e w' ⟨rfl,rfl⟩)
   go_meet
   exact⟨_,rfl,rfl,rfl⟩
  case rest =>
  obtain⟨z,rfl,hz,hwx⟩:=hcut
  subst hwx
  rw [← hz] at hr
  clear hz
  go_upto_block 0 with fail
  go_cut [] (fun wx=>IEnd w gi 12 x y (q / 2) wx)
  case first =>
   clear o0 o1 o2 o3 g0 g1 g2 g3 hk1 hk2 ha1 ha2 hb1 hb2 c0 i1 f1 lgo ne1 ne2
   obtain⟨hz1,hz2⟩:=hr
   obtain rfl:z=20:=by omega
   go_wp2_with (go_at_call 22;refine (HPC.out _).mono ?_;rintro e w' ⟨rfl,rfl⟩)
   go_meet
   exact iend2 HI.out
  case rest =>
   have hE:=hcut
   clear hcut
   clear c0 c3 i0 i1 i2 i3 o0 o1 o2 o3 f0 f1 f2 f3 g0 g1 g2 g3 lgi lgo lgr
   obtain⟨i0,i1,i2,i3,o0,o1,o2,o3,g0,g1,g2,g3,lgo⟩:=hE.all
   have HE:=Lib.hid hE
   clear hE
   go_wp2
   exact bodyPost_ret (v:=.agg #[.int .i64 12,.int .i64 x,.int .i64 y,.int .i64 (q / 2)]) (by simp [results,Tryz.results34,go_sem,o0,o1,o2,o3]) rfl ⟨rfl,(iCode0 (by omega) (by omega) (by omega)).symm,((((HE.out.b.setCell (by simp) _).setCell (by simp) _).setCell (by simp) _).setCell (by simp) _)⟩
theorem insz_21 (v:Value) (k a b c:Int) (w:World) (hv:RawR v k a b c) (hr:21≤pickZ k 24∧pickZ k 24 < 22):Calls Tryz.prog 34 #[v] w (InAt w 6 (pickZ a 6) (pickZ b 6) (0)):=by
 obtain⟨rfl,hk,ha,hb,hc⟩:=hv
 obtain⟨hk1,hk2⟩:=hk
 obtain⟨ha1,ha2⟩:=ha
 obtain⟨hb1,hb2⟩:=hb
 obtain⟨hc1,hc2⟩:=hc
 have HPA:=Lib.hid (fun w=>picked_any a 6 w ha1 ha2 (by omega) (by omega))
 have HPB:=Lib.hid (fun w=>picked_any b 6 w hb1 hb2 (by omega) (by omega))
 obtain⟨hx1,hx2⟩:=pick_rng a 6 (by omega)
 obtain⟨hy1,hy2⟩:=pick_rng b 6 (by omega)
 generalize pickZ a 6=x at *
 generalize pickZ b 6=y at *
 go_enter Tryz.func34,Tryz.ntmps34
 go_upto_region 1 with fail
 go_cut [3] (fun s3 wx =>∃gi,s3=.pointer (some ⟨gi,0,none⟩)∧ICut w k a b c gi x y wx)
 case first =>
  go_region_with ((go_at_call 22;(first | (with_reducible refine (HPA.out _).mono ?_) | (with_reducible refine (HPB.out _).mono ?_));rintro e w' ⟨rfl,rfl⟩))
  all_goals (go_wp2_with fail;go_meet)
  all_goals exact⟨_,rfl,⟨(alloc_lt (by simp;omega)).trans ((alloc_lt (by simp)).trans (alloc_at rfl)),(alloc_lt (by simp)).trans (alloc_at (by simp)),alloc_at (by simp),((below_alloc2 _ _ _).alloc (by simp;omega) _).drew,by omega⟩⟩
 case rest =>
  obtain⟨gi,rfl,hI⟩:=hcut
  clear HPA HPB
  obtain⟨c0,c3,i0,i1,i2,i3,o0,o1,o2,o3,f0,f1,f2,f3,g0,g1,g2,g3,lgi,lgo,lgr,ne1,ne2,ne3,ne4⟩:=hI.all
  have HI:=Lib.hid hI
  clear hI
  go_upto_region 2 with fail
  go_cut [4] (fun s4 wx =>∃z:Int,s4=.int .i64 z∧z=pickZ k 24∧wx=wc)
  case first =>
   go_wp2_with (go_at_call 22;refine (picked_any _ _ _ hk1 hk2 (by omega) (by omega)).mono ?_;rintro e w' ⟨rfl,rfl⟩)
   go_meet
   exact⟨_,rfl,rfl,rfl⟩
  case rest =>
  obtain⟨z,rfl,hz,hwx⟩:=hcut
  subst hwx
  rw [← hz] at hr
  clear hz
  go_upto_block 0 with fail
  go_cut [] (fun wx=>IEnd w gi 6 x y (0) wx)
  case first =>
   clear o0 o1 o2 o3 g0 g1 g2 g3 hk1 hk2 ha1 ha2 hb1 hb2 c0 i1 f1 lgo ne1 ne2
   obtain⟨hz1,hz2⟩:=hr
   obtain rfl:z=21:=by omega
   go_wp2
   go_meet
   exact iend1 HI.out
  case rest =>
   have hE:=hcut
   clear hcut
   clear c0 c3 i0 i1 i2 i3 o0 o1 o2 o3 f0 f1 f2 f3 g0 g1 g2 g3 lgi lgo lgr
   obtain⟨i0,i1,i2,i3,o0,o1,o2,o3,g0,g1,g2,g3,lgo⟩:=hE.all
   have HE:=Lib.hid hE
   clear hE
   go_wp2
   exact bodyPost_ret (v:=.agg #[.int .i64 6,.int .i64 x,.int .i64 y,.int .i64 (0)]) (by simp [results,Tryz.results34,go_sem,o0,o1,o2,o3]) rfl ⟨rfl,(iCode0 (by omega) (by omega) (by omega)).symm,((((HE.out.b.setCell (by simp) _).setCell (by simp) _).setCell (by simp) _).setCell (by simp) _)⟩
theorem insz_22 (v:Value) (k a b c:Int) (w:World) (hv:RawR v k a b c) (hr:22≤pickZ k 24∧pickZ k 24 < 23):Calls Tryz.prog 34 #[v] w (InAt w 12 (pickZ a 6) (pickZ b 6) (1)):=by
 obtain⟨rfl,hk,ha,hb,hc⟩:=hv
 obtain⟨hk1,hk2⟩:=hk
 obtain⟨ha1,ha2⟩:=ha
 obtain⟨hb1,hb2⟩:=hb
 obtain⟨hc1,hc2⟩:=hc
 have HPA:=Lib.hid (fun w=>picked_any a 6 w ha1 ha2 (by omega) (by omega))
 have HPB:=Lib.hid (fun w=>picked_any b 6 w hb1 hb2 (by omega) (by omega))
 obtain⟨hx1,hx2⟩:=pick_rng a 6 (by omega)
 obtain⟨hy1,hy2⟩:=pick_rng b 6 (by omega)
 generalize pickZ a 6=x at *
 generalize pickZ b 6=y at *
 go_enter Tryz.func34,Tryz.ntmps34
 go_upto_region 1 with fail
 go_cut [3] (fun s3 wx =>∃gi,s3=.pointer (some ⟨gi,0,none⟩)∧ICut w k a b c gi x y wx)
 case first =>
  go_region_with ((go_at_call 22;(first | (with_reducible refine (HPA.out _).mono ?_) | (with_reducible refine (HPB.out _).mono ?_));rintro e w' ⟨rfl,rfl⟩))
  all_goals (go_wp2_with fail;go_meet)
  all_goals exact⟨_,rfl,⟨(alloc_lt (by simp;omega)).trans ((alloc_lt (by simp)).trans (alloc_at rfl)),(alloc_lt (by simp)).trans (alloc_at (by simp)),alloc_at (by simp),((below_alloc2 _ _ _).alloc (by simp;omega) _).drew,by omega⟩⟩
 case rest =>
  obtain⟨gi,rfl,hI⟩:=hcut
  clear HPA HPB
  obtain⟨c0,c3,i0,i1,i2,i3,o0,o1,o2,o3,f0,f1,f2,f3,g0,g1,g2,g3,lgi,lgo,lgr,ne1,ne2,ne3,ne4⟩:=hI.all
  have HI:=Lib.hid hI
  clear hI
  go_upto_region 2 with fail
  go_cut [4] (fun s4 wx =>∃z:Int,s4=.int .i64 z∧z=pickZ k 24∧wx=wc)
  case first =>
   go_wp2_with (go_at_call 22;refine (picked_any _ _ _ hk1 hk2 (by omega) (by omega)).mono ?_;rintro e w' ⟨rfl,rfl⟩)
   go_meet
   exact⟨_,rfl,rfl,rfl⟩
  case rest =>
  obtain⟨z,rfl,hz,hwx⟩:=hcut
  subst hwx
  rw [← hz] at hr
  clear hz
  go_upto_block 0 with fail
  go_cut [] (fun wx=>IEnd w gi 12 x y (1) wx)
  case first =>
   clear o0 o1 o2 o3 g0 g1 g2 g3 hk1 hk2 ha1 ha2 hb1 hb2 c0 i1 f1 lgo ne1 ne2
   obtain⟨hz1,hz2⟩:=hr
   obtain rfl:z=22:=by omega
   go_wp2
   go_meet
   exact iend2 HI.out
  case rest =>
   have hE:=hcut
   clear hcut
   clear c0 c3 i0 i1 i2 i3 o0 o1 o2 o3 f0 f1 f2 f3 g0 g1 g2 g3 lgi lgo lgr
   obtain⟨i0,i1,i2,i3,o0,o1,o2,o3,g0,g1,g2,g3,lgo⟩:=hE.all
   have HE:=Lib.hid hE
   clear hE
   go_wp2
   exact bodyPost_ret (v:=.agg #[.int .i64 12,.int .i64 x,.int .i64 y,.int .i64 (1)]) (by simp [results,Tryz.results34,go_sem,o0,o1,o2,o3]) rfl ⟨rfl,(iCode0 (by omega) (by omega) (by omega)).symm,((((HE.out.b.setCell (by simp) _).setCell (by simp) _).setCell (by simp) _).setCell (by simp) _)⟩
theorem insz_23_0 (v:Value) (k a b c:Int) (w:World) (hv:RawR v k a b c) (hr:23≤pickZ k 24∧pickZ k 24 < 24) (hq:pickZ c 5=0):Calls Tryz.prog 34 #[v] w (InAt w 0 (pickZ a 6) (pickZ b 6) (0)):=by
 obtain⟨rfl,hk,ha,hb,hc⟩:=hv
 obtain⟨hk1,hk2⟩:=hk
 obtain⟨ha1,ha2⟩:=ha
 obtain⟨hb1,hb2⟩:=hb
 obtain⟨hc1,hc2⟩:=hc
 have HPA:=Lib.hid (fun w=>picked_any a 6 w ha1 ha2 (by omega) (by omega))
 have HPB:=Lib.hid (fun w=>picked_any b 6 w hb1 hb2 (by omega) (by omega))
 obtain⟨hx1,hx2⟩:=pick_rng a 6 (by omega)
 obtain⟨hy1,hy2⟩:=pick_rng b 6 (by omega)
 generalize pickZ a 6=x at *
 generalize pickZ b 6=y at *
 go_enter Tryz.func34,Tryz.ntmps34
 go_upto_region 1 with fail
 go_cut [3] (fun s3 wx =>∃gi,s3=.pointer (some ⟨gi,0,none⟩)∧ICut w k a b c gi x y wx)
 case first =>
  go_region_with ((go_at_call 22;(first | (with_reducible refine (HPA.out _).mono ?_) | (with_reducible refine (HPB.out _).mono ?_));rintro e w' ⟨rfl,rfl⟩))
  all_goals (go_wp2_with fail;go_meet)
  all_goals exact⟨_,rfl,⟨(alloc_lt (by simp;omega)).trans ((alloc_lt (by simp)).trans (alloc_at rfl)),(alloc_lt (by simp)).trans (alloc_at (by simp)),alloc_at (by simp),((below_alloc2 _ _ _).alloc (by simp;omega) _).drew,by omega⟩⟩
 case rest =>
  obtain⟨gi,rfl,hI⟩:=hcut
  clear HPA HPB
  obtain⟨c0,c3,i0,i1,i2,i3,o0,o1,o2,o3,f0,f1,f2,f3,g0,g1,g2,g3,lgi,lgo,lgr,ne1,ne2,ne3,ne4⟩:=hI.all
  have HI:=Lib.hid hI
  clear hI
  go_upto_region 2 with fail
  go_cut [4] (fun s4 wx =>∃z:Int,s4=.int .i64 z∧z=pickZ k 24∧wx=wc)
  case first =>
   go_wp2_with (go_at_call 22;refine (picked_any _ _ _ hk1 hk2 (by omega) (by omega)).mono ?_;rintro e w' ⟨rfl,rfl⟩)
   go_meet
   exact⟨_,rfl,rfl,rfl⟩
  case rest =>
  obtain⟨z,rfl,hz,hwx⟩:=hcut
  subst hwx
  rw [← hz] at hr
  clear hz
  go_upto_block 0 with fail
  go_cut [] (fun wx=>IEnd w gi 0 x y (0) wx)
  case first =>
   clear o0 o1 o2 o3 g0 g1 g2 g3 hk1 hk2 ha1 ha2 hb1 hb2 c0 i1 f1 lgo ne1 ne2
   obtain⟨hz1,hz2⟩:=hr
   obtain rfl:z=23:=by omega
   go_wp2_with (go_at_call 22;refine (picked_any _ _ _ (by omega) (by omega) (by omega) (by omega)).mono ?_;rintro e w' ⟨he,rfl⟩;(try rw [hq] at he);subst he)
   go_meet
   exact (iend1 HI.out).grown (below_alloc _ _)
  case rest =>
   have hE:=hcut
   clear hcut
   clear c0 c3 i0 i1 i2 i3 o0 o1 o2 o3 f0 f1 f2 f3 g0 g1 g2 g3 lgi lgo lgr
   obtain⟨i0,i1,i2,i3,o0,o1,o2,o3,g0,g1,g2,g3,lgo⟩:=hE.all
   have HE:=Lib.hid hE
   clear hE
   go_wp2
   exact bodyPost_ret (v:=.agg #[.int .i64 0,.int .i64 x,.int .i64 y,.int .i64 (0)]) (by simp [results,Tryz.results34,go_sem,o0,o1,o2,o3]) rfl ⟨rfl,(iCode0 (by omega) (by omega) (by omega)).symm,((((HE.out.b.setCell (by simp) _).setCell (by simp) _).setCell (by simp) _).setCell (by simp) _)⟩
theorem insz_23_1 (v:Value) (k a b c:Int) (w:World) (hv:RawR v k a b c) (hr:23≤pickZ k 24∧pickZ k 24 < 24) (hq:pickZ c 5=1):Calls Tryz.prog 34 #[v] w (InAt w 15 (pickZ a 6) (pickZ b 6) (0)):=by
 obtain⟨rfl,hk,ha,hb,hc⟩:=hv
 obtain⟨hk1,hk2⟩:=hk
 obtain⟨ha1,ha2⟩:=ha
 obtain⟨hb1,hb2⟩:=hb
 obtain⟨hc1,hc2⟩:=hc
 have HPA:=Lib.hid (fun w=>picked_any a 6 w ha1 ha2 (by omega) (by omega))
 have HPB:=Lib.hid (fun w=>picked_any b 6 w hb1 hb2 (by omega) (by omega))
 obtain⟨hx1,hx2⟩:=pick_rng a 6 (by omega)
 obtain⟨hy1,hy2⟩:=pick_rng b 6 (by omega)
 generalize pickZ a 6=x at *
 generalize pickZ b 6=y at *
 go_enter Tryz.func34,Tryz.ntmps34
 go_upto_region 1 with fail
 go_cut [3] (fun s3 wx =>∃gi,s3=.pointer (some ⟨gi,0,none⟩)∧ICut w k a b c gi x y wx)
 case first =>
  go_region_with ((go_at_call 22;(first | (with_reducible refine (HPA.out _).mono ?_) | (with_reducible refine (HPB.out _).mono ?_));rintro e w' ⟨rfl,rfl⟩))
  all_goals (go_wp2_with fail;go_meet)
  all_goals exact⟨_,rfl,⟨(alloc_lt (by simp;omega)).trans ((alloc_lt (by simp)).trans (alloc_at rfl)),(alloc_lt (by simp)).trans (alloc_at (by simp)),alloc_at (by simp),((below_alloc2 _ _ _).alloc (by simp;omega) _).drew,by omega⟩⟩
 case rest =>
  obtain⟨gi,rfl,hI⟩:=hcut
  clear HPA HPB
  obtain⟨c0,c3,i0,i1,i2,i3,o0,o1,o2,o3,f0,f1,f2,f3,g0,g1,g2,g3,lgi,lgo,lgr,ne1,ne2,ne3,ne4⟩:=hI.all
  have HI:=Lib.hid hI
  clear hI
  go_upto_region 2 with fail
  go_cut [4] (fun s4 wx =>∃z:Int,s4=.int .i64 z∧z=pickZ k 24∧wx=wc)
  case first =>
   go_wp2_with (go_at_call 22;refine (picked_any _ _ _ hk1 hk2 (by omega) (by omega)).mono ?_;rintro e w' ⟨rfl,rfl⟩)
   go_meet
   exact⟨_,rfl,rfl,rfl⟩
  case rest =>
  obtain⟨z,rfl,hz,hwx⟩:=hcut
  subst hwx
  rw [← hz] at hr
  clear hz
  go_upto_block 0 with fail
  go_cut [] (fun wx=>IEnd w gi 15 x y (0) wx)
  case first =>
   clear o0 o1 o2 o3 g0 g1 g2 g3 hk1 hk2 ha1 ha2 hb1 hb2 c0 i1 f1 lgo ne1 ne2
   obtain⟨hz1,hz2⟩:=hr
   obtain rfl:z=23:=by omega
   go_wp2_with (go_at_call 22;refine (picked_any _ _ _ (by omega) (by omega) (by omega) (by omega)).mono ?_;rintro e w' ⟨he,rfl⟩;(try rw [hq] at he);subst he)
   go_meet
   exact (iend1 HI.out).grown (below_alloc _ _)
  case rest =>
   have hE:=hcut
   clear hcut
   clear c0 c3 i0 i1 i2 i3 o0 o1 o2 o3 f0 f1 f2 f3 g0 g1 g2 g3 lgi lgo lgr
   obtain⟨i0,i1,i2,i3,o0,o1,o2,o3,g0,g1,g2,g3,lgo⟩:=hE.all
   have HE:=Lib.hid hE
   clear hE
   go_wp2
   exact bodyPost_ret (v:=.agg #[.int .i64 15,.int .i64 x,.int .i64 y,.int .i64 (0)]) (by simp [results,Tryz.results34,go_sem,o0,o1,o2,o3]) rfl ⟨rfl,(iCode0 (by omega) (by omega) (by omega)).symm,((((HE.out.b.setCell (by simp) _).setCell (by simp) _).setCell (by simp) _).setCell (by simp) _)⟩
theorem insz_23_2 (v:Value) (k a b c:Int) (w:World) (hv:RawR v k a b c) (hr:23≤pickZ k 24∧pickZ k 24 < 24) (hq:pickZ c 5=2):Calls Tryz.prog 34 #[v] w (InAt w 15 (pickZ a 6) (pickZ b 6) (0)):=by
 obtain⟨rfl,hk,ha,hb,hc⟩:=hv
 obtain⟨hk1,hk2⟩:=hk
 obtain⟨ha1,ha2⟩:=ha
 obtain⟨hb1,hb2⟩:=hb
 obtain⟨hc1,hc2⟩:=hc
 have HPA:=Lib.hid (fun w=>picked_any a 6 w ha1 ha2 (by omega) (by omega))
 have HPB:=Lib.hid (fun w=>picked_any b 6 w hb1 hb2 (by omega) (by omega))
 obtain⟨hx1,hx2⟩:=pick_rng a 6 (by omega)
 obtain⟨hy1,hy2⟩:=pick_rng b 6 (by omega)
 generalize pickZ a 6=x at *
 generalize pickZ b 6=y at *
 go_enter Tryz.func34,Tryz.ntmps34
 go_upto_region 1 with fail
 go_cut [3] (fun s3 wx =>∃gi,s3=.pointer (some ⟨gi,0,none⟩)∧ICut w k a b c gi x y wx)
 case first =>
  go_region_with ((go_at_call 22;(first | (with_reducible refine (HPA.out _).mono ?_) | (with_reducible refine (HPB.out _).mono ?_));rintro e w' ⟨rfl,rfl⟩))
  all_goals (go_wp2_with fail;go_meet)
  all_goals exact⟨_,rfl,⟨(alloc_lt (by simp;omega)).trans ((alloc_lt (by simp)).trans (alloc_at rfl)),(alloc_lt (by simp)).trans (alloc_at (by simp)),alloc_at (by simp),((below_alloc2 _ _ _).alloc (by simp;omega) _).drew,by omega⟩⟩
 case rest =>
  obtain⟨gi,rfl,hI⟩:=hcut
  clear HPA HPB
  obtain⟨c0,c3,i0,i1,i2,i3,o0,o1,o2,o3,f0,f1,f2,f3,g0,g1,g2,g3,lgi,lgo,lgr,ne1,ne2,ne3,ne4⟩:=hI.all
  have HI:=Lib.hid hI
  clear hI
  go_upto_region 2 with fail
  go_cut [4] (fun s4 wx =>∃z:Int,s4=.int .i64 z∧z=pickZ k 24∧wx=wc)
  case first =>
   go_wp2_with (go_at_call 22;refine (picked_any _ _ _ hk1 hk2 (by omega) (by omega)).mono ?_;rintro e w' ⟨rfl,rfl⟩)
   go_meet
   exact⟨_,rfl,rfl,rfl⟩
  case rest =>
  obtain⟨z,rfl,hz,hwx⟩:=hcut
  subst hwx
  rw [← hz] at hr
  clear hz
  go_upto_block 0 with fail
  go_cut [] (fun wx=>IEnd w gi 15 x y (0) wx)
  case first =>
   clear o0 o1 o2 o3 g0 g1 g2 g3 hk1 hk2 ha1 ha2 hb1 hb2 c0 i1 f1 lgo ne1 ne2
   obtain⟨hz1,hz2⟩:=hr
   obtain rfl:z=23:=by omega
   go_wp2_with (go_at_call 22;refine (picked_any _ _ _ (by omega) (by omega) (by omega) (by omega)).mono ?_;rintro e w' ⟨he,rfl⟩;(try rw [hq] at he);subst he)
   go_meet
   exact (iend1 HI.out).grown (below_alloc _ _)
  case rest =>
   have hE:=hcut
   clear hcut
   clear c0 c3 i0 i1 i2 i3 o0 o1 o2 o3 f0 f1 f2 f3 g0 g1 g2 g3 lgi lgo lgr
   obtain⟨i0,i1,i2,i3,o0,o1,o2,o3,g0,g1,g2,g3,lgo⟩:=hE.all
   have HE:=Lib.hid hE
   clear hE
   go_wp2
   exact bodyPost_ret (v:=.agg #[.int .i64 15,.int .i64 x,.int .i64 y,.int .i64 (0)]) (by simp [results,Tryz.results34,go_sem,o0,o1,o2,o3]) rfl ⟨rfl,(iCode0 (by omega) (by omega) (by omega)).symm,((((HE.out.b.setCell (by simp) _).setCell (by simp) _).setCell (by simp) _).setCell (by simp) _)⟩
theorem insz_23_3 (v:Value) (k a b c:Int) (w:World) (hv:RawR v k a b c) (hr:23≤pickZ k 24∧pickZ k 24 < 24) (hq:pickZ c 5=3):Calls Tryz.prog 34 #[v] w (InAt w 15 (pickZ a 6) (pickZ b 6) (0)):=by
 obtain⟨rfl,hk,ha,hb,hc⟩:=hv
 obtain⟨hk1,hk2⟩:=hk
 obtain⟨ha1,ha2⟩:=ha
 obtain⟨hb1,hb2⟩:=hb
 obtain⟨hc1,hc2⟩:=hc
 have HPA:=Lib.hid (fun w=>picked_any a 6 w ha1 ha2 (by omega) (by omega))
 have HPB:=Lib.hid (fun w=>picked_any b 6 w hb1 hb2 (by omega) (by omega))
 obtain⟨hx1,hx2⟩:=pick_rng a 6 (by omega)
 obtain⟨hy1,hy2⟩:=pick_rng b 6 (by omega)
 generalize pickZ a 6=x at *
 generalize pickZ b 6=y at *
 go_enter Tryz.func34,Tryz.ntmps34
 go_upto_region 1 with fail
 go_cut [3] (fun s3 wx =>∃gi,s3=.pointer (some ⟨gi,0,none⟩)∧ICut w k a b c gi x y wx)
 case first =>
  go_region_with ((go_at_call 22;(first | (with_reducible refine (HPA.out _).mono ?_) | (with_reducible refine (HPB.out _).mono ?_));rintro e w' ⟨rfl,rfl⟩))
  all_goals (go_wp2_with fail;go_meet)
  all_goals exact⟨_,rfl,⟨(alloc_lt (by simp;omega)).trans ((alloc_lt (by simp)).trans (alloc_at rfl)),(alloc_lt (by simp)).trans (alloc_at (by simp)),alloc_at (by simp),((below_alloc2 _ _ _).alloc (by simp;omega) _).drew,by omega⟩⟩
 case rest =>
  obtain⟨gi,rfl,hI⟩:=hcut
  clear HPA HPB
  obtain⟨c0,c3,i0,i1,i2,i3,o0,o1,o2,o3,f0,f1,f2,f3,g0,g1,g2,g3,lgi,lgo,lgr,ne1,ne2,ne3,ne4⟩:=hI.all
  have HI:=Lib.hid hI
  clear hI
  go_upto_region 2 with fail
  go_cut [4] (fun s4 wx =>∃z:Int,s4=.int .i64 z∧z=pickZ k 24∧wx=wc)
  case first =>
   go_wp2_with (go_at_call 22;refine (picked_any _ _ _ hk1 hk2 (by omega) (by omega)).mono ?_;rintro e w' ⟨rfl,rfl⟩)
   go_meet
   exact⟨_,rfl,rfl,rfl⟩
  case rest =>
  obtain⟨z,rfl,hz,hwx⟩:=hcut
  subst hwx
  rw [← hz] at hr
  clear hz
  go_upto_block 0 with fail
  go_cut [] (fun wx=>IEnd w gi 15 x y (0) wx)
  case first =>
   clear o0 o1 o2 o3 g0 g1 g2 g3 hk1 hk2 ha1 ha2 hb1 hb2 c0 i1 f1 lgo ne1 ne2
   obtain⟨hz1,hz2⟩:=hr
   obtain rfl:z=23:=by omega
   go_wp2_with (go_at_call 22;refine (picked_any _ _ _ (by omega) (by omega) (by omega) (by omega)).mono ?_;rintro e w' ⟨he,rfl⟩;(try rw [hq] at he);subst he)
   go_meet
   exact (iend1 HI.out).grown (below_alloc _ _)
  case rest =>
   have hE:=hcut
   clear hcut
   clear c0 c3 i0 i1 i2 i3 o0 o1 o2 o3 f0 f1 f2 f3 g0 g1 g2 g3 lgi lgo lgr
   obtain⟨i0,i1,i2,i3,o0,o1,o2,o3,g0,g1,g2,g3,lgo⟩:=hE.all
   have HE:=Lib.hid hE
   clear hE
   go_wp2
   exact bodyPost_ret (v:=.agg #[.int .i64 15,.int .i64 x,.int .i64 y,.int .i64 (0)]) (by simp [results,Tryz.results34,go_sem,o0,o1,o2,o3]) rfl ⟨rfl,(iCode0 (by omega) (by omega) (by omega)).symm,((((HE.out.b.setCell (by simp) _).setCell (by simp) _).setCell (by simp) _).setCell (by simp) _)⟩
theorem insz_23_4 (v:Value) (k a b c:Int) (w:World) (hv:RawR v k a b c) (hr:23≤pickZ k 24∧pickZ k 24 < 24) (hq:pickZ c 5=4):Calls Tryz.prog 34 #[v] w (InAt w 13 (pickZ a 6) (pickZ b 6) (0)):=by
 obtain⟨rfl,hk,ha,hb,hc⟩:=hv
 obtain⟨hk1,hk2⟩:=hk
 obtain⟨ha1,ha2⟩:=ha
 obtain⟨hb1,hb2⟩:=hb
 obtain⟨hc1,hc2⟩:=hc
 have HPA:=Lib.hid (fun w=>picked_any a 6 w ha1 ha2 (by omega) (by omega))
 have HPB:=Lib.hid (fun w=>picked_any b 6 w hb1 hb2 (by omega) (by omega))
 obtain⟨hx1,hx2⟩:=pick_rng a 6 (by omega)
 obtain⟨hy1,hy2⟩:=pick_rng b 6 (by omega)
 generalize pickZ a 6=x at *
 generalize pickZ b 6=y at *
 go_enter Tryz.func34,Tryz.ntmps34
 go_upto_region 1 with fail
 go_cut [3] (fun s3 wx =>∃gi,s3=.pointer (some ⟨gi,0,none⟩)∧ICut w k a b c gi x y wx)
 case first =>
  go_region_with ((go_at_call 22;(first | (with_reducible refine (HPA.out _).mono ?_) | (with_reducible refine (HPB.out _).mono ?_));rintro e w' ⟨rfl,rfl⟩))
  all_goals (go_wp2_with fail;go_meet)
  all_goals exact⟨_,rfl,⟨(alloc_lt (by simp;omega)).trans ((alloc_lt (by simp)).trans (alloc_at rfl)),(alloc_lt (by simp)).trans (alloc_at (by simp)),alloc_at (by simp),((below_alloc2 _ _ _).alloc (by simp;omega) _).drew,by omega⟩⟩
 case rest =>
  obtain⟨gi,rfl,hI⟩:=hcut
  clear HPA HPB
  obtain⟨c0,c3,i0,i1,i2,i3,o0,o1,o2,o3,f0,f1,f2,f3,g0,g1,g2,g3,lgi,lgo,lgr,ne1,ne2,ne3,ne4⟩:=hI.all
  have HI:=Lib.hid hI
  clear hI
  go_upto_region 2 with fail
  go_cut [4] (fun s4 wx =>∃z:Int,s4=.int .i64 z∧z=pickZ k 24∧wx=wc)
  case first =>
   go_wp2_with (go_at_call 22;refine (picked_any _ _ _ hk1 hk2 (by omega) (by omega)).mono ?_;rintro e w' ⟨rfl,rfl⟩)
   go_meet
   exact⟨_,rfl,rfl,rfl⟩
  case rest =>
  obtain⟨z,rfl,hz,hwx⟩:=hcut
  subst hwx
  rw [← hz] at hr
  clear hz
  go_upto_block 0 with fail
  go_cut [] (fun wx=>IEnd w gi 13 x y (0) wx)
  case first =>
   clear o0 o1 o2 o3 g0 g1 g2 g3 hk1 hk2 ha1 ha2 hb1 hb2 c0 i1 f1 lgo ne1 ne2
   obtain⟨hz1,hz2⟩:=hr
   obtain rfl:z=23:=by omega
   go_wp2_with (go_at_call 22;refine (picked_any _ _ _ (by omega) (by omega) (by omega) (by omega)).mono ?_;rintro e w' ⟨he,rfl⟩;(try rw [hq] at he);subst he)
   go_meet
   exact (iend1 HI.out).grown (below_alloc _ _)
  case rest =>
   have hE:=hcut
   clear hcut
   clear c0 c3 i0 i1 i2 i3 o0 o1 o2 o3 f0 f1 f2 f3 g0 g1 g2 g3 lgi lgo lgr
   obtain⟨i0,i1,i2,i3,o0,o1,o2,o3,g0,g1,g2,g3,lgo⟩:=hE.all
   have HE:=Lib.hid hE
   clear hE
   go_wp2
   exact bodyPost_ret (v:=.agg #[.int .i64 13,.int .i64 x,.int .i64 y,.int .i64 (0)]) (by simp [results,Tryz.results34,go_sem,o0,o1,o2,o3]) rfl ⟨rfl,(iCode0 (by omega) (by omega) (by omega)).symm,((((HE.out.b.setCell (by simp) _).setCell (by simp) _).setCell (by simp) _).setCell (by simp) _)⟩
end Go.Proofs.YtkahciebbnhobaaGreatDoor
namespace Go.Proofs.YtkahciebbnhobaaGreatDoor
open Go Go.RowKit Go.ChangeShapes Go.WideShapes Go.Deep
set_option linter.unusedVariables false
def insZ (k a b c:Int):Ins:=
 if pickZ k 24 < 3 then ⟨1,pickZ a 6,pickZ b 6,pickZ c 60 - 10⟩
 else if pickZ k 24 < 5 then (if pickZ (c.tdiv 8) 2=0 then ⟨2,pickZ a 6,pickZ b 6,pickZ c 6⟩ else ⟨3,pickZ a 6,pickZ b 6,pickZ c 6⟩)
 else if pickZ k 24 < 8 then ⟨4,pickZ a 6,pickZ b 6,pickZ c 9 - 4⟩
 else if pickZ k 24 < 11 then ⟨6,pickZ a 6,6,100+pickZ c 120⟩
 else if pickZ k 24 < 13 then ⟨5,pickZ a 6,6,100+pickZ c 120⟩
 else if pickZ k 24 < 14 then ⟨7,pickZ a 6,pickZ b 6,pickZ c 14 - 6⟩
 else if pickZ k 24 < 15 then ⟨8,pickZ a 6,pickZ b 6,pickZ c 14 - 6⟩
 else if pickZ k 24 < 16 then ⟨9,pickZ a 6,pickZ b 6,pickZ c 14 - 6⟩
 else if pickZ k 24 < 18 then ⟨10,pickZ a 6,pickZ b 6,pickZ c 3⟩
 else if pickZ k 24 < 19 then ⟨11,pickZ a 6,pickZ b 6,3⟩
 else if pickZ k 24 < 20 then (if pickZ c 2=0 then ⟨11,pickZ a 6,pickZ b 6,4⟩ else ⟨11,pickZ a 6,pickZ b 6,3⟩)
 else if pickZ k 24 < 21 then ⟨12,pickZ a 6,pickZ b 6,pickZ c 3 / 2⟩
 else if pickZ k 24 < 22 then ⟨6,pickZ a 6,pickZ b 6,0⟩
 else if pickZ k 24 < 23 then ⟨12,pickZ a 6,pickZ b 6,1⟩
 else if pickZ c 5=0 then ⟨0,pickZ a 6,pickZ b 6,0⟩
 else if pickZ c 5=1 then ⟨15,pickZ a 6,pickZ b 6,0⟩
 else if pickZ c 5=2 then ⟨15,pickZ a 6,pickZ b 6,0⟩
 else if pickZ c 5=3 then ⟨15,pickZ a 6,pickZ b 6,0⟩
 else ⟨13,pickZ a 6,pickZ b 6,0⟩
theorem insz_any (v:Value) (k a b c:Int) (w:World) (hv:RawR v k a b c):Calls Tryz.prog 34 #[v] w (InAt w (insZ k a b c).op (insZ k a b c).a (insZ k a b c).b (insZ k a b c).n):=by
 unfold insZ
 have r:=pick_rng k 24 (by omega)
 have q8:=pick_rng (c.tdiv 8) 2 (by omega)
 have q2:=pick_rng c 2 (by omega)
 have q5:=pick_rng c 5 (by omega)
 by_cases h0:pickZ k 24 < 3
 ·
  rw [if_pos h0]
  exact insz_0 v k a b c w hv (by omega)
 rw [if_neg h0]
 by_cases h1:pickZ k 24 < 5
 ·
  rw [if_pos h1]
  by_cases e:pickZ (c.tdiv 8) 2=0
  ·
   rw [if_pos e]
   exact insz_3_0 v k a b c w hv (by omega) e
  ·
   rw [if_neg e]
   exact insz_3_1 v k a b c w hv (by omega) (by omega)
 rw [if_neg h1]
 by_cases h2:pickZ k 24 < 8
 ·
  rw [if_pos h2]
  exact insz_5 v k a b c w hv (by omega)
 rw [if_neg h2]
 by_cases h3:pickZ k 24 < 11
 ·
  rw [if_pos h3]
  exact insz_8 v k a b c w hv (by omega)
 rw [if_neg h3]
 by_cases h4:pickZ k 24 < 13
 ·
  rw [if_pos h4]
  exact insz_11 v k a b c w hv (by omega)
 rw [if_neg h4]
 by_cases h5:pickZ k 24 < 14
 ·
  rw [if_pos h5]
  exact insz_13 v k a b c w hv (by omega)
 rw [if_neg h5]
 by_cases h6:pickZ k 24 < 15
 ·
  rw [if_pos h6]
  exact insz_14 v k a b c w hv (by omega)
 rw [if_neg h6]
 by_cases h7:pickZ k 24 < 16
 ·
  rw [if_pos h7]
  exact insz_15 v k a b c w hv (by omega)
 rw [if_neg h7]
 by_cases h8:pickZ k 24 < 18
 ·
  rw [if_pos h8]
  exact insz_16 v k a b c w hv (by omega)
 rw [if_neg h8]
 by_cases h9:pickZ k 24 < 19
 ·
  rw [if_pos h9]
  exact insz_18 v k a b c w hv (by omega)
 rw [if_neg h9]
 by_cases h10:pickZ k 24 < 20
 ·
  rw [if_pos h10]
  by_cases e:pickZ c 2=0
  ·
   rw [if_pos e]
   exact insz_19_0 v k a b c w hv (by omega) e
  ·
   rw [if_neg e]
   exact insz_19_1 v k a b c w hv (by omega) (by omega)
 rw [if_neg h10]
 by_cases h11:pickZ k 24 < 21
 ·
  rw [if_pos h11]
  exact insz_20 v k a b c w hv (by omega)
 rw [if_neg h11]
 by_cases h12:pickZ k 24 < 22
 ·
  rw [if_pos h12]
  exact insz_21 v k a b c w hv (by omega)
 rw [if_neg h12]
 by_cases h13:pickZ k 24 < 23
 ·
  rw [if_pos h13]
  exact insz_22 v k a b c w hv (by omega)
 rw [if_neg h13]
 by_cases e0:pickZ c 5=0
 ·
  rw [if_pos e0]
  exact insz_23_0 v k a b c w hv (by omega) e0
 rw [if_neg e0]
 by_cases e1:pickZ c 5=1
 ·
  rw [if_pos e1]
  exact insz_23_1 v k a b c w hv (by omega) e1
 rw [if_neg e1]
 by_cases e2:pickZ c 5=2
 ·
  rw [if_pos e2]
  exact insz_23_2 v k a b c w hv (by omega) e2
 rw [if_neg e2]
 by_cases e3:pickZ c 5=3
 ·
  rw [if_pos e3]
  exact insz_23_3 v k a b c w hv (by omega) e3
 rw [if_neg e3]
 exact insz_23_4 v k a b c w hv (by omega) (by omega)
end Go.Proofs.YtkahciebbnhobaaGreatDoor
namespace Go.Proofs.YtkahciebbnhobaaGreatDoor
open Go Go.RowKit Go.ChangeShapes Go.WideShapes Go.Deep
set_option maxHeartbeats 4000000
set_option maxRecDepth 100000
set_option linter.unusedVariables false
attribute [local go_sem ↓] Go.wp_at_zero Go.wp_at_succ
def imgP (xs:List Rw) (i:Nat):List Int:=(iProg ++ (xs.take i).map (fun x=>insZ x.k x.a x.b x.c)).map Ins.enc
def imgZ (xs:List Rw):List Int:=imgP xs 50 ++ [Ins.enc ⟨9,0,0,-(min (xs.length:Int) 50)⟩]
def ImageAt (xs:List Rw) (w:World) (e:Ending) (w':World):Prop:=∃ a c n,e=.returned (.slice a n c)∧n≤64∧WOwn w.heap.size w' a c n (imgZ xs)∧Below w.heap.size w w'
theorem imgP_next {xs:List Rw} {i:Nat} (h:i < xs.length):imgP xs (i+1)=imgP xs i ++ [Ins.enc (insZ xs[i].k xs[i].a xs[i].b xs[i].c)]:=by
 unfold imgP
 rw [List.take_succ_eq_append_getElem h,List.map_append,List.map_append,List.map_append,List.map_append,List.append_assoc]
 rfl
theorem imgP_all {xs:List Rw} {i:Nat} (h:xs.length≤i) (h2:i≤50):imgP xs 50=imgP xs i:=by
 unfold imgP
 rw [List.take_of_length_le h,List.take_of_length_le (by omega)]
theorem image_at (v:Value) (xs:List Rw) (w:World) (h:RawsR w.heap.size w v xs):Calls Tryz.prog 10 #[v] w (ImageAt xs w):=by
 obtain⟨a0,c0,rfl,hl,hlc,hcell⟩:=h
 have HC:=Lib.hid hcell
 clear hcell
 go_enter Tryz.func10,Tryz.ntmps10
 go_wp2_with (go_at_call 33;refine (kwords_any _ iProg _ ?_).mono ?_;(exact insr_block (l:=iProg) (alloc_at (by simp)) (by decide) (by decide));rintro e w1 ⟨a1,c1,rfl,ho1,hb1⟩;have HO1:Hid (WOwn w.heap.size w1 a1 c1 13 (iProg.map Ins.enc)):=(Lib.hid ⟨rfl,encs_word _,own_re ho1 (fun g hg=>by have:=(ho1.lt g hg).1;simp at this;omega)⟩);have HB1:Hid (Below w.heap.size w w1):=(Lib.hid ((below_alloc3 w _ _ _).trans (hb1.mono (by simp;omega))));clear ho1 hb1)
 go_loopg [5,6] 50 (fun gg s5 s6 wr =>∃(i:Nat) (n:Nat) (zs:List Int) (a1:Option Addr) (c1:Nat),i≤50∧i≤xs.length∧50 - i≤gg∧n=13+i∧s6=.int .i64 i∧s5=.slice a1 n c1∧Hid (WOwn w.heap.size wr a1 c1 n zs)∧Hid (Below w.heap.size w wr)∧Hid (zs=imgP xs i))
 case atStart=>exact⟨0,13,_,_,_,by omega,by omega,by omega,rfl,rfl,rfl,HO1,HB1,Lib.hid (by simp [imgP])⟩
 case round =>
  obtain⟨i,n,zs,a1',c1',hi50,hil,hg,hn,rfl,rfl,HO,HB,HZ⟩:=hrel
  have HN:=Lib.hid hn
  have hn64:n≤63:=by omega
  clear HO1 HB1 hn
  by_cases hlt:i < xs.length∧i < 50
  ·
   obtain⟨hx,h50⟩:=hlt
   obtain⟨b,off,cs,ha,hbb,hcs,hcl,hraw⟩:=HC.out i hx
   obtain⟨hcs2,r1,r2,r3,r4⟩:=hraw
   subst ha hcs2
   have HSB:=Lib.hid (fun o=>same_below HB.out b o hbb)
   have q0:wr.cell? ⟨b,off+i * 4,none⟩=some (.int .i64 xs[i].k):=(HSB.out _).trans (hcl 0 (by simp))
   have q1:wr.cell? ⟨b,off+i * 4+1,none⟩=some (.int .i64 xs[i].a):=(HSB.out _).trans (hcl 1 (by simp))
   have q2:wr.cell? ⟨b,off+i * 4+2,none⟩=some (.int .i64 xs[i].b):=(HSB.out _).trans (hcl 2 (by simp))
   have q3:wr.cell? ⟨b,off+i * 4+3,none⟩=some (.int .i64 xs[i].c):=(HSB.out _).trans (hcl 3 (by simp))
   have hbw:b < wr.heap.size:=Nat.lt_of_lt_of_le hbb HB.out.size
   have HTK:=Lib.hid (imgP_next hx)
   have HIN:=Lib.hid (fun w=>insz_any (.agg #[.int .i64 xs[i].k,.int .i64 xs[i].a,.int .i64 xs[i].b,.int .i64 xs[i].c]) xs[i].k xs[i].a xs[i].b xs[i].c w ⟨rfl,r1,r2,r3,r4⟩)
   clear hcl hcs
   generalize xs[i]=x at *
   obtain⟨x1,x2,x3,x4⟩:=x
   simp only at q0 q1 q2 q3 HIN HTK
   obtain⟨I,hI⟩:∃ I,I=insZ x1 x2 x3 x4:=⟨_,rfl⟩
   rw [← hI] at HIN HTK
   clear hI
   obtain⟨op,ia,ib,iN⟩:=I
   simp only at HIN
   have hii:(i:Int) < (xs.length:Int):=by omega
   have hi5:(i:Int) < 50:=by omega
   go_wp2_with (first
    | (go_at_call 34;refine (HIN.out _).mono ?_;rintro e w2 ⟨rfl,-,hb2⟩;have HO2:=Lib.hid (own_below HO.out.own hb2 (Nat.le_refl _));have HB2:=Lib.hid (HB.out.trans (hb2.mono HB.out.size));clear hb2)
    | (go_at_call 33;refine (kwords_any _ [⟨op,ia,ib,iN⟩] _ ?_).mono ?_;(exact insr_block (l:=[⟨op,ia,ib,iN⟩]) (alloc_at rfl) (by simp) (by simp));rintro e w3 ⟨a3,c3,rfl,ho3,hb3⟩;have HO3:=Lib.hid (own_below (own_below HO2.out (below_alloc w2 _) (Nat.le_refl _)) hb3 (Nat.le_refl _));have HB3:=Lib.hid ((HB2.out.alloc HB2.out.size _).trans (hb3.mono (HB2.out.alloc HB2.out.size _).size));have hs3:=HB3.out.size;have HI3:Hid (Ints w3.heap.size w3 (.slice a3 1 c3) [Ins.enc ⟨op,ia,ib,iN⟩]):=(Lib.hid (ints_of_owns ho3 (by simp) (fun z hz=>(encs_word [⟨op,ia,ib,iN⟩] z hz).i64)));clear ho3 hb3)
    | (at_builtin;go_loud (refine wpList_append_all w3 rfl (.tmp 34) (.tmp 41) 24 rfl w.heap.size 3 (.int .i64 0) 8 Tryz.underlying24 info_int rfl (.slice a1' n c1') n (zs.map (Value.int .i64)) rfl HO3.out (.slice a3 1 c3) 17592186043904 w3.heap.size ([Ins.enc ⟨op,ia,ib,iN⟩].map (Value.int .i64)) rfl HI3.out.vals (ints_one _) (by simp;unfold maxLen;omega) (by simp;omega) hs3 ?_);intro a4 c4 w4 hown4 hgrow4 hat4))
   go_roundg (50 - (i+1))
   case measure=>omega
   case rel=>exact⟨i+1,n+1,zs ++ [Ins.enc ⟨op,ia,ib,iN⟩],a4,c4,by omega,by omega,by omega,by (have:=HN.out;omega),by go_num,rfl,Lib.hid ⟨by simp [HO.out.len],fun z hz=>by rcases List.mem_append.1 hz with hz | hz;exact HO.out.word z hz;exact encs_word [⟨op,ia,ib,iN⟩] z hz,by rw [List.map_append];exact hown4⟩,Lib.hid (below_grown HB3.out HO3.out hgrow4 hs3 (Nat.le_refl _)),Lib.hid (by rw [HTK.out,HZ.out])⟩
  ·
   by_cases hx:i < xs.length
   ·
    have h50:i=50:=by omega
    have hii:(i:Int) < (xs.length:Int):=by omega
    have hi5:¬ (i:Int) < 50:=by omega
    have hmn:min (xs.length:Int) 50=50:=by omega
    go_wp2_with (first
     | (go_at_call 33;refine (kwords_any _ [⟨9,0,0,-50⟩] _ ?_).mono ?_;(exact insr_block (l:=[⟨9,0,0,-50⟩]) (alloc_at rfl) (by simp) (by simp));rintro e w3 ⟨a3,c3,rfl,ho3,hb3⟩;have HO3:=Lib.hid (own_below (own_below HO.out.own (below_alloc wr _) (Nat.le_refl _)) hb3 (Nat.le_refl _));have HB3:=Lib.hid ((HB.out.alloc HB.out.size _).trans (hb3.mono (HB.out.alloc HB.out.size _).size));have hs3:=HB3.out.size;have HI3:Hid (Ints w3.heap.size w3 (.slice a3 1 c3) [Ins.enc ⟨9,0,0,-50⟩]):=(Lib.hid (ints_of_owns ho3 (by simp) (fun z hz=>(encs_word [⟨9,0,0,-50⟩] z hz).i64)));clear ho3 hb3)
     | (at_builtin;go_loud (refine wpList_append_all w3 rfl (.tmp 43) (.tmp 50) 24 rfl w.heap.size 3 (.int .i64 0) 8 Tryz.underlying24 info_int rfl (.slice a1' n c1') n (zs.map (Value.int .i64)) rfl HO3.out (.slice a3 1 c3) 17592186043904 w3.heap.size ([Ins.enc ⟨9,0,0,-50⟩].map (Value.int .i64)) rfl HI3.out.vals (ints_one _) (by simp;unfold maxLen;omega) (by simp;omega) hs3 ?_);intro a4 c4 w4 hown4 hgrow4 hat4))
    go_ret
    have HEND:=Lib.hid (show imgZ xs=zs ++ [Ins.enc ⟨9,0,0,-50⟩] from by unfold imgZ;rw [HZ.out,h50,hmn])
    refine⟨a4,c4,n+1,rfl,by omega,?_,below_grown HB3.out HO3.out hgrow4 hs3 (Nat.le_refl _)⟩
    rw [HEND.out]
    exact⟨by simp [HO.out.len],fun z hz=>by rcases List.mem_append.1 hz with hz | hz;exact HO.out.word z hz;exact encs_word [⟨9,0,0,-50⟩] z hz,by rw [List.map_append];exact hown4⟩
   ·
    have hil2:i=xs.length:=by omega
    have hii:¬ (i:Int) < (xs.length:Int):=by omega
    have hmn:min (xs.length:Int) 50=(xs.length:Int):=by omega
    have hwn:IntKind.i64.wrap (-(xs.length:Int)) = -(xs.length:Int):=IntWalk.i64_in _ (by omega)
    go_wp2_with (first
     | (go_at_call 33;refine (kwords_any _ [⟨9,0,0,-(xs.length:Int)⟩] _ ?_).mono ?_;(exact insr_block (l:=[⟨9,0,0,-(xs.length:Int)⟩]) (alloc_at rfl) (by simp) (by simp));rintro e w3 ⟨a3,c3,rfl,ho3,hb3⟩;have HO3:=Lib.hid (own_below (own_below HO.out.own (below_alloc wr _) (Nat.le_refl _)) hb3 (Nat.le_refl _));have HB3:=Lib.hid ((HB.out.alloc HB.out.size _).trans (hb3.mono (HB.out.alloc HB.out.size _).size));have hs3:=HB3.out.size;have HI3:Hid (Ints w3.heap.size w3 (.slice a3 1 c3) [Ins.enc ⟨9,0,0,-(xs.length:Int)⟩]):=(Lib.hid (ints_of_owns ho3 (by simp) (fun z hz=>(encs_word [⟨9,0,0,-(xs.length:Int)⟩] z hz).i64)));clear ho3 hb3)
     | (at_builtin;go_loud (refine wpList_append_all w3 rfl (.tmp 43) (.tmp 50) 24 rfl w.heap.size 3 (.int .i64 0) 8 Tryz.underlying24 info_int rfl (.slice a1' n c1') n (zs.map (Value.int .i64)) rfl HO3.out (.slice a3 1 c3) 17592186043904 w3.heap.size ([Ins.enc ⟨9,0,0,-(xs.length:Int)⟩].map (Value.int .i64)) rfl HI3.out.vals (ints_one _) (by simp;unfold maxLen;omega) (by simp;omega) hs3 ?_);intro a4 c4 w4 hown4 hgrow4 hat4))
    go_ret
    have HEND:=Lib.hid (show imgZ xs=zs ++ [Ins.enc ⟨9,0,0,-(xs.length:Int)⟩] from by unfold imgZ;rw [HZ.out,imgP_all (i:=i) (by omega) hi50,hmn])
    refine⟨a4,c4,n+1,rfl,by omega,?_,below_grown HB3.out HO3.out hgrow4 hs3 (Nat.le_refl _)⟩
    rw [HEND.out]
    exact⟨by simp [HO.out.len],fun z hz=>by rcases List.mem_append.1 hz with hz | hz;exact HO.out.word z hz;exact encs_word [⟨9,0,0,-(xs.length:Int)⟩] z hz,by rw [List.map_append];exact hown4⟩
end Go.Proofs.YtkahciebbnhobaaGreatDoor
