/- Several texts joined, each with its own heading in the notes: instr as a function of the raw thing. The contract of instr, where its kind is 3 or 4. The contract of instr, where its kind is 3 or 4. No condition beyond those of each row. -/
import Derived.Test.YtkahciebbnhobaaGreatDoorYInA
namespace Go.Proofs.YtkahciebbnhobaaGreatDoor
open Go Go.RowKit Go.ChangeShapes Go.WideShapes Go.Deep
set_option linter.unusedVariables false
def InAt (w:World) (op a b n:Int) (e:Ending) (w':World):Prop:=e=.returned (.agg #[.int .i64 op,.int .i64 a,.int .i64 b,.int .i64 n])∧iCode op a b n=0∧Below w.heap.size w w'
end Go.Proofs.YtkahciebbnhobaaGreatDoor
namespace Go.Proofs.YtkahciebbnhobaaGreatDoor
open Go Go.RowKit Go.ChangeShapes Go.WideShapes Go.Deep
set_option maxHeartbeats 40000000
set_option maxRecDepth 100000
set_option linter.unusedVariables false
attribute [local go_sem ↓] Go.wp_at_zero Go.wp_at_succ
theorem insz_3_0 (v:Value) (k a b c:Int) (w:World) (hv:RawR v k a b c) (hr:3≤pickZ k 24∧pickZ k 24 < 5) (hq:pickZ (c.tdiv 8) 2=0):Calls Tryz.prog 34 #[v] w (InAt w 2 (pickZ a 6) (pickZ b 6) (pickZ c 6)):=by
 obtain⟨rfl,hk,ha,hb,hc⟩:=hv
 obtain⟨hk1,hk2⟩:=hk
 obtain⟨ha1,ha2⟩:=ha
 obtain⟨hb1,hb2⟩:=hb
 obtain⟨hc1,hc2⟩:=hc
 have HPA:=Lib.hid (fun w=>picked_any a 6 w ha1 ha2 (by omega) (by omega))
 have HPB:=Lib.hid (fun w=>picked_any b 6 w hb1 hb2 (by omega) (by omega))
 obtain⟨hx1,hx2⟩:=pick_rng a 6 (by omega)
 obtain⟨hy1,hy2⟩:=pick_rng b 6 (by omega)
 have hpn:=pick_rng c 6 (by omega)
 generalize pickZ a 6=x at *
 generalize pickZ b 6=y at *
 go_enter Tryz.func34,Tryz.ntmps34
 go_upto_region 1 with fail
 go_cut [3] (fun s3 wx =>∃gi,s3=.pointer (some ⟨gi,0,none⟩)∧ICut w k a b c gi x y wx)
 case first =>
  go_region_with ((go_at_call 22;(first | (with_reducible refine (HPA.out _).mono ?_) | (with_reducible refine (HPB.out _).mono ?_));rintro e w' ⟨rfl,rfl⟩))
  all_goals (go_wp2_with fail;go_meet)
  all_goals exact⟨_,rfl,⟨(alloc_lt (by simp;omega)).trans ((alloc_lt (by simp)).trans (alloc_at rfl)),(alloc_lt (by simp)).trans (alloc_at (by simp)),alloc_at (by simp),((below_alloc2 _ _ _).alloc (by simp;omega) _).drew,by omega⟩⟩
 case rest =>
  obtain⟨gi,rfl,hI⟩:=hcut
  clear HPA HPB
  obtain⟨c0,c3,i0,i1,i2,i3,o0,o1,o2,o3,f0,f1,f2,f3,g0,g1,g2,g3,lgi,lgo,lgr,ne1,ne2,ne3,ne4⟩:=hI.all
  have HI:=Lib.hid hI
  clear hI
  go_upto_region 2 with fail
  go_cut [4] (fun s4 wx =>∃z:Int,s4=.int .i64 z∧z=pickZ k 24∧wx=wc)
  case first =>
   go_wp2_with (go_at_call 22;refine (picked_any _ _ _ hk1 hk2 (by omega) (by omega)).mono ?_;rintro e w' ⟨rfl,rfl⟩)
   go_meet
   exact⟨_,rfl,rfl,rfl⟩
  case rest =>
  obtain⟨z,rfl,hz,hwx⟩:=hcut
  subst hwx
  rw [← hz] at hr
  clear hz
  go_upto_block 0 with fail
  go_cut [] (fun wx=>IEnd w gi 2 x y (pickZ c 6) wx)
  case first =>
   clear o0 o1 o2 o3 g0 g1 g2 g3 hk1 hk2 ha1 ha2 hb1 hb2 c0 i1 f1 lgo ne1 ne2
   obtain⟨hz1,hz2⟩:=hr
   have h1:¬ z < 3:=by omega
   have h2:z < 5:=by omega
   obtain⟨ht1,ht2⟩:=tdiv8 c hc1 hc2
   have hw8:IntKind.i64.wrap (c.tdiv 8)=c.tdiv 8:=IntWalk.i64_in _ (by omega)
   have hp6:=pick_rng c 6 (by omega)
   go_upto_region 7 with fail
   go_region_with (go_at_call 22;refine (picked_any _ _ _ (by omega) (by omega) (by omega) (by omega)).mono ?_;rintro e w' ⟨he,rfl⟩;(try rw [hq] at he);subst he)
   all_goals (go_wp2_with fail;go_meet)
   all_goals exact (iend2 HI.out).grown (below_alloc _ _).drew
  case rest =>
   have hE:=hcut
   clear hcut
   clear c0 c3 i0 i1 i2 i3 o0 o1 o2 o3 f0 f1 f2 f3 g0 g1 g2 g3 lgi lgo lgr
   obtain⟨i0,i1,i2,i3,o0,o1,o2,o3,g0,g1,g2,g3,lgo⟩:=hE.all
   have HE:=Lib.hid hE
   clear hE
   go_wp2
   exact bodyPost_ret (v:=.agg #[.int .i64 2,.int .i64 x,.int .i64 y,.int .i64 (pickZ c 6)]) (by simp [results,Tryz.results34,go_sem,o0,o1,o2,o3]) rfl ⟨rfl,(iCode0 (by omega) (by omega) (by omega)).symm,((((HE.out.b.setCell (by simp) _).setCell (by simp) _).setCell (by simp) _).setCell (by simp) _)⟩
theorem insz_3_1 (v:Value) (k a b c:Int) (w:World) (hv:RawR v k a b c) (hr:3≤pickZ k 24∧pickZ k 24 < 5) (hq:pickZ (c.tdiv 8) 2=1):Calls Tryz.prog 34 #[v] w (InAt w 3 (pickZ a 6) (pickZ b 6) (pickZ c 6)):=by
 obtain⟨rfl,hk,ha,hb,hc⟩:=hv
 obtain⟨hk1,hk2⟩:=hk
 obtain⟨ha1,ha2⟩:=ha
 obtain⟨hb1,hb2⟩:=hb
 obtain⟨hc1,hc2⟩:=hc
 have HPA:=Lib.hid (fun w=>picked_any a 6 w ha1 ha2 (by omega) (by omega))
 have HPB:=Lib.hid (fun w=>picked_any b 6 w hb1 hb2 (by omega) (by omega))
 obtain⟨hx1,hx2⟩:=pick_rng a 6 (by omega)
 obtain⟨hy1,hy2⟩:=pick_rng b 6 (by omega)
 have hpn:=pick_rng c 6 (by omega)
 generalize pickZ a 6=x at *
 generalize pickZ b 6=y at *
 go_enter Tryz.func34,Tryz.ntmps34
 go_upto_region 1 with fail
 go_cut [3] (fun s3 wx =>∃gi,s3=.pointer (some ⟨gi,0,none⟩)∧ICut w k a b c gi x y wx)
 case first =>
  go_region_with ((go_at_call 22;(first | (with_reducible refine (HPA.out _).mono ?_) | (with_reducible refine (HPB.out _).mono ?_));rintro e w' ⟨rfl,rfl⟩))
  all_goals (go_wp2_with fail;go_meet)
  all_goals exact⟨_,rfl,⟨(alloc_lt (by simp;omega)).trans ((alloc_lt (by simp)).trans (alloc_at rfl)),(alloc_lt (by simp)).trans (alloc_at (by simp)),alloc_at (by simp),((below_alloc2 _ _ _).alloc (by simp;omega) _).drew,by omega⟩⟩
 case rest =>
  obtain⟨gi,rfl,hI⟩:=hcut
  clear HPA HPB
  obtain⟨c0,c3,i0,i1,i2,i3,o0,o1,o2,o3,f0,f1,f2,f3,g0,g1,g2,g3,lgi,lgo,lgr,ne1,ne2,ne3,ne4⟩:=hI.all
  have HI:=Lib.hid hI
  clear hI
  go_upto_region 2 with fail
  go_cut [4] (fun s4 wx =>∃z:Int,s4=.int .i64 z∧z=pickZ k 24∧wx=wc)
  case first =>
   go_wp2_with (go_at_call 22;refine (picked_any _ _ _ hk1 hk2 (by omega) (by omega)).mono ?_;rintro e w' ⟨rfl,rfl⟩)
   go_meet
   exact⟨_,rfl,rfl,rfl⟩
  case rest =>
  obtain⟨z,rfl,hz,hwx⟩:=hcut
  subst hwx
  rw [← hz] at hr
  clear hz
  go_upto_block 0 with fail
  go_cut [] (fun wx=>IEnd w gi 3 x y (pickZ c 6) wx)
  case first =>
   clear o0 o1 o2 o3 g0 g1 g2 g3 hk1 hk2 ha1 ha2 hb1 hb2 c0 i1 f1 lgo ne1 ne2
   obtain⟨hz1,hz2⟩:=hr
   have h1:¬ z < 3:=by omega
   have h2:z < 5:=by omega
   obtain⟨ht1,ht2⟩:=tdiv8 c hc1 hc2
   have hw8:IntKind.i64.wrap (c.tdiv 8)=c.tdiv 8:=IntWalk.i64_in _ (by omega)
   have hp6:=pick_rng c 6 (by omega)
   go_upto_region 7 with fail
   go_region_with (go_at_call 22;refine (picked_any _ _ _ (by omega) (by omega) (by omega) (by omega)).mono ?_;rintro e w' ⟨he,rfl⟩;(try rw [hq] at he);subst he)
   all_goals (go_wp2_with fail;go_meet)
   all_goals exact (iend2 HI.out).grown (below_alloc _ _).drew
  case rest =>
   have hE:=hcut
   clear hcut
   clear c0 c3 i0 i1 i2 i3 o0 o1 o2 o3 f0 f1 f2 f3 g0 g1 g2 g3 lgi lgo lgr
   obtain⟨i0,i1,i2,i3,o0,o1,o2,o3,g0,g1,g2,g3,lgo⟩:=hE.all
   have HE:=Lib.hid hE
   clear hE
   go_wp2
   exact bodyPost_ret (v:=.agg #[.int .i64 3,.int .i64 x,.int .i64 y,.int .i64 (pickZ c 6)]) (by simp [results,Tryz.results34,go_sem,o0,o1,o2,o3]) rfl ⟨rfl,(iCode0 (by omega) (by omega) (by omega)).symm,((((HE.out.b.setCell (by simp) _).setCell (by simp) _).setCell (by simp) _).setCell (by simp) _)⟩
end Go.Proofs.YtkahciebbnhobaaGreatDoor
