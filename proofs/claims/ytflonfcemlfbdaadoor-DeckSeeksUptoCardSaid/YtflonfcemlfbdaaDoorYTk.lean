/- Several texts joined, each with its own heading in the notes: The contract of frames. The contract of the reference's TakenOf. The contract of frames. The contract of frames. The contract of frames. Frames in a local variable that is written anew. What is done with frames that may be: frames that may be, or a refusal. No condition beyond those of each row. -/
import Derived.Test.YtflonfcemlfbdaaDoorYDr
import Derived.Deep.AppendLies
import Derived.IntWalk
import Derived.Test.YtflonfcemlfbdaaDoorYMem
namespace Go.Proofs.YtflonfcemlfbdaaDoor
open Go Go.RowKit Go.ChangeShapes Go.WideShapes Go.Deep
set_option maxHeartbeats 4000000
set_option linter.unusedVariables false
def ziP(w:World)(c:Int)(e:Ending)(w':World):Prop:=e=.returned (.tuple #[.agg #[.slice none 0 0,.slice none 0 0],.int .i64 0,.int .i64 c])∧Below w.heap.size w w'
def zdi(w:World)(i:Int)(rs:List (List Int))(zs:List Int)(e:Ending)(w':World):Prop:=∃ad cd ar cr vs,e=.returned (.tuple #[.agg #[.slice ad rs.length cd,.slice ar zs.length cr],.int .i64 i,.int .i64 0])∧FrOwn w.heap.size w' (.slice ad rs.length cd) (.slice ar zs.length cr) rs zs vs∧Below w.heap.size w w'
theorem zhD(v:Value)(rs:List (List Int))(zs:List Int)(w:World)(hf:FramesR w.heap.size w v rs zs)(hok:FOk rs zs)(hz:Fz zs (-1)):Calls Tryd.prog 55 #[v] w (ziP w 7):=by
 obtain⟨vd,vr,rfl,⟨a,cd,rfl,_⟩,hr⟩:=id hf
 obtain⟨a',cr,hvr,_⟩:=id hr
 subst hvr
 have HF:=Lib.hid hf
 have HR:=Lib.hid hr
 have HZ:=Lib.hid hz
 clear hf hr hz
 go_enter Tryd.func55,Tryd.ntmps55
 go_wp2_with fail
 refine(zbO _ rs zs _ (HF.out.to (by simp;omega) (zae (below_alloc2 _ _ _)))).mono ?_
 rintro e w1 ⟨⟨_,rfl⟩|⟨hno,rfl⟩,hb1⟩
 rotate_left
 ·exact absurd hok hno
 have s1:=hb1.size
 simp only[World.size_alloc] at s1
 have hB:=(below_alloc2 w _ _).trans (hb1.mono (by simp;omega))
 have hx:=zac hb1 (g:=w.heap.size) ((zaj (by simp)).trans (alloc_at rfl)) (by simp;omega)
 have hy:=zac hb1 (g:=w.heap.size+1) (alloc_at (by simp)) (by simp)
 have q1:w1.cell? ⟨w.heap.size,1,none⟩=some (.slice a' zs.length cr):=zaa hx 1
 have r0:w1.cell? ⟨w.heap.size+1,0,none⟩=some (.slice none 0 0):=zaa hy 0
 have r1:w1.cell? ⟨w.heap.size+1,1,none⟩=some (.slice none 0 0):=zaa hy 1
 have g0:=zab hy 0
 have g1:=zab hy 1
 have HBB:=Lib.hid ((hB.setCell (p:=⟨w.heap.size+1,0,none⟩) (by simp) (.slice none 0 0)).setCell (p:=⟨w.heap.size+1,1,none⟩) (by simp) (.slice none 0 0))
 have HB:=Lib.hid hB
 clear hx hy hB hb1
 go_wp2_with fail
 refine(zb9 _ zs (-1) HZ.out _ (HR.out.to (by omega) (zae HB.out))).mono ?_
 rintro e w2 ⟨rfl,rfl⟩
 go_wp2
 exact bodyPost_ret (v:=.tuple #[.agg #[.slice none 0 0,.slice none 0 0],.int .i64 0,.int .i64 7]) (by simp[results,Tryd.results55,go_sem,r0,r1]) rfl ⟨rfl,HBB.out⟩
def zhE(w:World)(rs:List (List Int))(zs:List Int)(wx:World):Prop:=∃ad cd ar cr vs,wx.heap[w.heap.size]?=some (.cells #[.slice ad rs.length cd,.slice ar zs.length cr] 60 (0,0)) ∧
 wx.heap[w.heap.size+1]?=some (.cells #[.slice none 0 0,.slice none 0 0] 60 (0,0))∧FrOwn w.heap.size wx (.slice ad rs.length cd) (.slice ar zs.length cr) rs zs vs∧Below w.heap.size w wx
theorem zhF(W:World):(W.alloc (.cells (zay 16) 3)).ownsRow W.heap.size 3 1 (.slice (some ⟨W.heap.size,0,none⟩) 16 16) (List.replicate 16 (0:Int)).length ((List.replicate 16 (0:Int)).map (Value.int .i64)):=by
 rw[List.length_replicate]
 exact⟨by simp,.inr ⟨W.heap.size,16,zay 16,rfl,Nat.le_refl _,heap_alloc_new W _,Nat.le_refl _,by unfold maxLen;omega,by rw[zds],by rw[zbX];simp⟩⟩
theorem mk16(w:World):(Instr.makeSlice 24 (.int .i64 16) (.int .i64 16)).run Tryd.prog w=.ok (.slice (some ⟨w.heap.size,0,none⟩) 16 16) (w.alloc (.cells (zay 16) 3)):=zcF 16 (by omega) (by omega) w
theorem FrOwn.take {base gd cd gr cr k : Nat} {W : World} {rs : List (List Int)} {zs : List Int} {vs : List Value} (h : FrOwn base W (.slice (some ⟨gd, 0, none⟩) rs.length cd) (.slice (some ⟨gr, 0, none⟩) zs.length cr) rs zs vs) (hb : base ≤ W.heap.size) (hk : k < rs.length) (hz : k < zs.length) :
  FrOwn base ((((W.setCell ⟨gr,k,none⟩ (.int .i64 1)).setCell ⟨gd,k,none⟩ (.slice (some ⟨W.heap.size,0,none⟩) 16 16)).alloc (.cells (zay 16) 3)).drew) (.slice (some ⟨gd,0,none⟩) rs.length cd) (.slice (some ⟨gr,0,none⟩) zs.length cr) (rs.set k (List.replicate 16 0)) (zs.set k 1) (vs.set k (.slice (some ⟨W.heap.size,0,none⟩) 16 16)) ∧
  FrOwn base ((((W.setCell ⟨gd,k,none⟩ (.slice (some ⟨W.heap.size,0,none⟩) 16 16)).setCell ⟨gr,k,none⟩ (.int .i64 1)).alloc (.cells (zay 16) 3)).drew) (.slice (some ⟨gd,0,none⟩) rs.length cd) (.slice (some ⟨gr,0,none⟩) zs.length cr) (rs.set k (List.replicate 16 0)) (zs.set k 1) (vs.set k (.slice (some ⟨W.heap.size,0,none⟩) 16 16)):=by
 have hu:=zhF W
 obtain⟨gd',curd,hgd',_,hblkd,_⟩:=zaF h.d (by omega)
 obtain⟨gr',curr,hgr',_,hblkr,_⟩:=zaF h.r (by omega)
 simp only[Option.some.injEq,Addr.mk.injEq,and_true] at hgd' hgr'
 subst hgd' hgr'
 have ld:gd<W.heap.size:=(Array.getElem?_eq_some_iff.1 hblkd).1
 have lr:gr<W.heap.size:=(Array.getElem?_eq_some_iff.1 hblkr).1
 have hr:=zaQ h.r hu (Nat.le_refl _)
 have hrows:=fun i (hi:i<rs.length)=>zaQ (h.rows i hi).1 hu (Nat.le_refl _)
 have g1:=h.grown (zai W (.cells (zay 16) 3))
 have hub:=zar hu hb
 have bd:(W.alloc (.cells (zay 16) 3)).heap[gd]?=some (.cells curd 24 (0,0)):=(zaj ld).trans hblkd
 have br:(W.alloc (.cells (zay 16) 3)).heap[gr]?=some (.cells curr 3 (0,0)):=(zaj lr).trans hblkr
 have ne_r:some gr≠Value.ownBlock (.slice (some ⟨W.heap.size,0,none⟩) 16 16):=by simp[Value.ownBlock];omega
 constructor
 ·
  have f1:=g1.setRef hz 1
  have f2:=f1.setRow hk (zao hub ne_r _) hr.2 hr.1 (fun i hi _=>⟨(hrows i hi).2,(hrows i hi).1⟩)
  rw[World.setCell_alloc_past _ _ _ _ lr,World.setCell_alloc_past _ _ _ _ (by simpa using ld)] at f2
  exact f2.grown (Below.refl _ _).drew
 ·
  have f1:=g1.setRow hk hub hr.2 hr.1 (fun i hi _=>⟨(hrows i hi).2,(hrows i hi).1⟩)
  have f2:FrOwn base (((W.alloc (.cells (zay 16) 3)).setCell ⟨gd,k,none⟩ (.slice (some ⟨W.heap.size,0,none⟩) 16 16)).setCell ⟨gr,k,none⟩ (.int .i64 1)) (.slice (some ⟨gd,0,none⟩) rs.length cd) (.slice (some ⟨gr,0,none⟩) zs.length cr) (rs.set k (List.replicate 16 0)) (zs.set k 1) (vs.set k (.slice (some ⟨W.heap.size,0,none⟩) 16 16)):=by
   have e:(rs.set k (List.replicate 16 0)).length=rs.length:=List.length_set ..
   have f:=f1.setRef hz 1
   exact f
  rw[World.setCell_alloc_past _ _ _ _ ld,World.setCell_alloc_past _ _ _ _ (by simpa using lr)] at f2
  exact f2.grown (Below.refl _ _).drew
theorem zgl {w W : World} {rs : List (List Int)} {zs : List Int} {vs : List Value} {gd cd gr cr k H : Nat} (hx : W.heap[w.heap.size]? = some (.cells #[.slice (some ⟨gd, 0, none⟩) rs.length cd, .slice (some ⟨gr, 0, none⟩) zs.length cr] 60 (0, 0)))
  (hy:W.heap[w.heap.size+1]?=some (.cells #[.slice none 0 0,.slice none 0 0] 60 (0,0))) (h:FrOwn w.heap.size W (.slice (some ⟨gd,0,none⟩) rs.length cd) (.slice (some ⟨gr,0,none⟩) zs.length cr) rs zs vs) (hb:Below w.heap.size w W)
  (hk:k<rs.length) (hz:k<zs.length) (hH:W.heap.size=H):
  zhE w (rs.set k (List.replicate 16 0)) (zs.set k 1) ((((W.setCell ⟨gr,k,none⟩ (.int .i64 1)).setCell ⟨gd,k,none⟩ (.slice (some ⟨H,0,none⟩) 16 16)).alloc (.cells (zay 16) 3)).drew):=by
 subst hH
 have T:=(h.take hb.size hk hz).1
 obtain⟨gd',curd,hgd',hbd,hblkd,_⟩:=zaF h.d (by omega)
 obtain⟨gr',curr,hgr',hbr,hblkr,_⟩:=zaF h.r (by omega)
 simp only[Option.some.injEq,Addr.mk.injEq,and_true] at hgd' hgr'
 subst hgd' hgr'
 have far:∀{g:Nat} {cs:Array Value},W.heap[g]?=some (.cells cs 60 (0,0))→((((W.setCell ⟨gr,k,none⟩ (.int .i64 1)).setCell ⟨gd,k,none⟩ (.slice (some ⟨W.heap.size,0,none⟩) 16 16)).alloc (.cells (zay 16) 3)).drew).heap[g]?=some (.cells cs 60 (0,0)):=by
  intro g cs hg
  have n1:g≠gr:=by intro e;subst e;rw[hblkr] at hg;simp at hg
  have n2:g≠gd:=by intro e;subst e;rw[hblkd] at hg;simp at hg
  have e2:=zah (g:=gd) (i:=k) (zah (g:=gr) (i:=k) hg n1 (.int .i64 1)) n2 (.slice (some ⟨W.heap.size,0,none⟩) 16 16)
  exact(zaj (Array.getElem?_eq_some_iff.1 e2).1).trans e2
 refine⟨some ⟨gd,0,none⟩,cd,some ⟨gr,0,none⟩,cr,vs.set k (.slice (some ⟨W.heap.size,0,none⟩) 16 16),?_,far hy,?_,(((hb.setCell (by simp;omega) _).setCell (by simp;omega) _).alloc (by simp;exact hb.size) _).drew⟩
 ·
  rw[List.length_set,List.length_set]
  exact far hx
 ·
  rw[List.length_set,List.length_set]
  exact T
theorem ziQ(v:Value)(rs:List (List Int))(zs:List Int)(k:Nat)(w:World)(hf:FramesR w.heap.size w v rs zs)(hok:FOk rs zs)(hz:Fz zs k)(hkz:k<zs.length):Calls Tryd.prog 55 #[v] w (zdi w k (rs.set k (List.replicate 16 0)) (zs.set k 1)):=by
 obtain⟨vd,vr,rfl,⟨a,cd0,rfl,_⟩,hr⟩:=id hf
 obtain⟨a',cr0,hvr,hlz,_⟩:=id hr
 subst hvr
 have HF:=Lib.hid hf
 have HR:=Lib.hid hr
 have HZ:=Lib.hid hz
 have hkr:k<rs.length:=by rw[hok.1];exact hkz
 have h200:zs.length≤200:=hok.2.1
 have h200':rs.length≤200:=by rw[hok.1];exact hok.2.1
 clear hf hr hz
 go_enter Tryd.func55,Tryd.ntmps55
 go_wp2_with fail
 refine(zbO _ rs zs _ (HF.out.to (by simp;omega) (zae (below_alloc2 _ _ _)))).mono ?_
 rintro e w1 ⟨⟨_,rfl⟩|⟨hno,rfl⟩,hb1⟩
 rotate_left
 ·exact absurd hok hno
 clear hok
 have s1:=hb1.size
 simp only[World.size_alloc] at s1
 have hB:=(below_alloc2 w _ _).trans (hb1.mono (by simp;omega))
 have hx:=zac hb1 (g:=w.heap.size) ((zaj (by simp)).trans (alloc_at rfl)) (by simp;omega)
 have hy:=zac hb1 (g:=w.heap.size+1) (alloc_at (by simp)) (by simp)
 have q0:w1.cell? ⟨w.heap.size,0,none⟩=some (.slice a rs.length cd0):=zaa hx 0
 have q1:w1.cell? ⟨w.heap.size,1,none⟩=some (.slice a' zs.length cr0):=zaa hx 1
 have HB:=Lib.hid hB
 have HX:=Lib.hid hx
 have HY:=Lib.hid hy
 clear hx hy hB hb1
 go_wp2_with fail
 refine(zb9 _ zs k HZ.out _ (HR.out.to (by omega) (zae HB.out))).mono ?_
 rintro e w2 ⟨rfl,rfl⟩
 go_wp2_with fail
 refine(zef _ rs zs _ (HF.out.to (by omega) (zae HB.out))).mono ?_
 rintro e w3 ⟨ad,cd,ar,cr,vs,rfl,hown,hb3⟩
 have s3:=hb3.size
 have hx3:=zac hb3 HX.out (by omega)
 have hy3:=zac hb3 HY.out (by omega)
 obtain⟨gd,curd,hgd,hbd,hblkd,hcapd⟩:=zaF hown.d (by omega)
 obtain⟨gr,curr,hgr,hbr,hblkr,hcapr⟩:=zaF hown.r (by omega)
 subst hgd hgr
 have b0:w3.cell? ⟨w.heap.size,0,none⟩=some (.slice a rs.length cd0):=zaa hx3 0
 have b1:w3.cell? ⟨w.heap.size,1,none⟩=some (.slice a' zs.length cr0):=zaa hx3 1
 have f0:=zab hx3 0
 have f1:=zab hx3 1
 have o1:=((hown.base (b':=w.heap.size) (by omega)).set (i:=0) (u:=.slice (some ⟨gd,0,none⟩) rs.length cd) hx3 (by decide) (by decide)).set (i:=1) (u:=.slice (some ⟨gr,0,none⟩) zs.length cr) (zaf hx3 _) (by decide) (by decide)
 have x4:=zaf (i:=1) (zaf (i:=0) hx3 (.slice (some ⟨gd,0,none⟩) rs.length cd)) (.slice (some ⟨gr,0,none⟩) zs.length cr)
 have y4:=zah (g:=w.heap.size) (i:=1) (zah (g:=w.heap.size) (i:=0) hy3 (by omega) (.slice (some ⟨gd,0,none⟩) rs.length cd)) (by omega) (.slice (some ⟨gr,0,none⟩) zs.length cr)
 have B4:=((HB.out.trans (hb3.mono (by omega))).setCell (p:=⟨w.heap.size,0,none⟩) (by simp) (.slice (some ⟨gd,0,none⟩) rs.length cd)).setCell (p:=⟨w.heap.size,1,none⟩) (by simp) (.slice (some ⟨gr,0,none⟩) zs.length cr)
 have HO:=Lib.hid o1
 have HX4:=Lib.hid x4
 have HY4:=Lib.hid y4
 have HB4:=Lib.hid B4
 have HC0:=Lib.hid (show w3.cell? ⟨gr,k,none⟩=some (.int .i64 (zs.getD k 0)) by rw[hown.r.cellAt k (by omega),List.getElem?_map,List.getElem?_eq_getElem hkz,←zau hkz 0];rfl)
 have hkv:k<vs.length:=by have:=hown.len;omega
 have HC1:=Lib.hid (show w3.cell? ⟨gd,k,none⟩=some (vs.getD k undef) by rw[hown.d.cellAt k (by omega),List.getElem?_eq_getElem hkv,←zau hkv undef])
 have fr:=hown.r.frozenAt k
 have fd:=hown.d.frozenAt k
 have lgd:gd<w3.heap.size:=(Array.getElem?_eq_some_iff.1 hblkd).1
 have lgr:gr<w3.heap.size:=(Array.getElem?_eq_some_iff.1 hblkr).1
 have lx:w.heap.size<w3.heap.size:=by omega
 have nxd:w.heap.size≠gd:=by intro e;subst e;rw[hblkd] at hx3;simp at hx3
 have nxr:w.heap.size≠gr:=by intro e;subst e;rw[hblkr] at hx3;simp at hx3
 have ndr:gd≠gr:=by intro e;subst e;rw[hblkr] at hblkd;simp at hblkd
 clear o1 x4 y4 B4 hx3 hy3 hown hb3 hblkd hblkr
 have cr0':w3.cell? ⟨gr,k,none⟩=some (.int .i64 (zs.getD k 0)):=HC0.out
 have cd0':w3.cell? ⟨gd,k,none⟩=some (vs.getD k undef):=HC1.out
 have hmk:=mk16
 go_upto_region 1 with fail
 go_cut [] (fun wx=>zhE w (rs.set k (List.replicate 16 0)) (zs.set k 1) wx)
 case first=>
  go_region
  all_goals (go_wp2_with fail;go_meet)
  all_goals exact zgl HX4.out HY4.out HO.out HB4.out hkr hkz (by simp)
 case rest=>
  obtain⟨ad,cd,ar,cr,vs,hx,hy,hown,hb⟩:=hcut
  have q0:wc.cell? ⟨w.heap.size,0,none⟩=some (.slice ad (rs.set k (List.replicate 16 0)).length cd):=zaa hx 0
  have q1:wc.cell? ⟨w.heap.size,1,none⟩=some (.slice ar (zs.set k 1).length cr):=zaa hx 1
  have r0:wc.cell? ⟨w.heap.size+1,0,none⟩=some (.slice none 0 0):=zaa hy 0
  have r1:wc.cell? ⟨w.heap.size+1,1,none⟩=some (.slice none 0 0):=zaa hy 1
  have g0:=zab hy 0
  have g1:=zab hy 1
  have HBB:=Lib.hid ((hb.setCell (p:=⟨w.heap.size+1,0,none⟩) (by simp) (.slice ad (rs.set k (List.replicate 16 0)).length cd)).setCell (p:=⟨w.heap.size+1,1,none⟩) (by simp) (.slice ar (zs.set k 1).length cr))
  have o3:=Lib.hid ((hown.set (i:=0) (u:=.slice ad (rs.set k (List.replicate 16 0)).length cd) hy (by decide) (by decide)).set (i:=1) (u:=.slice ar (zs.set k 1).length cr) (zaf hy _) (by decide) (by decide))
  generalize hrs':rs.set k (List.replicate 16 0)=rs' at *
  generalize hzs':zs.set k 1=zs' at *
  clear hx hy hown hb hrs' hzs'
  go_wp2
  exact bodyPost_ret (v:=.tuple #[.agg #[.slice ad rs'.length cd,.slice ar zs'.length cr],.int .i64 k,.int .i64 0]) (by simp[results,Tryd.results55,go_sem,r0,r1]) rfl ⟨ad,cd,ar,cr,vs,rfl,o3.out,HBB.out⟩
end Go.Proofs.YtflonfcemlfbdaaDoor
namespace Go.Proofs.YtflonfcemlfbdaaDoor
open Go Go.RowKit Go.ChangeShapes Go.WideShapes Go.Deep
set_option maxHeartbeats 8000000
set_option maxRecDepth 100000
set_option linter.unusedVariables false
attribute [local go_sem ↓] Go.wp_at_zero Go.wp_at_succ
theorem zeg{rs:List (List Int)}{k:Nat}(a b:List Int):(rs.set k a).set k b=rs.set k b:=by simp
structure FBx(w:World)(g:Nat)(rs:List (List Int))(zs:List Int)(vd vr:Value)(vs:List Value)(wx:World):Prop where
 x:wx.heap[g]?=some (.cells #[vd,vr] 60 (0,0))
 y:wx.heap[w.heap.size+1]?=some (.cells #[.slice none 0 0,.slice none 0 0] 60 (0,0))
 o:FrOwn w.heap.size wx vd vr rs zs vs
 b:Below w.heap.size w wx
theorem ze0 {w w1 : World} {rs : List (List Int)} {zs : List Int} {vs : List Value} {vd vr : Value} {O1 O2 : Obj} {vd0 vr0 : Value} (hO1 : O1 = .cells #[vd0, vr0] 60 (0, 0)) (hO2 : O2 = .cells #[.slice none 0 0, .slice none 0 0] 60 (0, 0))
  (hown:FrOwn ((w.alloc O1).alloc O2).heap.size w1 vd vr rs zs vs) (hb1:Below ((w.alloc O1).alloc O2).heap.size ((w.alloc O1).alloc O2) w1):
  FBx w w.heap.size rs zs vd vr vs ((w1.setCell ⟨w.heap.size,0,none⟩ vd).setCell ⟨w.heap.size,1,none⟩ vr)∧w1.heap[w.heap.size]?=some (.cells #[vd0,vr0] 60 (0,0)):=by
 subst hO1 hO2
 have s1:=hb1.size
 simp only[World.size_alloc] at s1
 have hB:=(below_alloc2 w (.cells #[vd0,vr0] 60 (0,0)) (.cells #[.slice none 0 0,.slice none 0 0] 60 (0,0))).trans (hb1.mono (by simp;omega))
 have hx:=zac hb1 (g:=w.heap.size) ((zaj (by simp)).trans (alloc_at rfl)) (by simp;omega)
 have hy:=zac hb1 (g:=w.heap.size+1) (alloc_at (by simp)) (by simp)
 refine⟨⟨?_,zah (zah hy (by omega) _) (by omega) _,((hown.base (b':=w.heap.size) (by simp;omega)).set (i:=0) hx (by decide) (by decide)).set (i:=1) (zaf hx _) (by decide) (by decide),(hB.setCell (by simp) _).setCell (by simp) _⟩,hx⟩
 simpa using zaf (i:=1) (zaf (i:=0) hx vd) vr
structure FAt(w:World)(rs:List (List Int))(zs:List Int)(vs:List Value)(wx:World)(gd gr k:Nat):Prop where
 cd:wx.cell? ⟨gd,k,none⟩=some (vs.getD k undef)
 cr:wx.cell? ⟨gr,k,none⟩=some (.int .i64 (zs.getD k 0))
 fd:wx.frozen? ⟨gd,k,none⟩=false
 fr:wx.frozen? ⟨gr,k,none⟩=false
 ld:gd<wx.heap.size
 lr:gr<wx.heap.size
 wd:w.heap.size≤gd
 wr:w.heap.size≤gr
 bd:∃cur,wx.heap[gd]?=some (.cells cur 24 (0,0))
 br:∃cur,wx.heap[gr]?=some (.cells cur 3 (0,0))
theorem FrOwn.at_ {w wx : World} {rs : List (List Int)} {zs : List Int} {vs : List Value} {ad ar : Option Addr} {cd cr k : Nat} (h : FrOwn w.heap.size wx (.slice ad rs.length cd) (.slice ar zs.length cr) rs zs vs) (hk : k < rs.length) (hz : k < zs.length) :
  ∃gd gr,ad=some ⟨gd,0,none⟩∧ar=some ⟨gr,0,none⟩∧rs.length≤cd∧zs.length≤cr∧∀j,j<rs.length→j<zs.length→FAt w rs zs vs wx gd gr j:=by
 obtain⟨gd,curd,hgd,hbd,hblkd,hcd⟩:=zaF h.d (by omega)
 obtain⟨gr,curr,hgr,hbr,hblkr,hcr⟩:=zaF h.r (by omega)
 subst hgd hgr
 have hd:=h.d
 have hr:=h.r
 refine⟨gd,gr,rfl,rfl,hcd,hcr,fun j hj hj'=>⟨?_,?_,hd.frozenAt j,hr.frozenAt j,(Array.getElem?_eq_some_iff.1 hblkd).1,(Array.getElem?_eq_some_iff.1 hblkr).1,hbd,hbr,⟨_,hblkd⟩,⟨_,hblkr⟩⟩⟩
 ·
  have hjv:j<vs.length:=by have:=h.len;omega
  rw[hd.cellAt j (by omega),List.getElem?_eq_getElem hjv,←zau hjv undef]
 ·rw[hr.cellAt j (by omega),List.getElem?_map,List.getElem?_eq_getElem hj',←zau hj' 0];rfl
theorem FrOwn.row_ {w wx : World} {rs : List (List Int)} {zs : List Int} {vs : List Value} {vd vr : Value} {k n : Nat} (h : FrOwn w.heap.size wx vd vr rs zs vs) (hk : k < rs.length) (h16 : (rs.getD k []).length = n) (hn : 0 < n) :
  ∃gk ck,vs.getD k undef=.slice (some ⟨gk,0,none⟩) n ck∧n≤ck∧gk<wx.heap.size∧w.heap.size≤gk∧(∃cur,wx.heap[gk]?=some (.cells cur 3 (0,0)))∧(∀j,j<n→wx.cell? ⟨gk,j,none⟩=some (.int .i64 ((rs.getD k []).getD j 0))∧wx.frozen? ⟨gk,j,none⟩=false)∧(∀gr cr,vr=.slice (some ⟨gr,0,none⟩) zs.length cr→gr≠gk):=by
 obtain⟨q1,q2,q3,q4⟩:=h.rows k hk
 rw[h16] at q1
 obtain⟨a,c,hv⟩:=zaY q1
 rw[hv] at q1 q2
 obtain⟨gk,cur,hg,hb,hblk,hc⟩:=zaF q1 hn
 subst hg
 refine⟨gk,c,hv,hc,(Array.getElem?_eq_some_iff.1 hblk).1,hb,⟨_,hblk⟩,fun j hj=>⟨?_,q1.frozenAt j⟩,?_⟩
 ·
  have hj':j<(rs.getD k []).length:=by omega
  rw[q1.cellAt j (by omega),List.getElem?_map,List.getElem?_eq_getElem hj',←zau hj' 0];rfl
 ·
  intro gr cr e e'
  subst e e'
  rcases q2 with e|e<;>simp[Value.ownBlock] at e
theorem FBx.put {w wx : World} {g q i : Nat} {rs rs' : List (List Int)} {zs zs' : List Int} {vd vr u : Value} {vs vs' : List Value} {cur : Array Value} {t : TypeId} (h : FBx w g rs zs vd vr vs wx) (hq : wx.heap[q]? = some (.cells cur t (0, 0))) (ht : 60 ≠ t) (hw : w.heap.size ≤ q)
  (ho:FrOwn w.heap.size (wx.setCell ⟨q,i,none⟩ u) vd vr rs' zs' vs'):FBx w g rs' zs' vd vr vs' (wx.setCell ⟨q,i,none⟩ u):=by
 have ne:∀{p:Nat} {cs:Array Value},wx.heap[p]?=some (.cells cs 60 (0,0))→p≠q:=by
  intro p cs hp e
  subst e
  rw[hq] at hp
  simp only[Option.some.injEq,Obj.cells.injEq] at hp
  exact ht hp.2.1.symm
 exact⟨zah h.x (ne h.x) _,zah h.y (ne h.y) _,ho,h.b.setCell (by simpa using hw) _⟩
theorem FBx.lt{w wx:World}{g:Nat}{rs:List (List Int)}{zs:List Int}{vd vr:Value}{vs:List Value}(h:FBx w g rs zs vd vr vs wx):w.heap.size+1<wx.heap.size∧g<wx.heap.size:=⟨(Array.getElem?_eq_some_iff.1 h.y).1,(Array.getElem?_eq_some_iff.1 h.x).1⟩
theorem FBx.grown{w wx wy:World}{g:Nat}{rs:List (List Int)}{zs:List Int}{vd vr:Value}{vs:List Value}(h:FBx w g rs zs vd vr vs wx)(hb:Below wx.heap.size wx wy):FBx w g rs zs vd vr vs wy:=
 ⟨zac hb h.x h.lt.2,zac hb h.y h.lt.1,h.o.grown hb,h.b.trans (hb.mono h.b.size)⟩
theorem FBx.fin {w wx : World} {g n m : Nat} {rs : List (List Int)} {zs : List Int} {ad ar : Option Addr} {cd cr : Nat} {vs : List Value} (i : Int) (hn : n = rs.length) (hm : m = zs.length) (h : FBx w g rs zs (.slice ad n cd) (.slice ar m cr) vs wx) :
  zdi w i rs zs (.returned (.tuple #[.agg #[.slice ad n cd,.slice ar m cr],.int .i64 i,.int .i64 0])) ((wx.setCell ⟨w.heap.size+1,0,none⟩ (.slice ad n cd)).setCell ⟨w.heap.size+1,1,none⟩ (.slice ar m cr)):=by
 subst hn hm
 exact⟨ad,cd,ar,cr,vs,rfl,(h.o.set (i:=0) h.y (by decide) (by decide)).set (i:=1) (zaf h.y _) (by decide) (by decide),(h.b.setCell (by simp) _).setCell (by simp) _⟩
theorem zcY{rs:List (List Int)}{zs:List Int}{k:Nat}(hok:FOk rs zs)(hk:Kn zs k):k<zs.length∧k<rs.length∧(rs.getD k []).length=16∧1≤zs.getD k 0∧zs.getD k 0≤200:=by
 have h1:k<zs.length:=by have:=hk.2.1;omega
 have h2:=hok.2.2 k h1
 have h3:=hk.2.2
 simp only[Int.toNat_natCast] at h3
 exact⟨h1,by rw[hok.1];exact h1,h2.2.2.2 h3,by have:=h2.1;omega,h2.2.1⟩
theorem zhG(v:Value)(rs:List (List Int))(zs:List Int)(k j:Nat)(x:Int)(w:World)(hf:FramesR w.heap.size w v rs zs)(hok:FOk rs zs)(hk:Kn zs k)(hj:j<16)(h1:zs.getD k 0=1):Calls Tryd.prog 56 #[v,.int .i64 k,.int .i64 j,.int .i64 x] w (zdi w k (rs.set k ((rs.getD k []).set j x)) zs):=by
 have HF:=Lib.hid hf
 obtain⟨a,c1,a',c2,hs⟩:=hf.shape
 subst hs
 have HK:=Lib.hid (fun w' (hf:FramesR w'.heap.size w' (.agg #[.slice a rs.length c1,.slice a' zs.length c2]) rs zs)=>(zb7 _ rs zs k w' hf hok).2 hk)
 obtain⟨hkz,hkr,h16,_,_⟩:=zcY hok hk
 have h200:zs.length≤200:=hok.2.1
 have h200':rs.length≤200:=by rw[hok.1];exact hok.2.1
 have H1:=Lib.hid h1
 have H16:=Lib.hid h16
 clear hf hok hk h1 h16
 go_enter Tryd.func56,Tryd.ntmps56
 go_wp2_with fail
 refine(HK.out _ (HF.out.to (by simp;omega) (zae (below_alloc2 _ _ _)))).mono ?_
 rintro e w1 ⟨ad,cd,ar,cr,vs,rfl,hown,hb1⟩
 obtain⟨hfb,hx1⟩:=ze0 rfl rfl hown hb1
 have q0:w1.cell? ⟨w.heap.size,0,none⟩=some (.slice a rs.length c1):=zaa hx1 0
 have q1:w1.cell? ⟨w.heap.size,1,none⟩=some (.slice a' zs.length c2):=zaa hx1 1
 have f0:=zab hx1 0
 have f1:=zab hx1 1
 have HFB:=Lib.hid hfb
 clear hown hb1 hx1 hfb
 go_upto_region 6 with fail
 generalize hW:World.setCell (World.setCell w1 _ _) _ _=W at HFB ⊢
 clear hW q0 q1 f0 f1 w1
 have hfb:=HFB.out
 obtain⟨gd,gr,rfl,rfl,hcd,hcr,hat⟩:=hfb.o.at_ hkr hkz
 obtain⟨gk,ck,hv,hck,lgk,wgk,⟨curk,hbk⟩,hrow,hne⟩:=hfb.o.row_ hkr H16.out (by omega)
 obtain⟨cd0,cr0,fd0,fr0,ld,lr,wd,wr,_,_⟩:=hat k hkr hkz
 obtain⟨cj,fj⟩:=hrow j hj
 rw[H1.out] at cr0
 rw[hv] at cd0
 have x0:W.cell? ⟨w.heap.size,0,none⟩=some (.slice (some ⟨gd,0,none⟩) rs.length cd):=zaa hfb.x 0
 have x1:W.cell? ⟨w.heap.size,1,none⟩=some (.slice (some ⟨gr,0,none⟩) zs.length cr):=zaa hfb.x 1
 have r0:W.cell? ⟨w.heap.size+1,0,none⟩=some (.slice none 0 0):=zaa hfb.y 0
 have r1:W.cell? ⟨w.heap.size+1,1,none⟩=some (.slice none 0 0):=zaa hfb.y 1
 have g0:=zab hfb.y 0
 have g1:=zab hfb.y 1
 have nx:w.heap.size≠gk:=by intro e;subst e;rw[hfb.x] at hbk;simp at hbk
 have ny:w.heap.size+1≠gk:=by intro e;subst e;rw[hfb.y] at hbk;simp at hbk
 have l1:(k:Int)<(rs.length:Int):=by omega
 have l2:(k:Int)<(zs.length:Int):=by omega
 have l3:(j:Int)<16:=by omega
 have HFin:=Lib.hid (((hfb.put hbk (i:=j) (u:=.int .i64 x) (by decide) wgk (hfb.o.setWord hkr rfl (by rw[H16.out];exact hv) (by rw[H16.out];exact hj) x))).fin k (by rw[List.length_set]) rfl)
 clear hfb hbk hrow hne hat hv HFB H1 H16
 go_wp2
 exact bodyPost_ret (v:=.tuple #[.agg #[.slice (some ⟨gd,0,none⟩) rs.length cd,.slice (some ⟨gr,0,none⟩) zs.length cr],.int .i64 k,.int .i64 0]) (by simp[results,Tryd.results56,go_sem,r0,r1]) rfl HFin.out
theorem zgm(v:Value)(rs:List (List Int))(zs:List Int)(k j:Nat)(x:Int)(w:World)(hf:FramesR w.heap.size w v rs zs)(hok:FOk rs zs)(hk:Kn zs k)(hj:j<16)(h1:1<zs.getD k 0)(hz:Fz zs (-1)):Calls Tryd.prog 56 #[v,.int .i64 k,.int .i64 j,.int .i64 x] w (ziP w 7):=by
 have HF:=Lib.hid hf
 obtain⟨a,c1,a',c2,hs⟩:=hf.shape
 subst hs
 have HK:=Lib.hid (fun w' (hf:FramesR w'.heap.size w' (.agg #[.slice a rs.length c1,.slice a' zs.length c2]) rs zs)=>(zb7 _ rs zs k w' hf hok).2 hk)
 obtain⟨hkz,hkr,h16,_,_⟩:=zcY hok hk
 have h200:zs.length≤200:=hok.2.1
 have h200':rs.length≤200:=by rw[hok.1];exact hok.2.1
 have HZ:=Lib.hid hz
 have HBD:=Lib.hid hf.bd
 clear hf hok hk h16 hz
 generalize hzk:zs.getD k 0=z at *
 have HZK:=Lib.hid hzk
 clear hzk
 go_enter Tryd.func56,Tryd.ntmps56
 go_wp2_with fail
 refine(HK.out _ (HF.out.to (by simp;omega) (zae (below_alloc2 _ _ _)))).mono ?_
 rintro e w1 ⟨ad,cd,ar,cr,vs,rfl,hown,hb1⟩
 obtain⟨hfb,hx1⟩:=ze0 rfl rfl hown hb1
 have q0:w1.cell? ⟨w.heap.size,0,none⟩=some (.slice a rs.length c1):=zaa hx1 0
 have q1:w1.cell? ⟨w.heap.size,1,none⟩=some (.slice a' zs.length c2):=zaa hx1 1
 have f0:=zab hx1 0
 have f1:=zab hx1 1
 have HFB:=Lib.hid hfb
 clear hown hb1 hx1 hfb
 go_upto_region 6 with fail
 generalize hW:World.setCell (World.setCell w1 _ _) _ _=W at HFB ⊢
 clear hW q0 q1 f0 f1 w1
 have hfb:=HFB.out
 obtain⟨gd,gr,rfl,rfl,hcd,hcr,hat⟩:=hfb.o.at_ hkr hkz
 obtain⟨cd0,cr0,fd0,fr0,ld,lr,wd,wr,_,_⟩:=hat k hkr hkz
 rw[HZK.out] at cr0
 have x0:W.cell? ⟨w.heap.size,0,none⟩=some (.slice (some ⟨gd,0,none⟩) rs.length cd):=zaa hfb.x 0
 have x1:W.cell? ⟨w.heap.size,1,none⟩=some (.slice (some ⟨gr,0,none⟩) zs.length cr):=zaa hfb.x 1
 have r0:W.cell? ⟨w.heap.size+1,0,none⟩=some (.slice none 0 0):=zaa hfb.y 0
 have r1:W.cell? ⟨w.heap.size+1,1,none⟩=some (.slice none 0 0):=zaa hfb.y 1
 have g0:=zab hfb.y 0
 have g1:=zab hfb.y 1
 have l1:(k:Int)<(rs.length:Int):=by omega
 have l2:(k:Int)<(zs.length:Int):=by omega
 have HINT:=Lib.hid (zaq hfb.o.r HBD.out.nr HBD.out.ref)
 have HBB:=Lib.hid ((hfb.b.setCell (p:=⟨w.heap.size+1,0,none⟩) (by simp) (.slice none 0 0)).setCell (p:=⟨w.heap.size+1,1,none⟩) (by simp) (.slice none 0 0))
 clear hfb hat HFB
 go_wp2_with fail
 refine(zb9 _ zs (-1) HZ.out _ HINT.out).mono ?_
 rintro e w2 ⟨rfl,rfl⟩
 go_wp2
 exact bodyPost_ret (v:=.tuple #[.agg #[.slice none 0 0,.slice none 0 0],.int .i64 0,.int .i64 7]) (by simp[results,Tryd.results56,go_sem,r0,r1]) rfl ⟨rfl,HBB.out⟩
theorem FrOwn.at' {w wx : World} {rs : List (List Int)} {zs : List Int} {vs : List Value} {ad ar : Option Addr} {n m cd cr k : Nat} (hn : n = rs.length) (hm : m = zs.length) (h : FrOwn w.heap.size wx (.slice ad n cd) (.slice ar m cr) rs zs vs) (hk : k < rs.length) (hz : k < zs.length) :
  ∃gd gr,ad=some ⟨gd,0,none⟩∧ar=some ⟨gr,0,none⟩∧n≤cd∧m≤cr∧∀j,j<rs.length→j<zs.length→FAt w rs zs vs wx gd gr j:=by
 subst hn hm
 exact h.at_ hk hz
theorem FrOwn.setRef' {base g c k m : Nat} {w : World} {vd : Value} {rs : List (List Int)} {zs : List Int} {vs : List Value} (hm : m = zs.length) (h : FrOwn base w vd (.slice (some ⟨g, 0, none⟩) m c) rs zs vs) (hk : k < zs.length) (z : Int) :
  FrOwn base (w.setCell ⟨g,k,none⟩ (.int .i64 z)) vd (.slice (some ⟨g,0,none⟩) m c) rs (zs.set k z) vs:=by
 subst hm
 exact h.setRef hk z
theorem FrOwn.setRow' {base g c k n : Nat} {w : World} {vr u : Value} {rs : List (List Int)} {zs row : List Int} {vs : List Value} (hn : n = rs.length) (h : FrOwn base w (.slice (some ⟨g, 0, none⟩) n c) vr rs zs vs) (hk : k < rs.length)
  (hu:w.ownsRow base 3 1 u row.length (row.map (Value.int .i64))) (h1:Apart u vr) (h2:Apart vr u) (h3:∀i,i<rs.length→i≠k→Apart u (vs.getD i undef)∧Apart (vs.getD i undef) u):
  FrOwn base (w.setCell ⟨g,k,none⟩ u) (.slice (some ⟨g,0,none⟩) n c) vr (rs.set k row) zs (vs.set k u):=by
 subst hn
 exact h.setRow hk hu h1 h2 h3
theorem cell_far{w:World}{p q:Addr}(h:p.block≠q.block∨p.off≠q.off)(v:Value):(w.setCell q v).cell? p=w.cell? p:=
 World.cell?_setCell_other (w:=w) (a:=q) (b:=p) (v:=v) (fun e=>by subst e;simp at h)
theorem zhH{w:World}{p q r:Addr}(h:p.block≠q.block∨p.off≠q.off)(h2:p.block≠r.block∨p.off≠r.off)(v u:Value):((w.setCell q v).setCell r u).cell? p=w.cell? p:=(cell_far h2 u).trans (cell_far h v)
theorem ze1 {w W2 W2' w3 : World} {g n m gd gr cd cr i d1 : Nat} {rs : List (List Int)} {zs row : List Int} {vs : List Value} {b1 : Option Addr} (hd : W2' = W2.drew) (hn : n = rs.length) (hm : m = zs.length) (h : FBx w g rs zs (.slice (some ⟨gd, 0, none⟩) n cd) (.slice (some ⟨gr, 0, none⟩) m cr) vs W2)
  (own1:w3.ownsRow W2'.heap.size 3 1 (.slice b1 row.length d1) row.length (row.map (Value.int .i64))) (hb3:Below W2'.heap.size W2' w3) (hi:i<rs.length) (hiz:i<zs.length):
  FBx w g (rs.set i row) (zs.set i 1) (.slice (some ⟨gd,0,none⟩) n cd) (.slice (some ⟨gr,0,none⟩) m cr) (vs.set i (.slice b1 row.length d1)) ((w3.setCell ⟨gr,i,none⟩ (.int .i64 1)).setCell ⟨gd,i,none⟩ (.slice b1 row.length d1)):=by
 subst hd
 have s0:W2.drew.heap.size=W2.heap.size:=rfl
 rw[s0] at own1 hb3
 have hb:Below W2.heap.size W2 w3:=(Below.refl _ _).drew.trans hb3
 have A1:Apart (.slice b1 row.length d1) (.slice (some ⟨gr,0,none⟩) m cr)∧Apart (.slice (some ⟨gr,0,none⟩) m cr) (.slice b1 row.length d1):=by
  subst hm
  have:=zaQ h.o.r own1 (Nat.le_refl _)
  exact⟨this.2,this.1⟩
 have A2:∀j,j<rs.length→Apart (.slice b1 row.length d1) (vs.getD j undef)∧Apart (vs.getD j undef) (.slice b1 row.length d1):=fun j hj=>by
  have:=zaQ (h.o.rows j hj).1 own1 (Nat.le_refl _)
  exact⟨this.2,this.1⟩
 have h3:=h.grown hb
 obtain⟨gd',gr',e1,e2,_,_,hat⟩:=h3.o.at' hn hm hi hiz
 simp only[Option.some.injEq,Addr.mk.injEq,and_true] at e1 e2
 subst e1 e2
 obtain⟨_,_,_,_,ld,lr,wd,wr,⟨curd,bd⟩,⟨curr,br⟩⟩:=hat i hi hiz
 have h4:=h3.put br (i:=i) (u:=.int .i64 1) (by decide) wr (h3.o.setRef' hm hiz 1)
 have ne:some gr≠Value.ownBlock (.slice b1 row.length d1):=by
  rcases A1.2 with e|e
  ·simp[Value.ownBlock] at e
  ·exact e
 have hu:=zao (g:=gr) (i:=i) (zar own1 (b':=w.heap.size) (by have:=h.b.size;exact this)) ne (.int .i64 1)
 have bd4:(w3.setCell ⟨gr,i,none⟩ (.int .i64 1)).heap[gd]?=some (.cells curd 24 (0,0)):=zah bd (by intro e;subst e;rw[br] at bd;simp at bd) _
 exact h4.put bd4 (i:=i) (u:=.slice b1 row.length d1) (by decide) wd (h4.o.setRow' hn hi hu A1.1 A1.2 (fun j hj _=>A2 j hj))
theorem zgn (v : Value) (rs : List (List Int)) (zs : List Int) (k j i : Nat) (x z : Int) (w : World) (hf : FramesR w.heap.size w v rs zs) (hok : FOk rs zs) (hk : Kn zs k) (hj : j < 16) (hzk : zs.getD k 0 = z) (h1 : 1 < z) (hz : Fz zs i) (hiz : i < zs.length) :
  Calls Tryd.prog 56 #[v,.int .i64 k,.int .i64 j,.int .i64 x] w (zdi w i (rs.set i ((rs.getD k []).set j x)) ((zs.set k (z-1)).set i 1)):=by
 have HF:=Lib.hid hf
 obtain⟨a,c1,a',c2,hs⟩:=hf.shape
 subst hs
 have HK:=Lib.hid (fun w' (hf:FramesR w'.heap.size w' (.agg #[.slice a rs.length c1,.slice a' zs.length c2]) rs zs)=>(zb7 _ rs zs k w' hf hok).2 hk)
 obtain⟨hkz,hkr,h16,_,hz200⟩:=zcY hok hk
 have h200:zs.length≤200:=hok.2.1
 have h200':rs.length≤200:=by rw[hok.1];exact hok.2.1
 have hir:i<rs.length:=by rw[hok.1];exact hiz
 have hzz:z≤200:=by omega
 have hik:i≠k:=by
  rintro rfl
  rcases hz with⟨q,e,_,e0,_⟩|⟨e,_⟩
  ·
   obtain rfl:i=q:=by omega
   omega
  ·omega
 have HZ:=Lib.hid hz
 have HBD:=Lib.hid hf.bd
 have H16:=Lib.hid h16
 have HZK:=Lib.hid hzk
 have hw:wrap64 (z-1)=z-1:=zba (by omega)
 clear hf hok hk h16 hz hzk hz200
 go_enter Tryd.func56,Tryd.ntmps56
 go_wp2_with fail
 refine(HK.out _ (HF.out.to (by simp;omega) (zae (below_alloc2 _ _ _)))).mono ?_
 rintro e w1 ⟨ad,cd,ar,cr,vs,rfl,hown,hb1⟩
 obtain⟨hfb,hx1⟩:=ze0 rfl rfl hown hb1
 have q0:w1.cell? ⟨w.heap.size,0,none⟩=some (.slice a rs.length c1):=zaa hx1 0
 have q1:w1.cell? ⟨w.heap.size,1,none⟩=some (.slice a' zs.length c2):=zaa hx1 1
 have f0:=zab hx1 0
 have f1:=zab hx1 1
 have HFB:=Lib.hid hfb
 clear hown hb1 hx1 hfb
 go_upto_region 6 with fail
 generalize hW:World.setCell (World.setCell w1 _ _) _ _=W at HFB ⊢
 clear hW q0 q1 f0 f1 w1
 have hfb:=HFB.out
 obtain⟨gd,gr,rfl,rfl,hcd,hcr,hat⟩:=hfb.o.at_ hkr hkz
 obtain⟨cd0,cr0,fd0,fr0,ld,lr,wd,wr,_,⟨curr,br⟩⟩:=hat k hkr hkz
 rw[HZK.out] at cr0
 have x0:W.cell? ⟨w.heap.size,0,none⟩=some (.slice (some ⟨gd,0,none⟩) rs.length cd):=zaa hfb.x 0
 have x1:W.cell? ⟨w.heap.size,1,none⟩=some (.slice (some ⟨gr,0,none⟩) zs.length cr):=zaa hfb.x 1
 have l1:(k:Int)<(rs.length:Int):=by omega
 have l2:(k:Int)<(zs.length:Int):=by omega
 have HINT:=Lib.hid (zaq hfb.o.r HBD.out.nr HBD.out.ref)
 have HFB2:=Lib.hid (hfb.put br (i:=k) (u:=.int .i64 (z-1)) (by decide) wr (hfb.o.setRef hkz (z-1)))
 clear hfb hat HFB br
 go_wp2_with fail
 refine(zb9 _ zs i HZ.out _ HINT.out).mono ?_
 rintro e w2 ⟨rfl,rfl⟩
 go_upto_region 11 with fail
 generalize hW2:World.setCell w2 _ _=W2 at HFB2 ⊢
 clear hW2 x0 x1 cd0 cr0 fd0 fr0 ld lr wd wr HINT
 have hfb:=HFB2.out
 have lz:(zs.set k (z-1)).length=zs.length:=List.length_set ..
 obtain⟨gd',gr',e1,e2,_,_,hat⟩:=hfb.o.at' rfl lz.symm hir (by rw[lz];exact hiz)
 simp only[Option.some.injEq,Addr.mk.injEq,and_true] at e1 e2
 subst e1 e2
 obtain⟨cdi,cri,fdi,fri,ld,lr,wd,wr,⟨curd,bd⟩,⟨curr',br⟩⟩:=hat i hir (by rw[lz];exact hiz)
 obtain⟨cdk,_,_,_,_,_,_,_,_,_⟩:=hat k hkr (by rw[lz];exact hkz)
 obtain⟨gk,ck,hv,hck,lgk,wgk,⟨curk,hbk⟩,hrow,hne⟩:=hfb.o.row_ hkr H16.out (by omega)
 rw[hv] at cdk
 generalize hui:vs.getD i undef=ui at *
 generalize hzi:(zs.set k (z-1)).getD i 0=zi at *
 have x0:W2.cell? ⟨w.heap.size,0,none⟩=some (.slice (some ⟨gd,0,none⟩) rs.length cd):=zaa hfb.x 0
 have x1:W2.cell? ⟨w.heap.size,1,none⟩=some (.slice (some ⟨gr,0,none⟩) zs.length cr):=zaa hfb.x 1
 have l3:(i:Int)<(rs.length:Int):=by omega
 have l6:(0:Int)≤(i:Int):=by omega
 have l7:(0:Int)≤(k:Int):=by omega
 have l4:(i:Int)<(zs.length:Int):=by omega
 have hrI:Ints W2.heap.size W2 (.slice (some ⟨gk,0,none⟩) 16 ck) (rs.getD k []):=by
  have q:=(hfb.o.rows k hkr).1
  rw[hv] at q
  exact zaq q (HBD.out.rowAt k).2 (HBD.out.rowAt k).1
 have HRI:=Lib.hid hrI
 have HX:=Lib.hid hfb.x
 have HBDB:=Lib.hid bd
 have HBRB:=Lib.hid br
 have lx:=hfb.lt.2
 have ndr:gd≠gr:=by intro e;subst e;rw[br] at bd;simp at bd
 have nxr:w.heap.size≠gr:=by intro e;subst e;rw[hfb.x] at br;simp at br
 have nxd:w.heap.size≠gd:=by intro e;subst e;rw[hfb.x] at bd;simp at bd
 clear hrI hfb hat hne hrow hbk bd br hui hzi hv lz
 generalize hrw:rs.getD k []=row at *
 clear hrw
 go_cut [] (fun wx =>∃b1 d1 vs',FBx w w.heap.size (rs.set i (row)) ((zs.set k (z-1)).set i 1) (.slice (some ⟨gd,0,none⟩) rs.length cd) (.slice (some ⟨gr,0,none⟩) zs.length cr) vs' wx)
 case first=>
  go_region_held3 (fun w'=>w'.cell? ⟨w.heap.size,0,none⟩=some (.slice (some ⟨gd,0,none⟩) rs.length cd)∧w'.cell? ⟨w.heap.size,1,none⟩=some (.slice (some ⟨gr,0,none⟩) zs.length cr)∧w'.cell? ⟨gd,k,none⟩=some (.slice (some ⟨gk,0,none⟩) 16 ck)) (first|go_keep|(refine⟨?_,?_,?_⟩<;>first|exact(cell_far (by simp;omega) _).trans (by assumption)|exact(zhH (by simp;omega) (by simp;omega) _ _).trans (by assumption)))
   ((go_at_call 38;refine(zbl _ (row) _ ?_).mono ?_;(exact HRI.out.to (by simp) (zae (Below.refl _ _).drew));rintro e w3 ⟨b1,d1,rfl,hown1,hb3⟩;have HX3:=Lib.hid (zac hb3 HX.out (by simp;omega));have HD3:=Lib.hid (zac hb3 HBDB.out (by simp;omega));have HR3:=Lib.hid (zac hb3 HBRB.out (by simp;omega));have y0:w3.cell? ⟨w.heap.size,0,none⟩=some (.slice (some ⟨gd,0,none⟩) rs.length cd):=zaa HX3.out 0;have y1:w3.cell? ⟨w.heap.size,1,none⟩=some (.slice (some ⟨gr,0,none⟩) zs.length cr):=zaa HX3.out 1;have y2:w3.cell? ⟨gd,i,none⟩=some ui:=(zae hb3 _ _ (by simp;omega)).trans cdi;have y3:w3.cell? ⟨gr,i,none⟩=some (.int .i64 zi):=(zae hb3 _ _ (by simp;omega)).trans cri;have y6:w3.cell? ⟨gd,k,none⟩=some (.slice (some ⟨gk,0,none⟩) 16 ck):=(zae hb3 _ _ (by simp;omega)).trans cdk;have y4:=zab HD3.out i;have y5:=zab HR3.out i))
  all_goals (go_wp2_with fail;go_meet)
  all_goals exact⟨b1,d1,vs.set i (.slice b1 row.length d1),ze1 rfl rfl (by rw[List.length_set]) HFB2.out hown1 hb3 hir (by rw[List.length_set];exact hiz)⟩
 case rest=>
  obtain⟨b1,d1,vs',hfb⟩:=hcut
  have lr':(rs.set i (row)).length=rs.length:=List.length_set ..
  have lz':((zs.set k (z-1)).set i 1).length=zs.length:=by rw[List.length_set,List.length_set]
  have hget:(rs.set i (row)).getD i []=row:=by simp[List.getD,hir]
  obtain⟨gd',gr',e1,e2,_,_,hat⟩:=hfb.o.at' lr'.symm lz'.symm (k:=i) (by rw[lr'];exact hir) (by rw[lz'];exact hiz)
  simp only[Option.some.injEq,Addr.mk.injEq,and_true] at e1 e2
  subst e1 e2
  obtain⟨cdj,_,_,_,ld',_,_,_,_,_⟩:=hat i (by rw[lr'];exact hir) (by rw[lz'];exact hiz)
  obtain⟨gi,ci,hvi,hci,lgi,wgi,⟨curi,hbi⟩,hrowi,_⟩:=hfb.o.row_ (k:=i) (n:=16) (by rw[lr'];exact hir) (by rw[hget];exact H16.out) (by omega)
  rw[hvi] at cdj
  obtain⟨cj,fj⟩:=hrowi j hj
  generalize (List.getD _ _ _:Int)=zj at cj
  have p0:wc.cell? ⟨w.heap.size,0,none⟩=some (.slice (some ⟨gd,0,none⟩) rs.length cd):=zaa hfb.x 0
  have p1:wc.cell? ⟨w.heap.size,1,none⟩=some (.slice (some ⟨gr,0,none⟩) zs.length cr):=zaa hfb.x 1
  have r0:wc.cell? ⟨w.heap.size+1,0,none⟩=some (.slice none 0 0):=zaa hfb.y 0
  have r1:wc.cell? ⟨w.heap.size+1,1,none⟩=some (.slice none 0 0):=zaa hfb.y 1
  have g0:=zab hfb.y 0
  have g1:=zab hfb.y 1
  have nx:w.heap.size≠gi:=by intro e;subst e;rw[hfb.x] at hbi;simp at hbi
  have ny:w.heap.size+1≠gi:=by intro e;subst e;rw[hfb.y] at hbi;simp at hbi
  have l5:(j:Int)<16:=by omega
  have HFin:=Lib.hid ((hfb.put hbi (i:=j) (u:=.int .i64 x) (by decide) wgi (hfb.o.setWord (k:=i) (by rw[lr'];exact hir) hget (by rw[H16.out];exact hvi) (by rw[H16.out];exact hj) x)).fin i (by rw[List.length_set,List.length_set]) (by rw[List.length_set,List.length_set]))
  rw[zeg] at HFin
  clear hfb hbi hrowi hat hvi HFB2 HX HBDB HBRB HRI lr' lz' hget
  go_wp2
  exact bodyPost_ret (v:=.tuple #[.agg #[.slice (some ⟨gd,0,none⟩) rs.length cd,.slice (some ⟨gr,0,none⟩) zs.length cr],.int .i64 i,.int .i64 0]) (by simp[results,Tryd.results56,go_sem,r0,r1]) rfl HFin.out
end Go.Proofs.YtflonfcemlfbdaaDoor
namespace Go.Proofs.YtflonfcemlfbdaaDoor
open Go Go.RowKit Go.ChangeShapes Go.WideShapes Go.Deep
set_option linter.unusedVariables false
structure FSt(W:World)(B:Nat)(rs:List (List Int))(zs:List Int)(vd vr:Value)(w:World):Prop where
 x:w.heap[B]?=some (.cells #[vd,vr] 60 (0,0))
 f:FramesR w.heap.size w (.agg #[vd,vr]) rs zs
 b:Below W.heap.size W w
 bd:FBd rs zs
 le:W.heap.size≤B
theorem okU{n:Nat}(h:n=16)(z:Int)(h1:1≤z)(h2:z≤200):OkAt z n:=⟨by omega,h2,fun e=>by omega,fun _=>h⟩
theorem okF:OkAt 0 ([]:List Int).length:=⟨by omega,by omega,fun _=>rfl,fun h=>absurd rfl h⟩
theorem zak{α:Type}{l:List α}{k:Nat}(h:k<l.length)(x d:α):(l.set k x).getD k d=x:=by simp[List.getD,h]
theorem getD_set_ne{α:Type}{l:List α}{k j:Nat}(h:j≠k)(x d:α):(l.set k x).getD j d=l.getD j d:=by simp[List.getD,Ne.symm h]
theorem FOk.put{rs:List (List Int)}{zs:List Int}{k:Nat}(h:FOk rs zs)(hk:k<zs.length){row:List Int}{z:Int}(hz:OkAt z row.length):FOk (rs.set k row) (zs.set k z):=by
 obtain⟨h1,h2,h3⟩:=h
 refine⟨by simpa using h1,by simpa using h2,fun j hj=>?_⟩
 rw[List.length_set] at hj
 by_cases hjk:j=k
 ·
  subst hjk
  rw[zak (by omega),zak (by omega)]
  exact hz
 ·
  rw[getD_set_ne hjk,getD_set_ne hjk]
  exact h3 j hj
theorem FOk.putRef{rs:List (List Int)}{zs:List Int}{k:Nat}(h:FOk rs zs)(hk:k<zs.length){z:Int}(hz:OkAt z (rs.getD k []).length):FOk rs (zs.set k z):=by
 have e:rs.set k (rs.getD k [])=rs:=by
  apply List.ext_getElem (by simp)
  intro i hi hi'
  rw[List.getElem_set]
  split
  ·subst_vars;rw[zau (by have:=h.1;omega)]
  ·rfl
 have:=h.put hk hz
 rw[e] at this
 exact this
theorem FOk.putRow{rs:List (List Int)}{zs:List Int}{k:Nat}(h:FOk rs zs)(hk:k<zs.length){row:List Int}(hz:OkAt (zs.getD k 0) row.length):FOk (rs.set k row) zs:=by
 have e:zs.set k (zs.getD k 0)=zs:=by
  apply List.ext_getElem (by simp)
  intro i hi hi'
  rw[List.getElem_set]
  split
  ·subst_vars;rw[zau hk]
  ·rfl
 have:=h.put hk hz
 rw[e] at this
 exact this
end Go.Proofs.YtflonfcemlfbdaaDoor
