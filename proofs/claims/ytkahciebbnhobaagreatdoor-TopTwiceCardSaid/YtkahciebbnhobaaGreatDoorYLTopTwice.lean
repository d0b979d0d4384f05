/- The law hourglasstop.TopTwice returns true at all raw things and all numbers, the table laid as the program's text lays it. No further condition. -/
import Derived.Test.YtkahciebbnhobaaGreatDoorRows
import Derived.Test.YtkahciebbnhobaaGreatDoorYMem
import Derived.Test.YtkahciebbnhobaaGreatDoorYFacts
import Derived.WalkKit
import Derived.ProofKit
import Derived.OpenShut
import Derived.ShutString
import Derived.ChangeOld
import Derived.Below
import Derived.Test.YtkahciebbnhobaaGreatDoorYVp
import Derived.Test.YtkahciebbnhobaaGreatDoorYKv
import Derived.Test.YtkahciebbnhobaaGreatDoorYEu
import Derived.Test.YtkahciebbnhobaaGreatDoorYPk
import Derived.Test.YtkahciebbnhobaaGreatDoorYKr
import Derived.Test.YtkahciebbnhobaaGreatDoorTie
import Derived.Test.YtkahciebbnhobaaGreatDoorCards
import Derived.SevenTiedAt
import Derived.Deep.RegionHeld3
import Derived.Deep.RegionLaw
import Derived.Deep.CutBlock
import Derived.Deep.CutRange
import Derived.Deep.LoopGhost
namespace Go.Proofs.YtkahciebbnhobaaGreatDoor.lTopTwice
open Go Go.RowKit Go.ChangeShapes Go.WideShapes Go.ChangeAt Go.Deep
set_option maxHeartbeats 8000000
set_option maxRecDepth 100000
open Go.ChangeMaps (open_string shut_string)
set_option linter.unusedVariables false
attribute [local go_sem ↓] Go.wp_at_zero Go.wp_at_succ
theorem walk (W:World) (ht:Tab W) (v1:Value) (xs:List Rw) (h1:RawsR W.heap.size W v1 xs) (v2:Value) (ys:List Rw) (h2:RawsR W.heap.size W v2 ys) (n:Int) (hn:I64 n):Calls Tryz.prog 4 #[v1,v2,.int .i64 n] W fun e W'=>e=.returned (.bool true)∧Below W.heap.size W W':=by
 have HT:=Lib.hid ht
 have HST:=Lib.hid (stubtells_any W ht)
 have HKR:=Lib.hid (fun (w:World) (hb:Below W.heap.size W w)=>trecz_any v1 v2 xs ys n w (ht.to hb) (h1.to hb.size (same_below hb)) (h2.to hb.size (same_below hb)) hn)
 clear ht h1 h2 hn
 go_enter Tryz.func4,Tryz.ntmps4
 go_wp2_with fail
 refine HST.out.mono ?_
 rintro e w0 ⟨rfl,hb0⟩
 have HB0:=Lib.hid hb0
 clear hb0 HST
 go_wp2_with fail
 refine (HKR.out w0 HB0.out).mono ?_
 rintro e w1 ⟨l,N,m,ai,ab,ar,am,ao,ci,cb,cr,cm,co,rfl,hk,hb1⟩
 go_upto_region 4 with fail
 have HBA:=Lib.hid (below_alloc2 w1 (.cells #[.slice ai (imgZ xs).length ci,.slice ab l.length cb,.int .i64 N] 32 (0,0)) (.cells #[.slice ar m.regs.length cr,.int .i64 m.pc,.int .i64 m.back,.bool m.ints,.bool m.wait,.int .i64 m.table,.int .i64 m.count,.int .i64 m.fin,.slice am m.mem.length cm,.slice ao m.out.length co,.int .i64 m.ready,.int .i64 m.want] 34 (0,0)))
 obtain⟨w2,hw2⟩:∃ W,W=((w1.alloc (.cells #[.slice ai (imgZ xs).length ci,.slice ab l.length cb,.int .i64 N] 32 (0,0))).alloc (.cells #[.slice ar m.regs.length cr,.int .i64 m.pc,.int .i64 m.back,.bool m.ints,.bool m.wait,.int .i64 m.table,.int .i64 m.count,.int .i64 m.fin,.slice am m.mem.length cm,.slice ao m.out.length co,.int .i64 m.ready,.int .i64 m.want] 34 (0,0))):=⟨_,rfl⟩
 have HX1:=Lib.hid (show w2.heap[w1.heap.size]? = some (.cells #[.slice ai (imgZ xs).length ci,.slice ab l.length cb,.int .i64 N] 32 (0,0)) from by rw [hw2];exact (alloc_lt (by simp)).trans (alloc_at rfl))
 have HX2:=Lib.hid (show w2.heap[w1.heap.size+1]? = some (.cells #[.slice ar m.regs.length cr,.int .i64 m.pc,.int .i64 m.back,.bool m.ints,.bool m.wait,.int .i64 m.table,.int .i64 m.count,.int .i64 m.fin,.slice am m.mem.length cm,.slice ao m.out.length co,.int .i64 m.ready,.int .i64 m.want] 34 (0,0)) from by rw [hw2];exact alloc_at (by simp))
 rw [← hw2] at HBA ⊢
 obtain⟨gt,hgt⟩:∃ g,g=w1.heap.size:=⟨_,rfl⟩
 obtain⟨gg,hgg⟩:∃ g,g=w1.heap.size+1:=⟨_,rfl⟩
 rw [← hgg] at HX2 ⊢
 rw [← hgt] at HX1 ⊢
 clear hw2 hgt hgg
 have hb2:=hb1.trans (HBA.out.mono hb1.size)
 have HB2:=Lib.hid (HB0.out.trans (hb2.mono HB0.out.size))
 have HK:=Lib.hid (hk.to HBA.out)
 clear HBA hb1 hk hb2 HB0
 go_wp2_with fail
 refine (HKR.out w2 HB2.out).mono ?_
 rintro e w3 ⟨l2,N2,m2,ai2,ab2,ar2,am2,ao2,ci2,cb2,cr2,cm2,co2,rfl,hk2,hb3⟩
 obtain⟨hN,hl,hm⟩:=HK.out.rc.det hk2.rc
 subst hN hl hm
 go_upto_region 5 with fail
 have HBA:=Lib.hid (below_alloc2 w3 (.cells #[.slice ai2 (imgZ xs).length ci2,.slice ab2 l.length cb2,.int .i64 N] 32 (0,0)) (.cells #[.slice ar2 m.regs.length cr2,.int .i64 m.pc,.int .i64 m.back,.bool m.ints,.bool m.wait,.int .i64 m.table,.int .i64 m.count,.int .i64 m.fin,.slice am2 m.mem.length cm2,.slice ao2 m.out.length co2,.int .i64 m.ready,.int .i64 m.want] 34 (0,0)))
 obtain⟨w4,hw4⟩:∃ W,W=((w3.alloc (.cells #[.slice ai2 (imgZ xs).length ci2,.slice ab2 l.length cb2,.int .i64 N] 32 (0,0))).alloc (.cells #[.slice ar2 m.regs.length cr2,.int .i64 m.pc,.int .i64 m.back,.bool m.ints,.bool m.wait,.int .i64 m.table,.int .i64 m.count,.int .i64 m.fin,.slice am2 m.mem.length cm2,.slice ao2 m.out.length co2,.int .i64 m.ready,.int .i64 m.want] 34 (0,0))):=⟨_,rfl⟩
 have HY1:=Lib.hid (show w4.heap[w3.heap.size]? = some (.cells #[.slice ai2 (imgZ xs).length ci2,.slice ab2 l.length cb2,.int .i64 N] 32 (0,0)) from by rw [hw4];exact (alloc_lt (by simp)).trans (alloc_at rfl))
 have HY2:=Lib.hid (show w4.heap[w3.heap.size+1]? = some (.cells #[.slice ar2 m.regs.length cr2,.int .i64 m.pc,.int .i64 m.back,.bool m.ints,.bool m.wait,.int .i64 m.table,.int .i64 m.count,.int .i64 m.fin,.slice am2 m.mem.length cm2,.slice ao2 m.out.length co2,.int .i64 m.ready,.int .i64 m.want] 34 (0,0)) from by rw [hw4];exact alloc_at (by simp))
 rw [← hw4] at HBA ⊢
 obtain⟨gu,hgu⟩:∃ g,g=w3.heap.size:=⟨_,rfl⟩
 obtain⟨gh,hgh⟩:∃ g,g=w3.heap.size+1:=⟨_,rfl⟩
 rw [← hgh] at HY2 ⊢
 rw [← hgu] at HY1 ⊢
 clear hw4 hgu hgh
 have hb4:=hb3.trans (HBA.out.mono hb3.size)
 have HB4:=Lib.hid (HB2.out.trans (hb4.mono HB2.out.size))
 have HK4:=Lib.hid (HK.out.to hb4)
 have HL4:=Lib.hid (hk2.to HBA.out)
 have HX14:=Lib.hid (block_below hb4 HX1.out (Array.getElem?_eq_some_iff.1 HX1.out).1)
 have HX24:=Lib.hid (block_below hb4 HX2.out (Array.getElem?_eq_some_iff.1 HX2.out).1)
 have cv1:=conv_bytes HK4.out.b
 have cv2:=conv_bytes HL4.out.b
 clear HBA hb3 hk2 hb4 HB2 HX1 HX2 HK HKR HT
 have t0:w4.cell? ⟨gt,0,none⟩=some (.slice ai (imgZ xs).length ci):=cell_block HX14.out 0
 have t1:w4.cell? ⟨gt,1,none⟩=some (.slice ab l.length cb):=cell_block HX14.out 1
 have t2:w4.cell? ⟨gt,2,none⟩=some (.int .i64 N):=cell_block HX14.out 2
 have u0:w4.cell? ⟨gu,0,none⟩=some (.slice ai2 (imgZ xs).length ci2):=cell_block HY1.out 0
 have u1:w4.cell? ⟨gu,1,none⟩=some (.slice ab2 l.length cb2):=cell_block HY1.out 1
 have u2:w4.cell? ⟨gu,2,none⟩=some (.int .i64 N):=cell_block HY1.out 2
 first | (obtain⟨g0,g1,g2,g3,g4,g5,g6,g7,g8,g9,g10,g11⟩:=cells12 HX24.out) | (obtain⟨g0,g1,g2,g3,g4,g5,g6,g7,g8,g9,g10,g11⟩:=cells13 HX24.out)
 first | (obtain⟨h0,h1,h2,h3,h4,h5,h6,h7,h8,h9,h10,h11⟩:=cells12 HY2.out) | (obtain⟨h0,h1,h2,h3,h4,h5,h6,h7,h8,h9,h10,h11⟩:=cells13 HY2.out)
 have lt_gt:gt < w4.heap.size:=(Array.getElem?_eq_some_iff.1 HX14.out).1
 have lt_gu:gu < w4.heap.size:=(Array.getElem?_eq_some_iff.1 HY1.out).1
 have lt_gg:gg < w4.heap.size:=(Array.getElem?_eq_some_iff.1 HX24.out).1
 have lt_gh:gh < w4.heap.size:=(Array.getElem?_eq_some_iff.1 HY2.out).1
 have HEQ:=Lib.hid (kequalB (B:=w4.heap.size) _ _ (imgZ xs) w4 (Nat.le_refl _) HK4.out.i HL4.out.i)
 have HSM:=Lib.hid (fun q=>show Calls Tryz.prog 13 #[.agg #[.slice ar m.regs.length cr,.int .i64 m.pc,.int .i64 m.back,.bool m.ints,.bool m.wait,.int .i64 m.table,.int .i64 m.count,.int .i64 m.fin,.slice am m.mem.length cm,.slice ao m.out.length co,.int .i64 m.ready,.int .i64 m.want],.agg #[.slice ar2 m.regs.length cr2,.int .i64 m.pc,.int .i64 m.back,.bool m.ints,.bool m.wait,.int .i64 m.table,.int .i64 m.count,.int .i64 m.fin,.slice am2 m.mem.length cm2,.slice ao2 m.out.length co2,.int .i64 m.ready,.int .i64 m.want]] (w4.drewN q) (fun e w'=>e=.returned (.bool true)∧Below (w4.drewN q).heap.size (w4.drewN q) w') from
  tsame_yes m _ _ _ _ _ _ (w4.drewN q) ((machr_ints HK4.out.g).1.to (by simp) (fun _ _ _=>by simp)) ((machr_ints HK4.out.g).2.1.to (by simp) (fun _ _ _=>by simp)) ((machr_ints HK4.out.g).2.2.to (by simp) (fun _ _ _=>by simp)) ((machr_ints HL4.out.g).1.to (by simp) (fun _ _ _=>by simp)) ((machr_ints HL4.out.g).2.1.to (by simp) (fun _ _ _=>by simp)) ((machr_ints HL4.out.g).2.2.to (by simp) (fun _ _ _=>by simp)))
 clear HX14 HX24 HY1 HY2 HK4 HL4
 go_wp2_with fail
 refine HEQ.out.mono ?_
 rintro e w5 ⟨rfl,q,rfl⟩
 go_wp2_with fail
 refine (HSM.out q).mono ?_
 rintro e w6 ⟨rfl,hb6⟩
 have HB6:=Lib.hid (HB4.out.trans ((below_drewN (Below.refl _ _) q).trans (hb6.mono (by simp)) |>.mono HB4.out.size))
 clear hb6
 go_wp2
 go_ret
 exact⟨ret_bool (by simp),HB6.out⟩
theorem lifted (os : Os) (started : os.Started) (H : Type) (enc : TypeId × Value → H) :
  ReturnsInHanded {} Tryz.checked os 4 .any (fun w args=>(Rows.topTwiceSpec.pre enc Tryz.prog Tryz.f4 [] false w args∧laidMetH Tryz.prog laidW w)∧sizedMet enc Tryz.prog Tryz.f4 (OpenSpec.ofChange Rows.topTwiceSpec) false w args) (Rows.topTwiceSpec.post enc Tryz.prog Tryz.f4 false true false false):=by
 refine returnsInHanded_of_change_and (C:=Tryz.checked) (X:=fun w _=>laidMetH Tryz.prog laidW w) (fun _ _ _ hh h=>h.of_heap hh) Facts.own started (by kernel_rfl) Tryz.func4
  (ChangeSpec.witness_shaped (enc:=enc) (C:=Tryz.checked) (os:=os) (X:=fun w _=>laidMetH Tryz.prog laidW w) false (World.doorLaid Tryz.prog 400 os) #[.slice none 0 0,.slice none 0 0,.int .i64 0] 8 rfl (World.shaped_of_RefB (by kernel_rfl) (by kernel_rfl)) (by kernel_rfl) (by kernel_rfl) (by kernel_rfl) (door_met os _)) ?_
 intro W base args ds gs before hval0 hW hcnd hsz0 hL _
 have hsz:(DataW.weightsEach Tryz.prog (Tryz.f4.params.toList ++ Rows.topTwiceSpec.plain.varTypes Tryz.prog) (ds ++ gs)).all (·≤reachBytes)=true:=hsz0
 have hval:∀ (j:Nat) t v,Tryz.f4.params[j]? = some t→args[j]? = some v→Value.okWide Tryz.prog W .any base t v:=hval0
 have hW':=hW
 obtain⟨p,q,hA0,hV,rfl,hfz,hnd⟩:=hW
 have hA:DataW.TrodAll enc Tryz.prog W 0 (fun _=>true) true Tryz.f4.params.toList args.toList ds p:=hA0
 rw [Tryz.params4] at hA hval hsz
 obtain⟨v0,vs0,d0,ds0,p0,q0,hargs,rfl,rfl,h0,r0⟩:=trodAll_cons hA
 obtain⟨v1,vs1,d1,ds1,p1,q1,rfl,rfl,rfl,h1,r1⟩:=trodAll_cons r0
 obtain⟨v2,vs2,d2,ds2,p2,q2,rfl,rfl,rfl,h2,r2⟩:=trodAll_cons r1
 obtain⟨rfl,rfl,rfl⟩:=trodAll_nil r2
 obtain rfl:args=#[v0,v1,v2]:=by cases args;simp_all
 obtain⟨rfl,rfl⟩:=trodVars_none hV
 have k0:=h0
 have lt0:∀ x∈p0,x.block < W.heap.size:=by obtain⟨m,hm⟩:=k0;exact DataW.trod_lt m _ _ _ hm
 obtain⟨x0_0,w0⟩:=open_rawsR (hval 0 22 v0 rfl rfl) h0 (fits_at hsz (j:=0) rfl rfl)
 have k1:=h1
 have lt1:∀ x∈p1,x.block < W.heap.size:=by obtain⟨m,hm⟩:=k1;exact DataW.trod_lt m _ _ _ hm
 obtain⟨x1_0,w1⟩:=open_rawsR (hval 1 22 v1 rfl rfl) h1 (fits_at hsz (j:=1) rfl rfl)
 have k2:=h2
 have lt2:∀ x∈p2,x.block < W.heap.size:=by obtain⟨m,hm⟩:=k2;exact DataW.trod_lt m _ _ _ hm
 obtain⟨a2,rfl,rfl,rfl,w2⟩:=open_int Tryz.underlying3 (hval 2 3 v2 rfl rfl) h2
 clear hA0 hval0
 refine (walk W (tab_of_laid hL) v0 x0_0 w0 v1 x1_0 w1 a2 (Go.bounds_i64 w2)).mono fun e W' ⟨he,bel⟩=>?_
 subst he
 exact⟨_,rfl,_,_,_,[],_,[],hW',trodAll_mk1 (shut_bool Tryz.underlying4 _),(trodAll_cons_mk (Below.trod Facts.laidOut (by kernel_rfl) (of_decide_eq_true (by kernel_rfl)) k0 bel lt0) (trodAll_cons_mk (Below.trod Facts.laidOut (by kernel_rfl) (of_decide_eq_true (by kernel_rfl)) k1 bel lt1) (trodAll_cons_mk (Below.trod Facts.laidOut (by kernel_rfl) (of_decide_eq_true (by kernel_rfl)) k2 bel lt2) trodAll_mk0))),rfl,bel.frame _,fun h=>by cases h⟩
theorem closed:joinedFacts Tryz.prog 4 Tryz.f4 Rows.topTwiceSpec Rows.topTwiceRow=true:=by
 unfold joinedFacts
 rw [Facts.enters,Facts.lifts,Facts.made]
 kernel_rfl
theorem over:Rows.topTwiceRow.holds Tryz.pinned (OpenSpec.ofChange Rows.topTwiceSpec):=
 OpenClaim.holds_of_wide 4 Tryz.f4 rfl rfl rfl rfl rfl rfl rfl ⟨rfl,rfl,rfl,rfl,rfl⟩ rfl rfl rfl rfl rfl (by kernel_rfl) Tryz.func4 closed
  (of_decide_eq_true (by kernel_rfl)) (by unfold Func.isWrapper;first | (rw [if_pos (by decide +kernel)];kernel_rfl) | (rw [if_neg (by decide +kernel)];exact⟨rfl,rfl⟩))
  (fun os started H enc _=>lifted os started H enc)
theorem proved:Rows.TopTwiceCardSaid:=
 Claim7.holds_tied_plain_at .later [] [.data] true (true, "314ad316157752a439b5dcc8cede09b0c626e6bcd4393a3f4396cf6f98509159") false over (fun _ h => by cases h) (by kernel_rfl) (fun _ h => by cases h) topTwice_row_tie rfl ⟨rfl, rfl⟩ (by kernel_rfl) rfl
  (fun f fn hf hfn=>by
   obtain rfl : f = 4 := Option.some.inj ((show Tryz.prog.funcNamed "hourglass/hourglasstop.TopTwice" = some 4 by kernel_rfl).symm.trans hf) |>.symm
   obtain rfl:fn=Tryz.f4:=(Option.some.inj (Tryz.func4.symm.trans hfn)).symm
   exact⟨by kernel_rfl,fun j t ht=>by
    rw [Tryz.params4] at ht
    have hm:t∈[22,22,3]:=by simpa using Array.mem_of_getElem? ht
    have hall:([22,22,3].all fun u=>!Tryz.prog.wantsStandIn u)=true:=by kernel_rfl
    exact (show Tryz.prog.wantsStandIn t=false by simpa using List.all_eq_true.1 hall t hm)⟩)
  (by kernel_rfl)
#print axioms proved
end Go.Proofs.YtkahciebbnhobaaGreatDoor.lTopTwice
