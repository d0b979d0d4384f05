/- The law hourglasstop.TopEvents returns true at all raw things and all numbers, the table laid as the program's text lays it. No further condition. -/
import Derived.Test.YtkahciebbnhobaaGreatDoorRows
import Derived.Test.YtkahciebbnhobaaGreatDoorYMem
import Derived.Test.YtkahciebbnhobaaGreatDoorYFacts
import Derived.WalkKit
import Derived.ProofKit
import Derived.OpenShut
import Derived.ShutString
import Derived.ChangeOld
import Derived.Below
import Derived.Test.YtkahciebbnhobaaGreatDoorYVp
import Derived.Test.YtkahciebbnhobaaGreatDoorYKv
import Derived.Test.YtkahciebbnhobaaGreatDoorYPw
import Derived.Test.YtkahciebbnhobaaGreatDoorYEu
import Derived.Test.YtkahciebbnhobaaGreatDoorYPk
import Derived.Test.YtkahciebbnhobaaGreatDoorYKr
import Derived.Test.YtkahciebbnhobaaGreatDoorTie
import Derived.Test.YtkahciebbnhobaaGreatDoorCards
import Derived.SevenTiedAt
import Derived.Deep.RegionHeld3
import Derived.Deep.RegionLaw
import Derived.Deep.CutBlock
import Derived.Deep.CutRange
import Derived.Deep.LoopGhost
namespace Go.Proofs.YtkahciebbnhobaaGreatDoor.lTopEvents
open Go Go.RowKit Go.ChangeShapes Go.WideShapes Go.ChangeAt Go.Deep
set_option maxHeartbeats 8000000
set_option maxRecDepth 100000
open Go.ChangeMaps (open_string shut_string)
set_option linter.unusedVariables false
attribute [local go_sem ↓] Go.wp_at_zero Go.wp_at_succ
attribute [local go_sem ↓] oper_st
attribute [local go_sem] st_mach st_fresh
theorem walk (W:World) (ht:Tab W) (v1:Value) (xs:List Rw) (h1:RawsR W.heap.size W v1 xs) (n:Int) (hn:I64 n):Calls Tryz.prog 5 #[v1,.int .i64 n] W fun e W'=>e=.returned (.bool true)∧Below W.heap.size W W':=by
 have HT:=Lib.hid ht
 have HST:=Lib.hid (stubtells_any W ht)
 have HIM:=Lib.hid (fun (w:World) (hb:Below W.heap.size W w)=>imgz_ints v1 xs w (h1.to hb.size (same_below hb)))
 have HPI:=Lib.hid (fun w=>ppicked_any n 400 w hn.1 hn.2 (by omega) (by omega))
 obtain⟨p0,p1⟩:=pick_rng n 400 (by omega)
 generalize pickZ n 400=pn at *
 clear ht h1 hn
 go_enter Tryz.func5,Tryz.ntmps5
 go_wp2_with fail
 refine HST.out.mono ?_
 rintro e w0 ⟨rfl,hb0⟩
 have HB0:=Lib.hid hb0
 clear hb0 HST
 go_wp2_with fail
 refine (HPI.out _).mono ?_
 rintro e w' ⟨rfl,rfl⟩
 go_wp2_with fail
 refine (HIM.out w0 HB0.out).mono ?_
 rintro e wi ⟨aj,cj,rfl,hi,hnc,hil,hbi⟩
 have HBI:=Lib.hid (HB0.out.trans (hbi.mono HB0.out.size))
 have HKR:=Lib.hid (kreca_any aj none none none none cj 0 0 0 0 (imgZ xs) [] [] [] [] pn wi (HT.out.to HBI.out) hi (Sl1.nil _ _ _ _) (Sl1.nil _ _ _ _) (RowsR.nil _ _) (Sl1.nil _ _ _ _) p0 (by omega) hnc hil w20_none)
 clear hi hbi hnc hil HB0 HPI
 go_wp2_with fail
 refine HKR.out.mono ?_
 rintro e w1 ⟨l,N,m,ai,ab,ar,am,ao,ci,cb,cr,cm,co,rfl,hk,hb1⟩
 go_upto_region 5 with fail
 have HBA:=Lib.hid (below_alloc2 w1 (.cells #[.slice ai (imgZ xs).length ci,.slice ab l.length cb,.int .i64 N] 32 (0,0)) (.cells #[.slice ar m.regs.length cr,.int .i64 m.pc,.int .i64 m.back,.bool m.ints,.bool m.wait,.int .i64 m.table,.int .i64 m.count,.int .i64 m.fin,.slice am m.mem.length cm,.slice ao m.out.length co,.int .i64 m.ready,.int .i64 m.want] 34 (0,0)))
 obtain⟨w2,hw2⟩:∃ W,W=((w1.alloc (.cells #[.slice ai (imgZ xs).length ci,.slice ab l.length cb,.int .i64 N] 32 (0,0))).alloc (.cells #[.slice ar m.regs.length cr,.int .i64 m.pc,.int .i64 m.back,.bool m.ints,.bool m.wait,.int .i64 m.table,.int .i64 m.count,.int .i64 m.fin,.slice am m.mem.length cm,.slice ao m.out.length co,.int .i64 m.ready,.int .i64 m.want] 34 (0,0))):=⟨_,rfl⟩
 have HX1:=Lib.hid (show w2.heap[w1.heap.size]? = some (.cells #[.slice ai (imgZ xs).length ci,.slice ab l.length cb,.int .i64 N] 32 (0,0)) from by rw [hw2];exact (alloc_lt (by simp)).trans (alloc_at rfl))
 have HX2:=Lib.hid (show w2.heap[w1.heap.size+1]? = some (.cells #[.slice ar m.regs.length cr,.int .i64 m.pc,.int .i64 m.back,.bool m.ints,.bool m.wait,.int .i64 m.table,.int .i64 m.count,.int .i64 m.fin,.slice am m.mem.length cm,.slice ao m.out.length co,.int .i64 m.ready,.int .i64 m.want] 34 (0,0)) from by rw [hw2];exact alloc_at (by simp))
 rw [← hw2] at HBA ⊢
 obtain⟨gt,hgt⟩:∃ g,g=w1.heap.size:=⟨_,rfl⟩
 obtain⟨gg,hgg⟩:∃ g,g=w1.heap.size+1:=⟨_,rfl⟩
 rw [← hgg] at HX2 ⊢
 rw [← hgt] at HX1 ⊢
 clear hw2 hgt hgg
 have hb2:=hb1.trans (HBA.out.mono hb1.size)
 have HB2:=Lib.hid (HBI.out.trans (hb2.mono HBI.out.size))
 have HK:=Lib.hid (hk.to HBA.out)
 clear HBA hb1 hk hb2 HBI HKR
 have HEN:=Lib.hid (encode_good (.slice none 0 0) [] w2 (SlN.nil _ _ _ _ _) (HT.out.to HB2.out) evres_none)
 go_wp2_with fail
 refine HEN.out.mono ?_
 rintro e w3 ⟨ae,ce,rfl,he3,hb3⟩
 have HB3:=Lib.hid (HB2.out.trans (hb3.mono HB2.out.size))
 have HE3:=Lib.hid (bytes_of_own he3 (by rw [enc_none_len];omega))
 have HK3:=Lib.hid (HK.out.to hb3)
 have HX13:=Lib.hid (block_below hb3 HX1.out (Array.getElem?_eq_some_iff.1 HX1.out).1)
 have HX23:=Lib.hid (block_below hb3 HX2.out (Array.getElem?_eq_some_iff.1 HX2.out).1)
 clear he3 hb3 HX1 HX2 HK HB2 HEN
 generalize (encE []).length=ne at *
 obtain⟨mz,hmz⟩:∃ mz,mz=runM [] (imageM (imgZ xs)) N:=⟨_,rfl⟩
 have HMZ:=Lib.hid hmz
 have HNN:=Lib.hid (show N≤3000 from HK3.out.rc.tape.le)
 clear hmz
 have HRP:=Lib.hid (fun (U:World) (a5:Option Addr) (c5:Nat) (hb:Below w3.heap.size w3 U) (hi:Ints U.heap.size U (.slice a5 (imgZ xs).length c5) (imgZ xs))=>repnone_any (.slice a5 (imgZ xs).length c5) (.slice ae ne ce) (imgZ xs) N U (HT.out.to (HB3.out.trans (hb.mono HB3.out.size))) hi (HE3.out.to hb.size (same_below hb)) HK3.out.nc HNN.out HMZ.out)
 have HIR:=Lib.hid (fun (U:World) (hb:Below w3.heap.size w3 U)=>HIM.out U (HB3.out.trans (hb.mono HB3.out.size)))
 have HBD:=Lib.hid (show Below w3.heap.size w3 w3.drew from below_drewN (Below.refl _ _) 1)
 have HBE:=Lib.hid (show Below w3.heap.size w3 (w3.alloc (.cells #[.slice none 0 0,.int .i64 0,.int .i64 0,.bool false,.bool false,.int .i64 0,.int .i64 0,.int .i64 0,.slice none 0 0,.slice none 0 0,.int .i64 0,.int .i64 0] 34 (0,0))).drew from below_drewN (below_alloc w3 _) 1)
 have t0:w3.cell? ⟨gt,0,none⟩=some (.slice ai (imgZ xs).length ci):=cell_block HX13.out 0
 have t1:w3.cell? ⟨gt,1,none⟩=some (.slice ab l.length cb):=cell_block HX13.out 1
 have t2:w3.cell? ⟨gt,2,none⟩=some (.int .i64 N):=cell_block HX13.out 2
 have lt3:gt < w3.heap.size:=(Array.getElem?_eq_some_iff.1 HX13.out).1
 go_upto_region 6 with fail
 go_cut [11,12] from 32 to 44 (fun s11 s12 wx =>∃(gh:Nat) (br:Option Addr) (dr:Nat) (bm:Option Addr) (dm:Nat) (bo:Option Addr) (dq:Nat),s11=.pointer (some ⟨gh,0,none⟩)∧s12=.int .i64 0∧Hid (Below w3.heap.size w3 wx)∧Hid (wx.heap[gh]? = some (.cells #[.slice br mz.regs.length dr,.int .i64 mz.pc,.int .i64 mz.back,.bool mz.ints,.bool mz.wait,.int .i64 mz.table,.int .i64 mz.count,.int .i64 mz.fin,.slice bm mz.mem.length dm,.slice bo mz.out.length dq,.int .i64 mz.ready,.int .i64 mz.want] 34 (0,0)))∧Hid (MachR wx.heap.size wx (.agg #[.slice br mz.regs.length dr,.int .i64 mz.pc,.int .i64 mz.back,.bool mz.ints,.bool mz.wait,.int .i64 mz.table,.int .i64 mz.count,.int .i64 mz.fin,.slice bm mz.mem.length dm,.slice bo mz.out.length dq,.int .i64 mz.ready,.int .i64 mz.want]) mz))
 case first =>
  go_region_held3 (fun w'=>w'.cell? ⟨gt,2,none⟩=some (.int .i64 N)) (first | ((try dsimp only);(repeat' apply And.intro) <;> (first | (with_reducible assumption) | (with_reducible exact stored_keep hne (by with_reducible assumption)) | go_keep))) (first
   | (go_at_call 17;(with_reducible refine (HRP.out _ _ _ ?_ ?_).mono ?_);(first | (with_reducible exact HBS.out) | (with_reducible exact HBS.out.alloc HBS.out.size _));(first | (with_reducible exact HI5.out) | exact HI5.out.to (below_alloc _ _).size (same_below (below_alloc _ _)));rintro e w4 ⟨br,dr,bm,dm,bo,dq,rfl,hm4,hok4,hb4⟩;have HM4:=Lib.hid hm4;have HOK4:=Lib.hid hok4;(first | (have HXQ:Hid (w4.heap[wS.heap.size]? = some (.cells #[.slice none 0 0,.int .i64 0,.int .i64 0,.bool false,.bool false,.int .i64 0,.int .i64 0,.int .i64 0,.slice none 0 0,.slice none 0 0,.int .i64 0,.int .i64 0] 34 (0,0))):=Lib.hid (block_below (B:=(wS.alloc (.cells #[.slice none 0 0,.int .i64 0,.int .i64 0,.bool false,.bool false,.int .i64 0,.int .i64 0,.int .i64 0,.slice none 0 0,.slice none 0 0,.int .i64 0,.int .i64 0] 34 (0,0))).heap.size) (w:=wS.alloc (.cells #[.slice none 0 0,.int .i64 0,.int .i64 0,.bool false,.bool false,.int .i64 0,.int .i64 0,.int .i64 0,.slice none 0 0,.slice none 0 0,.int .i64 0,.int .i64 0] 34 (0,0))) (by with_reducible exact hb4) (alloc_at rfl) (by simp));have hgq:w3.heap.size≤wS.heap.size:=HBS.out.size) | (have HXQ:=Lib.hid (block_below hb4 HXZ.out (Array.getElem?_eq_some_iff.1 HXZ.out).1);have hgq:w3.heap.size≤w3.heap.size:=Nat.le_refl _) | (have HXN2:=Lib.hid True.intro));have HB4:Hid (Below w3.heap.size w3 w4):=Lib.hid (by first | (with_reducible exact HBS.out.trans (hb4.mono HBS.out.size)) | (with_reducible exact (HBS.out.alloc HBS.out.size _).trans (hb4.mono (by simp;exact Nat.le_succ_of_le HBS.out.size))));  have HXT:=Lib.hid (block_below HB4.out HX13.out (Array.getElem?_eq_some_iff.1 HX13.out).1);have u2:=cell_block HXT.out 2;simp only [List.getElem?_toArray,List.getElem?_cons_zero,List.getElem?_cons_succ] at u2;have ltT:gt < w4.heap.size:=(Array.getElem?_eq_some_iff.1 HXT.out).1;(try ((generalize wS.heap.size=gq at *);have hxq:=HXQ.out;have hne:=Nat.ne_of_lt (Nat.lt_of_lt_of_le lt3 hgq);clear t0 t1 t2 s2 p0 p1 HIM HRP HIR HBD HBE HX13 HX23 HK3 HE3 HB3 HT));clear hb4 hm4)
   | (go_at_call 10;(with_reducible refine (HIR.out _ ?_).mono ?_);(first | (with_reducible exact HBD.out) | (with_reducible exact HBE.out));rintro e wS ⟨a5,c5,rfl,hi5,hn5,hl5,hbS⟩;have HBS:Hid (Below w3.heap.size w3 wS):=Lib.hid (by first | (with_reducible exact HBD.out.trans (hbS.mono HBD.out.size)) | (with_reducible exact HBE.out.trans (hbS.mono HBE.out.size)));have HI5:=Lib.hid hi5;(first | (have HXZ:Hid (wS.heap[w3.heap.size]? = some (.cells #[.slice none 0 0,.int .i64 0,.int .i64 0,.bool false,.bool false,.int .i64 0,.int .i64 0,.int .i64 0,.slice none 0 0,.slice none 0 0,.int .i64 0,.int .i64 0] 34 (0,0))):=Lib.hid (block_below (B:=(w3.alloc (.cells #[.slice none 0 0,.int .i64 0,.int .i64 0,.bool false,.bool false,.int .i64 0,.int .i64 0,.int .i64 0,.slice none 0 0,.slice none 0 0,.int .i64 0,.int .i64 0] 34 (0,0))).drew.heap.size) (w:=(w3.alloc (.cells #[.slice none 0 0,.int .i64 0,.int .i64 0,.bool false,.bool false,.int .i64 0,.int .i64 0,.int .i64 0,.slice none 0 0,.slice none 0 0,.int .i64 0,.int .i64 0] 34 (0,0))).drew) (by with_reducible exact hbS) (alloc_at (w:=w3) rfl) (by simp))) | (have HXN:=Lib.hid True.intro));have HXS:=Lib.hid (block_below HBS.out HX13.out (Array.getElem?_eq_some_iff.1 HX13.out).1);have s2:=cell_block HXS.out 2;simp only [List.getElem?_toArray,List.getElem?_cons_zero,List.getElem?_cons_succ] at s2;have ltS:gt < wS.heap.size:=(Array.getElem?_eq_some_iff.1 HXS.out).1;clear hbS hi5 hn5 hl5))
  all_goals (go_wp2_with fail;go_meet)
  all_goals (case rel=>first
   | (obtain⟨V,hV,q1,q2,q3⟩:=stored_mach HXQ.out HM4.out HB4.out hgq HOK4.out;rw [← hV];exact⟨_,br,dr,bm,dm,bo,dq,rfl,rfl,Lib.hid q3,Lib.hid q1,Lib.hid q2⟩)
   | exact⟨_,br,dr,bm,dm,bo,dq,rfl,rfl,Lib.hid (HB4.out.alloc HB4.out.size _),Lib.hid (alloc_at rfl),Lib.hid ((mach_r HOK4.out HM4.out).to (by simp) (same_below (below_alloc _ _)))⟩)
 case rest =>
  obtain⟨gh,br,dr,bm,dm,bo,dq,rfl,rfl,HB6,HXH,HM6⟩:=hcut
  obtain⟨w6,hw6⟩:∃ w6,w6=wc:=⟨_,rfl⟩
  subst hw6
  have HX16:=Lib.hid (block_below HB6.out HX13.out (Array.getElem?_eq_some_iff.1 HX13.out).1)
  have HX26:=Lib.hid (block_below HB6.out HX23.out (Array.getElem?_eq_some_iff.1 HX23.out).1)
  have HK6:=Lib.hid (HK3.out.to HB6.out)
  have HBW:=Lib.hid (HB3.out.trans (HB6.out.mono HB3.out.size))
  clear t0 t1 t2 lt3 HRP HIR HBD HBE HX13 HX23 HK3 HE3 HB3 HB6 HIM
  have t0:w6.cell? ⟨gt,0,none⟩=some (.slice ai (imgZ xs).length ci):=cell_block HX16.out 0
  have t1:w6.cell? ⟨gt,1,none⟩=some (.slice ab l.length cb):=cell_block HX16.out 1
  have t2:w6.cell? ⟨gt,2,none⟩=some (.int .i64 N):=cell_block HX16.out 2
  have lt6:gt < w6.heap.size:=(Array.getElem?_eq_some_iff.1 HX16.out).1
  have HCK:=Lib.hid (kchk_any HK6.out (HT.out.to HBW.out))
  go_wp2_with fail
  refine HCK.out.mono ?_
  rintro e w7 ⟨vo,rfl,hev,hb7⟩
  have HEV:=Lib.hid hev
  have HB7:=Lib.hid (HBW.out.trans (hb7.mono HBW.out.size))
  have HK7:=Lib.hid (HK6.out.to hb7)
  have HM7:=Lib.hid (HM6.out.to hb7.size (same_below hb7))
  have HX27:=Lib.hid (block_below hb7 HX26.out (Array.getElem?_eq_some_iff.1 HX26.out).1)
  have HXH7:=Lib.hid (block_below hb7 HXH.out (Array.getElem?_eq_some_iff.1 HXH.out).1)
  have HCE:=Lib.hid (containsE_any vo _ w7 HEV.out)
  have HAL:=Lib.hid (alone HK7.out.rc)
  clear hev hb7 t0 t1 t2 lt6 HX26 HX16 HXH HM6 HK6 HCK HBW
  go_upto_region 10 with fail
  go_wp2_with fail
  refine HCE.out.mono ?_
  rintro e w8 ⟨rfl,hb8⟩
  have HB8:=Lib.hid (HB7.out.trans (hb8.mono HB7.out.size))
  have HK8:=Lib.hid (HK7.out.to hb8)
  have HM8:=Lib.hid (HM7.out.to hb8.size (same_below hb8))
  have HX28:=Lib.hid (block_below hb8 HX27.out (Array.getElem?_eq_some_iff.1 HX27.out).1)
  have HXH8:=Lib.hid (block_below hb8 HXH7.out (Array.getElem?_eq_some_iff.1 HXH7.out).1)
  clear HX27 HXH7 HM7 HK7 hb8 HB7 HEV
  cases hany:List.any (recI [] [] [] [] (recS0 (imgZ xs)) N).all (fun x=>decide (x.kind=2)) with
  | true =>
   go_wp2
   go_ret
   exact⟨rfl,HB8.out⟩
  | false =>
   have hmm:mz=m:=HMZ.out.trans (HAL.out (fun x hx hk=>by
    have:=List.any_eq_false.1 hany x hx
    simp [hk] at this))
   have HSM:=Lib.hid (show Calls Tryz.prog 13 #[.agg #[.slice ar m.regs.length cr,.int .i64 m.pc,.int .i64 m.back,.bool m.ints,.bool m.wait,.int .i64 m.table,.int .i64 m.count,.int .i64 m.fin,.slice am m.mem.length cm,.slice ao m.out.length co,.int .i64 m.ready,.int .i64 m.want],.agg #[.slice br mz.regs.length dr,.int .i64 mz.pc,.int .i64 mz.back,.bool mz.ints,.bool mz.wait,.int .i64 mz.table,.int .i64 mz.count,.int .i64 mz.fin,.slice bm mz.mem.length dm,.slice bo mz.out.length dq,.int .i64 mz.ready,.int .i64 mz.want]] w8 (fun e w'=>e=.returned (.bool true)∧Below w8.heap.size w8 w') from by
    subst hmm
    exact tsame_yes mz _ _ _ _ _ _ w8 (machr_ints HK8.out.g).1 (machr_ints HK8.out.g).2.1 (machr_ints HK8.out.g).2.2 (machr_ints HM8.out).1 (machr_ints HM8.out).2.1 (machr_ints HM8.out).2.2)
   clear hmm HMZ
   first | (obtain⟨g0,g1,g2,g3,g4,g5,g6,g7,g8,g9,g10,g11⟩:=cells12 HX28.out) | (obtain⟨g0,g1,g2,g3,g4,g5,g6,g7,g8,g9,g10,g11⟩:=cells13 HX28.out)
   first | (obtain⟨h0,h1,h2,h3,h4,h5,h6,h7,h8,h9,h10,h11⟩:=cells12 HXH8.out) | (obtain⟨h0,h1,h2,h3,h4,h5,h6,h7,h8,h9,h10,h11⟩:=cells13 HXH8.out)
   have lg8:gg < w8.heap.size:=(Array.getElem?_eq_some_iff.1 HX28.out).1
   have lh8:gh < w8.heap.size:=(Array.getElem?_eq_some_iff.1 HXH8.out).1
   go_wp2_with fail
   refine HSM.out.mono ?_
   rintro e w9 ⟨rfl,hb9⟩
   have HB9:=Lib.hid (HB8.out.trans (hb9.mono HB8.out.size))
   clear hb9
   go_wp2
   go_ret
   exact⟨ret_bool (by simp),HB9.out⟩
theorem lifted (os : Os) (started : os.Started) (H : Type) (enc : TypeId × Value → H) :
  ReturnsInHanded {} Tryz.checked os 5 .any (fun w args=>(Rows.topEventsSpec.pre enc Tryz.prog Tryz.f5 [] false w args∧laidMetH Tryz.prog laidW w)∧sizedMet enc Tryz.prog Tryz.f5 (OpenSpec.ofChange Rows.topEventsSpec) false w args) (Rows.topEventsSpec.post enc Tryz.prog Tryz.f5 false true false false):=by
 refine returnsInHanded_of_change_and (C:=Tryz.checked) (X:=fun w _=>laidMetH Tryz.prog laidW w) (fun _ _ _ hh h=>h.of_heap hh) Facts.own started (by kernel_rfl) Tryz.func5
  (ChangeSpec.witness_shaped (enc:=enc) (C:=Tryz.checked) (os:=os) (X:=fun w _=>laidMetH Tryz.prog laidW w) false (World.doorLaid Tryz.prog 400 os) #[.slice none 0 0,.int .i64 0] 8 rfl (World.shaped_of_RefB (by kernel_rfl) (by kernel_rfl)) (by kernel_rfl) (by kernel_rfl) (by kernel_rfl) (door_met os _)) ?_
 intro W base args ds gs before hval0 hW hcnd hsz0 hL _
 have hsz:(DataW.weightsEach Tryz.prog (Tryz.f5.params.toList ++ Rows.topEventsSpec.plain.varTypes Tryz.prog) (ds ++ gs)).all (·≤reachBytes)=true:=hsz0
 have hval:∀ (j:Nat) t v,Tryz.f5.params[j]? = some t→args[j]? = some v→Value.okWide Tryz.prog W .any base t v:=hval0
 have hW':=hW
 obtain⟨p,q,hA0,hV,rfl,hfz,hnd⟩:=hW
 have hA:DataW.TrodAll enc Tryz.prog W 0 (fun _=>true) true Tryz.f5.params.toList args.toList ds p:=hA0
 rw [Tryz.params5] at hA hval hsz
 obtain⟨v0,vs0,d0,ds0,p0,q0,hargs,rfl,rfl,h0,r0⟩:=trodAll_cons hA
 obtain⟨v1,vs1,d1,ds1,p1,q1,rfl,rfl,rfl,h1,r1⟩:=trodAll_cons r0
 obtain⟨rfl,rfl,rfl⟩:=trodAll_nil r1
 obtain rfl:args=#[v0,v1]:=by cases args;simp_all
 obtain⟨rfl,rfl⟩:=trodVars_none hV
 have k0:=h0
 have lt0:∀ x∈p0,x.block < W.heap.size:=by obtain⟨m,hm⟩:=k0;exact DataW.trod_lt m _ _ _ hm
 obtain⟨x0_0,w0⟩:=open_rawsR (hval 0 22 v0 rfl rfl) h0 (fits_at hsz (j:=0) rfl rfl)
 have k1:=h1
 have lt1:∀ x∈p1,x.block < W.heap.size:=by obtain⟨m,hm⟩:=k1;exact DataW.trod_lt m _ _ _ hm
 obtain⟨a1,rfl,rfl,rfl,w1⟩:=open_int Tryz.underlying3 (hval 1 3 v1 rfl rfl) h1
 clear hA0 hval0
 refine (walk W (tab_of_laid hL) v0 x0_0 w0 a1 (Go.bounds_i64 w1)).mono fun e W' ⟨he,bel⟩=>?_
 subst he
 exact⟨_,rfl,_,_,_,[],_,[],hW',trodAll_mk1 (shut_bool Tryz.underlying4 _),(trodAll_cons_mk (Below.trod Facts.laidOut (by kernel_rfl) (of_decide_eq_true (by kernel_rfl)) k0 bel lt0) (trodAll_cons_mk (Below.trod Facts.laidOut (by kernel_rfl) (of_decide_eq_true (by kernel_rfl)) k1 bel lt1) trodAll_mk0)),rfl,bel.frame _,fun h=>by cases h⟩
theorem closed:joinedFacts Tryz.prog 5 Tryz.f5 Rows.topEventsSpec Rows.topEventsRow=true:=by
 unfold joinedFacts
 rw [Facts.enters,Facts.lifts,Facts.made]
 kernel_rfl
theorem over:Rows.topEventsRow.holds Tryz.pinned (OpenSpec.ofChange Rows.topEventsSpec):=
 OpenClaim.holds_of_wide 5 Tryz.f5 rfl rfl rfl rfl rfl rfl rfl ⟨rfl,rfl,rfl,rfl,rfl⟩ rfl rfl rfl rfl rfl (by kernel_rfl) Tryz.func5 closed
  (of_decide_eq_true (by kernel_rfl)) (by unfold Func.isWrapper;first | (rw [if_pos (by decide +kernel)];kernel_rfl) | (rw [if_neg (by decide +kernel)];exact⟨rfl,rfl⟩))
  (fun os started H enc _=>lifted os started H enc)
theorem proved:Rows.TopEventsCardSaid:=
 Claim7.holds_tied_plain_at .later [] [.data] true (true, "314ad316157752a439b5dcc8cede09b0c626e6bcd4393a3f4396cf6f98509159") false over (fun _ h => by cases h) (by kernel_rfl) (fun _ h => by cases h) topEvents_row_tie rfl ⟨rfl, rfl⟩ (by kernel_rfl) rfl
  (fun f fn hf hfn=>by
   obtain rfl : f = 5 := Option.some.inj ((show Tryz.prog.funcNamed "hourglass/hourglasstop.TopEvents" = some 5 by kernel_rfl).symm.trans hf) |>.symm
   obtain rfl:fn=Tryz.f5:=(Option.some.inj (Tryz.func5.symm.trans hfn)).symm
   exact⟨by kernel_rfl,fun j t ht=>by
    rw [Tryz.params5] at ht
    have hm:t∈[22,3]:=by simpa using Array.mem_of_getElem? ht
    have hall:([22,3].all fun u=>!Tryz.prog.wantsStandIn u)=true:=by kernel_rfl
    exact (show Tryz.prog.wantsStandIn t=false by simpa using List.all_eq_true.1 hall t hm)⟩)
  (by kernel_rfl)
#print axioms proved
end Go.Proofs.YtkahciebbnhobaaGreatDoor.lTopEvents
