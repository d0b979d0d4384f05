/- Several texts joined, each with its own heading in the notes: A space is dropped. A space is forked. A new space; a space's words. Blocks of the caller's that a deck and its spaces leave as they are: they stand beside the host's own. No condition beyond those of each row. -/
import Derived.Test.YtflonfcemlfbdaaDoorYHv
import Derived.Deep.LoopGhost
import Derived.Handy
import Derived.StillTailTactics
import Derived.Deep.RegionWith
import Derived.Deep.RegionLaw
import Derived.Deep.CutBlock
import Derived.Deep.CutRange
import Derived.Deep.RegionHeld3
import Derived.Test.YtflonfcemlfbdaaDoorYRl
namespace Go.Proofs.YtflonfcemlfbdaaDoor
open Go Go.RowKit Go.ChangeShapes Go.WideShapes Go.Deep
set_option maxHeartbeats 8000000
set_option maxRecDepth 100000
set_option linter.unusedVariables false
attribute [local go_sem ↓] Go.wp_at_zero Go.wp_at_succ
def Since(w:World)(F:Nat→Prop)(rs:List (List Int))(zs:List Int)(ad ar:Option Addr)(cd cr:Nat)(vs:List Value):Prop:=∀g,FrB (.slice ad rs.length cd) (.slice ar zs.length cr) vs g→F g∨w.heap.size≤g
def zlb(hb N:Nat)(rest:List (List Int))(F:Nat→Prop)(rs0:List (List Int))(w:World)(sb:Nat)(fl:Int)(w':World):Prop:=∃rs zs ad ar cd cr vs,HoS hb N rest w' rs zs ad ar cd cr vs∧rest.map (memP rs)=rest.map (memP rs0)∧OutF (fun g=>g=sb∨F g) w w'∧Since w F rs zs ad ar cd cr vs∧SpcS sb hb (List.replicate 16 (-1)) fl w'
theorem zc2{pg:List Int}{q:Nat}(hq:q<16){z:Int}(hz:pg[q]?=some z)(w:World):(Instr.index 82 (.agg (pg.map (Value.int .i64)).toArray) (.int .i64 q)).run Tryd.prog w=.ok (.int .i64 z) w:=by
 simp[Instr.index,go_sem,hq,hz]
theorem HoS.drop1{hb N:Nat}{rest:List (List Int)}{w:World}{rs:List (List Int)}{zs:List Int}{ad ar:Option Addr}{cd cr:Nat}{vs:List Value}{pgq:List Int}{q n:Nat}(h:HoS hb N (pgq::rest) w rs zs ad ar cd cr vs)(hq:q<16)(he:pgq.getD q (-1)=n)(hn:n<zs.length):∃rs2 zs2,(∀W,Below w.heap.size w W→Calls Tryd.prog 54 #[.agg #[.slice ad rs.length cd,.slice ar zs.length cr],.int .i64 (n:Int)] W (zhz W rs2 zs2))∧HOk rs2 zs2 (pgq.set q (-1)::rest)∧rest.map (memP rs2)=rest.map (memP rs)∧zs2.length=zs.length:=by
 have hd:=h.ok.drop (i:=0) (by simp) hq he hn rfl
 have hl:pgq.length=16:=h.ok.len pgq (List.mem_cons_self ..)
 have hm:(n:Int)∈pgq:=by rw[←he];exact zaO (by omega) _
 have hc:=zbu (sps:=pgq::rest) (List.mem_cons_self ..) hm
 have hrf:=h.ok.ref n hn
 have hk:Kn zs n:=⟨by omega,by omega,by rw[Int.toNat_natCast];omega⟩
 have hrd:=fun (W:World) (hb:Below w.heap.size w W)=>(h.host.own.reads h.ok.bd).to hb.size (zae hb)
 by_cases h1:zs.getD n 0=1
 ·exact⟨rs.set n [],zs.set n 0,fun W hb=>(zfL _ rs zs n _ W (hrd W hb) h.ok.ok hk rfl).2 h1,(hd.1 h1).1,zcl (pg:=pgq) (fun q hq h0=>(hd.1 h1).2 q hq h0),by simp⟩
 ·exact⟨rs,zs.set n (zs.getD n 0-1),fun W hb=>(zfL _ rs zs n _ W (hrd W hb) h.ok.ok hk rfl).1 h1,hd.2 h1,rfl,by simp⟩
theorem zbR{sb hb:Nat}{wr wq w2 w3 w4:World}{rs2:List (List Int)}{zs2:List Int}{ad1 ar1 ad2 ar2:Option Addr}{cd1 cr1 cd2 cr2 n1 n2:Nat}{vs2:List Value}{pg:List Int}{fl:Int}(hq:Below wr.heap.size wr wq)(ho:FrOwn wq.heap.size w2 (.slice ad2 rs2.length cd2) (.slice ar2 zs2.length cr2) rs2 zs2 vs2)(hb2:Below wq.heap.size wq w2)(hx:w2.heap[hb]?=some (.cells #[.slice ad1 n1 cd1,.slice ar1 n2 cr1] 64 (0,0)))(hs:SpcS sb hb pg fl w2)(e1:w3=w2.setCell ⟨hb,0,none⟩ (.slice ad2 rs2.length cd2))(e2:w4=w3.setCell ⟨hb,1,none⟩ (.slice ar2 zs2.length cr2)):∃(ad2 ar2:Option Addr) (cd2 cr2:Nat) (vs2:List Value),Hid (w4.heap[hb]?=some (.cells #[.slice ad2 rs2.length cd2,.slice ar2 zs2.length cr2] 64 (0,0)))∧Hid (FrOwn wr.heap.size w4 (.slice ad2 rs2.length cd2) (.slice ar2 zs2.length cr2) rs2 zs2 vs2)∧Hid (SpcS sb hb pg fl w4)∧Hid (OutF (fun g=>g=hb) wr w4):=by
 have hne:sb≠hb:=fun e=>by unfold SpcS at hs;rw[e,hx] at hs;injection hs with hs;injection hs with _ h2;exact absurd h2 (by decide)
 have hw:=hq.trans (hb2.mono hq.size)
 have x1:w3.heap[hb]?=some (.cells #[.slice ad2 rs2.length cd2,.slice ar1 n2 cr1] 64 (0,0)):=by rw[e1];exact zaf hx _
 have x2:w4.heap[hb]?=some (.cells #[.slice ad2 rs2.length cd2,.slice ar2 zs2.length cr2] 64 (0,0)):=by rw[e2];exact zaf x1 _
 have f1:FrOwn wr.heap.size w3 (.slice ad2 rs2.length cd2) (.slice ar2 zs2.length cr2) rs2 zs2 vs2:=by rw[e1];exact(ho.base hq.size).set hx (by decide) (by decide)
 have f2:FrOwn wr.heap.size w4 (.slice ad2 rs2.length cd2) (.slice ar2 zs2.length cr2) rs2 zs2 vs2:=by rw[e2];exact f1.set x1 (by decide) (by decide)
 have s1:SpcS sb hb pg fl w3:=by rw[e1];exact zah hs hne _
 have s2:SpcS sb hb pg fl w4:=by rw[e2];exact zah s1 hne _
 refine⟨ad2,ar2,cd2,cr2,vs2,Lib.hid x2,Lib.hid f2,Lib.hid s2,Lib.hid ?_⟩
 rw[e2,e1]
 exact((OutF.of hw (fun g=>g=hb)).setCell (Or.inl rfl) _).setCell (Or.inl rfl) _
theorem zgu{sb hb N:Nat}{rest:List (List Int)}{w:World}{rs:List (List Int)}{zs:List Int}{ad ar:Option Addr}{cd cr:Nat}{vs:List Value}{pg:List Int}{fl:Int}(h:HoS hb N (pg::rest) w rs zs ad ar cd cr vs)(hs:SpcS sb hb pg fl w):Calls Tryd.prog 32 #[.pointer (some ⟨sb,0,none⟩)] w fun e w'=>e=.returned (.tuple #[])∧zlb hb N rest (HoF hb rs zs ad ar cd cr vs) rs w sb fl w':=by
 have HH:=Lib.hid h
 have HS:=Lib.hid hs
 have hl:pg.length=16:=h.ok.len pg (List.mem_cons_self ..)
 have l1:=zaG hs
 have HPA:=Lib.hid (zeo hl)
 have c0:w.cell? ⟨sb,1,none⟩=some (.int .i64 (pg.getD 0 (-1))):=zap hs hl (p:=0) (by omega)
 have c1:w.cell? ⟨sb,2,none⟩=some (.int .i64 (pg.getD 1 (-1))):=zap hs hl (p:=1) (by omega)
 have c2:w.cell? ⟨sb,3,none⟩=some (.int .i64 (pg.getD 2 (-1))):=zap hs hl (p:=2) (by omega)
 have c3:w.cell? ⟨sb,4,none⟩=some (.int .i64 (pg.getD 3 (-1))):=zap hs hl (p:=3) (by omega)
 have c4:w.cell? ⟨sb,5,none⟩=some (.int .i64 (pg.getD 4 (-1))):=zap hs hl (p:=4) (by omega)
 have c5:w.cell? ⟨sb,6,none⟩=some (.int .i64 (pg.getD 5 (-1))):=zap hs hl (p:=5) (by omega)
 have c6:w.cell? ⟨sb,7,none⟩=some (.int .i64 (pg.getD 6 (-1))):=zap hs hl (p:=6) (by omega)
 have c7:w.cell? ⟨sb,8,none⟩=some (.int .i64 (pg.getD 7 (-1))):=zap hs hl (p:=7) (by omega)
 have c8:w.cell? ⟨sb,9,none⟩=some (.int .i64 (pg.getD 8 (-1))):=zap hs hl (p:=8) (by omega)
 have c9:w.cell? ⟨sb,10,none⟩=some (.int .i64 (pg.getD 9 (-1))):=zap hs hl (p:=9) (by omega)
 have c10:w.cell? ⟨sb,11,none⟩=some (.int .i64 (pg.getD 10 (-1))):=zap hs hl (p:=10) (by omega)
 have c11:w.cell? ⟨sb,12,none⟩=some (.int .i64 (pg.getD 11 (-1))):=zap hs hl (p:=11) (by omega)
 have c12:w.cell? ⟨sb,13,none⟩=some (.int .i64 (pg.getD 12 (-1))):=zap hs hl (p:=12) (by omega)
 have c13:w.cell? ⟨sb,14,none⟩=some (.int .i64 (pg.getD 13 (-1))):=zap hs hl (p:=13) (by omega)
 have c14:w.cell? ⟨sb,15,none⟩=some (.int .i64 (pg.getD 14 (-1))):=zap hs hl (p:=14) (by omega)
 have c15:w.cell? ⟨sb,16,none⟩=some (.int .i64 (pg.getD 15 (-1))):=zap hs hl (p:=15) (by omega)
 obtain⟨z0,hz0⟩:∃z,pg.getD 0 (-1)=z:=⟨_,rfl⟩
 rw[hz0] at c0 HPA
 clear hz0
 obtain⟨z1,hz1⟩:∃z,pg.getD 1 (-1)=z:=⟨_,rfl⟩
 rw[hz1] at c1 HPA
 clear hz1
 obtain⟨z2,hz2⟩:∃z,pg.getD 2 (-1)=z:=⟨_,rfl⟩
 rw[hz2] at c2 HPA
 clear hz2
 obtain⟨z3,hz3⟩:∃z,pg.getD 3 (-1)=z:=⟨_,rfl⟩
 rw[hz3] at c3 HPA
 clear hz3
 obtain⟨z4,hz4⟩:∃z,pg.getD 4 (-1)=z:=⟨_,rfl⟩
 rw[hz4] at c4 HPA
 clear hz4
 obtain⟨z5,hz5⟩:∃z,pg.getD 5 (-1)=z:=⟨_,rfl⟩
 rw[hz5] at c5 HPA
 clear hz5
 obtain⟨z6,hz6⟩:∃z,pg.getD 6 (-1)=z:=⟨_,rfl⟩
 rw[hz6] at c6 HPA
 clear hz6
 obtain⟨z7,hz7⟩:∃z,pg.getD 7 (-1)=z:=⟨_,rfl⟩
 rw[hz7] at c7 HPA
 clear hz7
 obtain⟨z8,hz8⟩:∃z,pg.getD 8 (-1)=z:=⟨_,rfl⟩
 rw[hz8] at c8 HPA
 clear hz8
 obtain⟨z9,hz9⟩:∃z,pg.getD 9 (-1)=z:=⟨_,rfl⟩
 rw[hz9] at c9 HPA
 clear hz9
 obtain⟨z10,hz10⟩:∃z,pg.getD 10 (-1)=z:=⟨_,rfl⟩
 rw[hz10] at c10 HPA
 clear hz10
 obtain⟨z11,hz11⟩:∃z,pg.getD 11 (-1)=z:=⟨_,rfl⟩
 rw[hz11] at c11 HPA
 clear hz11
 obtain⟨z12,hz12⟩:∃z,pg.getD 12 (-1)=z:=⟨_,rfl⟩
 rw[hz12] at c12 HPA
 clear hz12
 obtain⟨z13,hz13⟩:∃z,pg.getD 13 (-1)=z:=⟨_,rfl⟩
 rw[hz13] at c13 HPA
 clear hz13
 obtain⟨z14,hz14⟩:∃z,pg.getD 14 (-1)=z:=⟨_,rfl⟩
 rw[hz14] at c14 HPA
 clear hz14
 obtain⟨z15,hz15⟩:∃z,pg.getD 15 (-1)=z:=⟨_,rfl⟩
 rw[hz15] at c15 HPA
 clear hz15
 clear h hs
 go_enter Tryd.func32,Tryd.ntmps32
 go_upto_block 0 with fail
 rw[HPA.out]
 clear c0 c1 c2 c3 c4 c5 c6 c7 c8 c9 c10 c11 c12 c13 c14 c15
 go_wp2_with fail
 go_loopg [2,3,8] 16 (fun gh s2 s3 s8 wr =>∃q:Nat,q≤16∧gh=16-q∧s8=.int .i64 q∧∃rs1 zs1 ad1 ar1 cd1 cr1 vs1,Hid (HoS hb N (sufPg pg q::rest) wr rs1 zs1 ad1 ar1 cd1 cr1 vs1)∧Hid (rest.map (memP rs1)=rest.map (memP rs))∧Hid (OutF (fun g=>g=sb∨HoF hb rs zs ad ar cd cr vs g) w wr)∧Hid (Since w (HoF hb rs zs ad ar cd cr vs) rs1 zs1 ad1 ar1 cd1 cr1 vs1)∧Hid (SpcS sb hb (sufPg pg q) fl wr))
 case atStart=>exact⟨0,Nat.zero_le _,by omega,rfl,rs,zs,ad,ar,cd,cr,vs,HH,Lib.hid rfl,Lib.hid (OutF.refl _ _),Lib.hid (fun g hg=>Or.inl (Or.inr hg)),HS⟩
 case round=>
  obtain⟨q,hq,rfl,rfl,rs1,zs1,ad1,ar1,cd1,cr1,vs1,HO1,HM1,HF1,HB1,HS1⟩:=hrel
  by_cases hlt:q<16
  ·
   have hq1:(q:Int)<16:=by omega
   have hq0:(0:Int)≤(q:Int):=by omega
   obtain⟨z,hz⟩:∃z,pg.getD q (-1)=z:=⟨_,rfl⟩
   have HZ:=Lib.hid hz
   have hgz:pg[q]?=some z:=by rw[←hz,List.getElem?_eq_getElem (by omega),zau (by omega)]
   clear hz
   have hix:=zc2 (q:=q) hlt hgz wr
   have hqw:IntKind.i64.wrap ((q:Int)+1)=(q:Int)+1:=IntWalk.i64_in _ (by omega)
   have hlq:(sufPg pg q).length=16:=zc1 hl (by omega)
   have HAT:=Lib.hid (show (sufPg pg q).getD q (-1)=z from by rw[ziU];exact HZ.out)
   have HST:=Lib.hid (zdn hl hlt)
   have hen:=HO1.out.ok.entry (i:=0) (p:=q) (by simp) hlt
   have hen2:z = -1∨∃n:Nat,z=n∧n<zs1.length:=by
    have h2:=hen.2
    have e0:((sufPg pg q::rest).getD 0 []).getD q (-1)=z:=HAT.out
    rw[e0] at h2
    rcases h2 with e|⟨e1,e2⟩
    ·exact Or.inl e
    ·exact Or.inr ⟨z.toNat,by omega,by omega⟩
   clear hen hgz
   rcases hen2 with rfl|⟨n,rfl,hn⟩
   ·
    have HSM:=Lib.hid (show sufPg pg (q+1)=sufPg pg q from by rw[HST.out];exact zbw HAT.out (by omega))
    go_wp2_with fail
    go_roundg (16-(q+1))
    case measure=>omega
    case rel=>exact⟨q+1,by omega,rfl,by go_num,rs1,zs1,ad1,ar1,cd1,cr1,vs1,by rw[HSM.out];exact HO1,HM1,HF1,HB1,by rw[HSM.out];exact HS1⟩
   ·
    have hdr:=HO1.out.drop1 hlt HAT.out hn
    obtain⟨rs2,zs2,HC,hok2,hm2,hz2⟩:=hdr
    have HCC:=Lib.hid HC
    have HOK2:=Lib.hid hok2
    have HM2:=Lib.hid hm2
    have HZ2:=Lib.hid hz2
    clear HC hok2 hm2 hz2 hn
    go_upto_region 4 with fail
    clear hix
    have HX:=Lib.hid HO1.out.host.box
    have s0:=zaW HS1.out
    have ls:=zaG HS1.out
    have b0:wr.cell? ⟨hb,0,none⟩=some (.slice ad1 rs1.length cd1):=zaa HX.out 0
    have b1:wr.cell? ⟨hb,1,none⟩=some (.slice ar1 zs1.length cr1):=zaa HX.out 1
    have lh:hb<wr.heap.size:=(Array.getElem?_eq_some_iff.1 HX.out).1
    have hne:¬sb=hb:=fun e=>by have h:=HS1.out;unfold SpcS at h;rw[e,HX.out] at h;injection h with h;injection h with _ h2;exact absurd h2 (by decide)
    go_cut [] from 14 to 31 (fun wx =>∃(ad2 ar2:Option Addr) (cd2 cr2:Nat) (vs2:List Value),Hid (wx.heap[hb]?=some (.cells #[.slice ad2 rs2.length cd2,.slice ar2 zs2.length cr2] 64 (0,0)))∧Hid (FrOwn wr.heap.size wx (.slice ad2 rs2.length cd2) (.slice ar2 zs2.length cr2) rs2 zs2 vs2)∧Hid (SpcS sb hb (sufPg pg q) fl wx)∧Hid (OutF (fun g=>g=hb) wr wx))
    case first=>
     go_region_with ((go_at_call 54;(with_reducible refine(HCC.out _ ?_).mono ?_);(first|exact Below.refl _ _|exact below_drewN (Below.refl _ _) 1);rintro e w2 ⟨ad2,cd2,ar2,cr2,vs2,rfl,hown,hb2⟩;have HOWN:=Lib.hid hown;have HB2:=Lib.hid hb2;have hx2:=zac hb2 HX.out lh;have hp2:SpcS sb hb (sufPg pg q) fl w2:=zac hb2 HS1.out ls;have HX2:=Lib.hid hx2;have HP2:=Lib.hid hp2;have s0:=zaW hp2;have ls2:=zaG hp2;have k0:w2.cell? ⟨hb,0,none⟩=some (.slice ad1 rs1.length cd1):=zaa hx2 0;have k1:w2.cell? ⟨hb,1,none⟩=some (.slice ar1 zs1.length cr1):=zaa hx2 1;have f0:=zab hx2 0;have f1:=zab hx2 1;have lh2:hb<w2.heap.size:=(Array.getElem?_eq_some_iff.1 hx2).1;clear hown hb2 hx2 hp2))
     all_goals (go_wp2_with fail;go_meet)
     all_goals (case rel=>first|exact zbR (Below.refl _ _) HOWN.out HB2.out HX2.out HP2.out rfl rfl|exact zbR (below_drewN (Below.refl _ _) 1) HOWN.out HB2.out HX2.out HP2.out rfl rfl)
    case rest=>
     obtain⟨ad2,ar2,cd2,cr2,vs2,HX2,HOW2,HP2,HF2⟩:=hcut
     clear s0 ls b0 b1 lh HX
     have c1:=zap HP2.out hlq hlt
     have g1:=zab HP2.out (1+q)
     have l2:=zaG HP2.out
     go_wp2_with fail
     go_roundg (16-(q+1))
     case measure=>omega
     case rel=>
      have hsz:=HF1.out.size
      have hs2:SpcS sb hb ((sufPg pg q).set q (-1)) fl (wc.setCell ⟨sb,1+q,none⟩ (.int .i64 (-1))):=ze3 HP2.out hlq hlt (-1)
      have hne2:hb≠sb:=fun e=>hne e.symm
      have hfo:FrOwn wr.heap.size (wc.setCell ⟨sb,1+q,none⟩ (.int .i64 (-1))) (.slice ad2 rs2.length cd2) (.slice ar2 zs2.length cr2) rs2 zs2 vs2:=HOW2.out.set HP2.out (by decide) (by decide)
      refine⟨q+1,by omega,rfl,by go_num,rs2,zs2,ad2,ar2,cd2,cr2,vs2,Lib.hid ⟨⟨zah HX2.out hne2 _,hfo.base (Nat.zero_le _)⟩,by rw[HST.out];exact HOK2.out,by rw[HZ2.out];exact HO1.out.n⟩,Lib.hid (HM2.out.trans HM1.out),Lib.hid ?_,Lib.hid (fun g hg=>Or.inr (by have:=(hfo.frlt g hg).1;omega)),Lib.hid (by rw[HST.out];exact hs2)⟩
      refine(HF1.out.trans HF2.out (fun g e=>Or.inl (Or.inr (Or.inl e)))).setCell (Or.inl (Or.inl rfl)) _
  ·
   obtain rfl:q=16:=by omega
   have HFU:=Lib.hid (zdm hl)
   clear hlt
   go_wp2_with fail
   first|go_end0|refine bodyPost_ret (results_none rfl _ _ _) rfl ?_
   refine⟨rfl,rs1,zs1,ad1,ar1,cd1,cr1,vs1,?_,HM1.out,HF1.out,HB1.out,by rw[←HFU.out];exact HS1.out⟩
   have h:=HO1.out
   rw[HFU.out] at h
   exact⟨h.host,h.ok.gone,h.n⟩
theorem HoS.share1{hb N:Nat}{rest:List (List Int)}{w:World}{rs:List (List Int)}{zs:List Int}{ad ar:Option Addr}{cd cr:Nat}{vs:List Value}{pgq pg:List Int}{q n:Nat}(h:HoS hb N (pgq::rest) w rs zs ad ar cd cr vs)(hm:pg∈rest)(hl:rest.length≤11)(hq:q<16)(he:pgq.getD q (-1) = -1)(hp:pg.getD q (-1)=n):∃zs2,(∀W,Below w.heap.size w W→Calls Tryd.prog 57 #[.agg #[.slice ad rs.length cd,.slice ar zs.length cr],.int .i64 (n:Int)] W (zhz W rs zs2))∧HOk rs zs2 (pgq.set q n::rest)∧zs2.length=zs.length:=by
 have hlp:pg.length=16:=h.ok.len pg (List.mem_cons_of_mem _ hm)
 have hmp:(n:Int)∈pg:=by rw[←hp];exact zaO (by omega) _
 have hn:n<zs.length:=by rcases h.ok.rng pg (List.mem_cons_of_mem _ hm) _ hmp with e|e<;>omega
 have hc:1≤cntP rest n:=zbu hm hmp
 have hrf:=h.ok.ref n hn
 have hcl:=zkx (n:=n) h.ok.len
 have hcc:cntP (pgq::rest) n=pgq.count (n:Int)+cntP rest n:=rfl
 have hk:Kn zs n:=⟨by omega,by omega,by rw[Int.toNat_natCast];omega⟩
 rw[List.length_cons] at hcl
 have hz:zs.getD n 0<200:=by omega
 refine⟨zs.set n (zs.getD n 0+1),fun W hb=>(zhA _ rs zs n _ W ((h.host.own.reads h.ok.bd).to hb.size (zae hb)) h.ok.ok hk rfl).2 (by omega),h.ok.share (i:=0) (by simp) hq he hn rfl (by omega) hz,by simp⟩
theorem ze6{sb hb:Nat}{wr w2 w3 w4 w5:World}{rs2:List (List Int)}{zs2:List Int}{ad1 ar1 ad2 ar2:Option Addr}{cd1 cr1 cd2 cr2 n1 n2:Nat}{vs2:List Value}{pg:List Int}{fl:Int}(ho:FrOwn wr.heap.size w2 (.slice ad2 rs2.length cd2) (.slice ar2 zs2.length cr2) rs2 zs2 vs2)(hb2:Below wr.heap.size wr w2)(hx:w2.heap[hb]?=some (.cells #[.slice ad1 n1 cd1,.slice ar1 n2 cr1] 64 (0,0)))(hs:SpcS sb hb pg fl w2)(e1:w3=w2.setCell ⟨hb,0,none⟩ (.slice ad2 rs2.length cd2))(e2:w4=w3.setCell ⟨hb,1,none⟩ (.slice ar2 zs2.length cr2))(e3:w5=w4.drew):∃(ad2 ar2:Option Addr) (cd2 cr2:Nat) (vs2:List Value),Hid (w5.heap[hb]?=some (.cells #[.slice ad2 rs2.length cd2,.slice ar2 zs2.length cr2] 64 (0,0)))∧Hid (FrOwn wr.heap.size w5 (.slice ad2 rs2.length cd2) (.slice ar2 zs2.length cr2) rs2 zs2 vs2)∧Hid (SpcS sb hb pg fl w5)∧Hid (OutF (fun g=>g=hb) wr w5):=by
 obtain⟨ad3,ar3,cd3,cr3,vs3,h1,h2,h3,h4⟩:=zbR (Below.refl _ _) ho hb2 hx hs e1 e2
 rw[e3]
 exact⟨ad3,ar3,cd3,cr3,vs3,Lib.hid h1.out,Lib.hid (h2.out.keep (fun g _=>rfl)),Lib.hid h3.out,Lib.hid (h4.out.drewN 1)⟩
theorem zj0{hb:Nat}{pg:List Int}{fl:Int}{v0 v1 v2 v3 v4 v5 v6 v7 v8 v9 v10 v11 v12 v13 v14 v15:Value}(h:(#[v0,v1,v2,v3,v4,v5,v6,v7,v8,v9,v10,v11,v12,v13,v14,v15]:Array Value)=(pg.map (Value.int .i64)).toArray):(#[.pointer (some ⟨hb,0,none⟩),v0,v1,v2,v3,v4,v5,v6,v7,v8,v9,v10,v11,v12,v13,v14,v15,.int .i64 fl]:Array Value)=(spL hb pg fl).toArray:=by
 have e:[v0,v1,v2,v3,v4,v5,v6,v7,v8,v9,v10,v11,v12,v13,v14,v15]=pg.map (Value.int .i64):=congrArg Array.toList h
 unfold spL
 rw[←e]
 rfl
def zlc(hb N:Nat)(pg:List Int)(rest:List (List Int))(F:Nat→Prop)(rs:List (List Int))(w:World)(nb:Nat)(w':World):Prop:=∃zs ad ar cd cr vs,HoS hb N (pg::rest) w' rs zs ad ar cd cr vs∧OutF F w w'∧Since w F rs zs ad ar cd cr vs∧SpcS nb hb pg 0 w'∧w.heap.size≤nb
theorem zgv{sb hb N:Nat}{rest:List (List Int)}{w:World}{rs:List (List Int)}{zs:List Int}{ad ar:Option Addr}{cd cr:Nat}{vs:List Value}{pg:List Int}{fl:Int}(h:HoS hb N rest w rs zs ad ar cd cr vs)(hm:pg∈rest)(hlr:rest.length≤11)(hs:SpcS sb hb pg fl w):Calls Tryd.prog 35 #[.pointer (some ⟨sb,0,none⟩)] w fun e w' =>∃nb,e=.returned (.tuple #[.pointer (some ⟨nb,0,none⟩),.int .i64 0])∧zlc hb N pg rest (HoF hb rs zs ad ar cd cr vs) rs w nb w':=by
 have HH:=Lib.hid h
 have HS:=Lib.hid hs
 have HMM:=Lib.hid hm
 have HLR:=Lib.hid hlr
 have hl:pg.length=16:=h.ok.len pg hm
 have l1:=zaG hs
 have c0:=zaW hs
 have HPA:=Lib.hid (zeo hl)
 have HSL:Hid (spL hb pg 0=.pointer (some ⟨hb,0,none⟩)::(pg.map (Value.int .i64)++[.int .i64 0])):=Lib.hid rfl
 have c1:w.cell? ⟨sb,1,none⟩=some (.int .i64 (pg.getD 0 (-1))):=zap hs hl (p:=0) (by omega)
 have c2:w.cell? ⟨sb,2,none⟩=some (.int .i64 (pg.getD 1 (-1))):=zap hs hl (p:=1) (by omega)
 have c3:w.cell? ⟨sb,3,none⟩=some (.int .i64 (pg.getD 2 (-1))):=zap hs hl (p:=2) (by omega)
 have c4:w.cell? ⟨sb,4,none⟩=some (.int .i64 (pg.getD 3 (-1))):=zap hs hl (p:=3) (by omega)
 have c5:w.cell? ⟨sb,5,none⟩=some (.int .i64 (pg.getD 4 (-1))):=zap hs hl (p:=4) (by omega)
 have c6:w.cell? ⟨sb,6,none⟩=some (.int .i64 (pg.getD 5 (-1))):=zap hs hl (p:=5) (by omega)
 have c7:w.cell? ⟨sb,7,none⟩=some (.int .i64 (pg.getD 6 (-1))):=zap hs hl (p:=6) (by omega)
 have c8:w.cell? ⟨sb,8,none⟩=some (.int .i64 (pg.getD 7 (-1))):=zap hs hl (p:=7) (by omega)
 have c9:w.cell? ⟨sb,9,none⟩=some (.int .i64 (pg.getD 8 (-1))):=zap hs hl (p:=8) (by omega)
 have c10:w.cell? ⟨sb,10,none⟩=some (.int .i64 (pg.getD 9 (-1))):=zap hs hl (p:=9) (by omega)
 have c11:w.cell? ⟨sb,11,none⟩=some (.int .i64 (pg.getD 10 (-1))):=zap hs hl (p:=10) (by omega)
 have c12:w.cell? ⟨sb,12,none⟩=some (.int .i64 (pg.getD 11 (-1))):=zap hs hl (p:=11) (by omega)
 have c13:w.cell? ⟨sb,13,none⟩=some (.int .i64 (pg.getD 12 (-1))):=zap hs hl (p:=12) (by omega)
 have c14:w.cell? ⟨sb,14,none⟩=some (.int .i64 (pg.getD 13 (-1))):=zap hs hl (p:=13) (by omega)
 have c15:w.cell? ⟨sb,15,none⟩=some (.int .i64 (pg.getD 14 (-1))):=zap hs hl (p:=14) (by omega)
 have c16:w.cell? ⟨sb,16,none⟩=some (.int .i64 (pg.getD 15 (-1))):=zap hs hl (p:=15) (by omega)
 obtain⟨z0,hz0⟩:∃z,pg.getD 0 (-1)=z:=⟨_,rfl⟩
 rw[hz0] at c1 HPA
 clear hz0
 obtain⟨z1,hz1⟩:∃z,pg.getD 1 (-1)=z:=⟨_,rfl⟩
 rw[hz1] at c2 HPA
 clear hz1
 obtain⟨z2,hz2⟩:∃z,pg.getD 2 (-1)=z:=⟨_,rfl⟩
 rw[hz2] at c3 HPA
 clear hz2
 obtain⟨z3,hz3⟩:∃z,pg.getD 3 (-1)=z:=⟨_,rfl⟩
 rw[hz3] at c4 HPA
 clear hz3
 obtain⟨z4,hz4⟩:∃z,pg.getD 4 (-1)=z:=⟨_,rfl⟩
 rw[hz4] at c5 HPA
 clear hz4
 obtain⟨z5,hz5⟩:∃z,pg.getD 5 (-1)=z:=⟨_,rfl⟩
 rw[hz5] at c6 HPA
 clear hz5
 obtain⟨z6,hz6⟩:∃z,pg.getD 6 (-1)=z:=⟨_,rfl⟩
 rw[hz6] at c7 HPA
 clear hz6
 obtain⟨z7,hz7⟩:∃z,pg.getD 7 (-1)=z:=⟨_,rfl⟩
 rw[hz7] at c8 HPA
 clear hz7
 obtain⟨z8,hz8⟩:∃z,pg.getD 8 (-1)=z:=⟨_,rfl⟩
 rw[hz8] at c9 HPA
 clear hz8
 obtain⟨z9,hz9⟩:∃z,pg.getD 9 (-1)=z:=⟨_,rfl⟩
 rw[hz9] at c10 HPA
 clear hz9
 obtain⟨z10,hz10⟩:∃z,pg.getD 10 (-1)=z:=⟨_,rfl⟩
 rw[hz10] at c11 HPA
 clear hz10
 obtain⟨z11,hz11⟩:∃z,pg.getD 11 (-1)=z:=⟨_,rfl⟩
 rw[hz11] at c12 HPA
 clear hz11
 obtain⟨z12,hz12⟩:∃z,pg.getD 12 (-1)=z:=⟨_,rfl⟩
 rw[hz12] at c13 HPA
 clear hz12
 obtain⟨z13,hz13⟩:∃z,pg.getD 13 (-1)=z:=⟨_,rfl⟩
 rw[hz13] at c14 HPA
 clear hz13
 obtain⟨z14,hz14⟩:∃z,pg.getD 14 (-1)=z:=⟨_,rfl⟩
 rw[hz14] at c15 HPA
 clear hz14
 obtain⟨z15,hz15⟩:∃z,pg.getD 15 (-1)=z:=⟨_,rfl⟩
 rw[hz15] at c16 HPA
 clear hz15
 clear h hs hm hlr
 go_enter Tryd.func35,Tryd.ntmps35
 go_upto_region 1 with fail
 go_cut [4] from 9 to 18 (fun s4 wx =>∃nb,s4=.pointer (some ⟨nb,0,none⟩)∧Hid (Below w.heap.size w wx)∧Hid (SpcS nb hb pg 0 wx)∧w.heap.size≤nb)
 case first=>
  go_region_with fail
  all_goals (go_wp2_with fail;go_meet)
  all_goals (case rel=>exact⟨_,rfl,Lib.hid (below_drewN ((Below.refl _ w).alloc (Nat.le_refl _) _) 1),Lib.hid (by unfold SpcS;rw[←zj0 HPA.out];exact alloc_at (w:=w) rfl),Nat.le_refl _⟩)
 case rest=>
 obtain⟨nb,rfl,HB1,HN1,hnb⟩:=hcut
 have HSC:=Lib.hid (show SpcS sb hb pg fl wc from zac HB1.out HS.out l1)
 have l1':=zaG HSC.out
 have d1:=(HB1.out.cell (p:=⟨sb,1,none⟩) l1).trans c1
 have d2:=(HB1.out.cell (p:=⟨sb,2,none⟩) l1).trans c2
 have d3:=(HB1.out.cell (p:=⟨sb,3,none⟩) l1).trans c3
 have d4:=(HB1.out.cell (p:=⟨sb,4,none⟩) l1).trans c4
 have d5:=(HB1.out.cell (p:=⟨sb,5,none⟩) l1).trans c5
 have d6:=(HB1.out.cell (p:=⟨sb,6,none⟩) l1).trans c6
 have d7:=(HB1.out.cell (p:=⟨sb,7,none⟩) l1).trans c7
 have d8:=(HB1.out.cell (p:=⟨sb,8,none⟩) l1).trans c8
 have d9:=(HB1.out.cell (p:=⟨sb,9,none⟩) l1).trans c9
 have d10:=(HB1.out.cell (p:=⟨sb,10,none⟩) l1).trans c10
 have d11:=(HB1.out.cell (p:=⟨sb,11,none⟩) l1).trans c11
 have d12:=(HB1.out.cell (p:=⟨sb,12,none⟩) l1).trans c12
 have d13:=(HB1.out.cell (p:=⟨sb,13,none⟩) l1).trans c13
 have d14:=(HB1.out.cell (p:=⟨sb,14,none⟩) l1).trans c14
 have d15:=(HB1.out.cell (p:=⟨sb,15,none⟩) l1).trans c15
 have d16:=(HB1.out.cell (p:=⟨sb,16,none⟩) l1).trans c16
 clear c0 c1 c2 c3 c4 c5 c6 c7 c8 c9 c10 c11 c12 c13 c14 c15 c16
 go_upto_block 0 with fail
 rw[HPA.out]
 clear l1 l1' d1 d2 d3 d4 d5 d6 d7 d8 d9 d10 d11 d12 d13 d14 d15 d16
 go_wp2_with fail
 go_loopg [6,7,8,23] 16 (fun gh s6 s7 s8 s23 wr =>∃q:Nat,q≤16∧gh=16-q∧s23=.int .i64 q∧∃zs1 ad1 ar1 cd1 cr1 vs1,Hid (HoS hb N (prePg pg q::rest) wr rs zs1 ad1 ar1 cd1 cr1 vs1)∧Hid (OutF (HoF hb rs zs ad ar cd cr vs) w wr)∧Hid (Since w (HoF hb rs zs ad ar cd cr vs) rs zs1 ad1 ar1 cd1 cr1 vs1)∧Hid (SpcS nb hb pg 0 wr)∧Hid (SpcS sb hb pg fl wr))
 case atStart=>
  refine⟨0,Nat.zero_le _,by omega,rfl,zs,ad,ar,cd,cr,vs,Lib.hid ?_,Lib.hid (OutF.of HB1.out _),Lib.hid (fun g hg=>Or.inl (Or.inr hg)),HN1,HSC⟩
  have h:=HH.out.stay (w':=wc) (fun g hg=>HB1.out.block g (HH.out.lt g hg))
  exact⟨h.host,h.ok.fresh,h.n⟩
 case round=>
  obtain⟨q,hq,rfl,rfl,zs1,ad1,ar1,cd1,cr1,vs1,HO1,HF1,HI1,HNB,HSB⟩:=hrel
  by_cases hlt:q<16
  ·
   have hq1:(q:Int)<16:=by omega
   have hq0:(0:Int)≤(q:Int):=by omega
   obtain⟨z,hz⟩:∃z,pg.getD q (-1)=z:=⟨_,rfl⟩
   have HZ:=Lib.hid hz
   have hgz:pg[q]?=some z:=by rw[←hz,List.getElem?_eq_getElem (by omega),zau (by omega)]
   have hm:z∈pg:=by rw[←hz];exact zaO (by omega) _
   clear hz
   have hix:=zc2 (q:=q) hlt hgz wr
   have hqw:IntKind.i64.wrap ((q:Int)+1)=(q:Int)+1:=IntWalk.i64_in _ (by omega)
   have hlq:(prePg pg q).length=16:=zel hl (by omega)
   have HAT:=Lib.hid (ziT hl hlt)
   have HST:=Lib.hid (show prePg pg (q+1)=(prePg pg q).set q z from by rw[zgt hl hlt,HZ.out])
   have hen2:z = -1∨∃n:Nat,z=n:=by
    rcases HH.out.ok.rng pg HMM.out z hm with e|⟨e1,e2⟩
    ·exact Or.inl e
    ·exact Or.inr ⟨z.toNat,by omega⟩
   clear hgz hm
   rcases hen2 with rfl|⟨n,rfl⟩
   ·
    have HSM:=Lib.hid (show prePg pg (q+1)=prePg pg q from by rw[HST.out];exact zbw HAT.out (by omega))
    go_wp2_with fail
    go_roundg (16-(q+1))
    case measure=>omega
    case rel=>exact⟨q+1,by omega,rfl,by go_num,zs1,ad1,ar1,cd1,cr1,vs1,by rw[HSM.out];exact HO1,HF1,HI1,HNB,HSB⟩
   ·
    obtain⟨zs2,HC,hok2,hz2⟩:=HO1.out.share1 HMM.out HLR.out hlt HAT.out HZ.out
    have HCC:=Lib.hid HC
    have HOK2:=Lib.hid hok2
    have HZ2:=Lib.hid hz2
    have hn0:¬(n:Int)<0:=by omega
    clear HC hok2 hz2
    go_upto_region 6 with fail
    clear hix
    have HX:=Lib.hid HO1.out.host.box
    have s0:=zaW HSB.out
    have ls:=zaG HSB.out
    have b0:wr.cell? ⟨hb,0,none⟩=some (.slice ad1 rs.length cd1):=zaa HX.out 0
    have b1:wr.cell? ⟨hb,1,none⟩=some (.slice ar1 zs1.length cr1):=zaa HX.out 1
    have lh:hb<wr.heap.size:=(Array.getElem?_eq_some_iff.1 HX.out).1
    have hne:¬sb=hb:=fun e=>by have h:=HSB.out;unfold SpcS at h;rw[e,HX.out] at h;injection h with h;injection h with _ h2;exact absurd h2 (by decide)
    have hne2:¬nb=hb:=fun e=>by have h:=HNB.out;unfold SpcS at h;rw[e,HX.out] at h;injection h with h;injection h with _ h2;exact absurd h2 (by decide)
    have lnb:=zaG HNB.out
    go_wp2_with fail
    refine(HCC.out _ (Below.refl _ _)).mono ?_
    rintro e w2 ⟨ad2,cd2,ar2,cr2,vs2,rfl,hown,hb2⟩
    have HOWN:=Lib.hid hown
    have HB2:=Lib.hid hb2
    have hs2:=hb2.size
    clear hown hb2 b0 b1 s0
    go_upto_region 9 with fail
    obtain⟨W3,hW3⟩:∃W3,W3=w2.alloc (.cells #[.slice ad2 rs.length cd2,.slice ar2 zs2.length cr2] 60 (0,0)):=⟨_,rfl⟩
    rw[←hW3]
    have HB3:=Lib.hid (show Below wr.heap.size wr W3 from by rw[hW3];exact HB2.out.alloc hs2 _)
    have HO3:=Lib.hid (show FrOwn wr.heap.size W3 (.slice ad2 rs.length cd2) (.slice ar2 zs2.length cr2) rs zs2 vs2 from by rw[hW3];exact zbv HOWN.out (zai _ _))
    have hfx:W3.heap[w2.heap.size]?=some (.cells #[.slice ad2 rs.length cd2,.slice ar2 zs2.length cr2] 60 (0,0)):=by rw[hW3];exact alloc_at rfl
    have hx3:=zac HB3.out HX.out lh
    have hp3:SpcS sb hb pg fl W3:=zac HB3.out HSB.out ls
    have HX3:=Lib.hid hx3
    have HP3:=Lib.hid hp3
    have s0:=zaW hp3
    have b0:W3.cell? ⟨hb,0,none⟩=some (.slice ad1 rs.length cd1):=zaa hx3 0
    have b1:W3.cell? ⟨hb,1,none⟩=some (.slice ar1 zs1.length cr1):=zaa hx3 1
    have g0:=zab hx3 0
    have g1:=zab hx3 1
    have f0:W3.cell? ⟨w2.heap.size,0,none⟩=some (.slice ad2 rs.length cd2):=zaa hfx 0
    have f1:W3.cell? ⟨w2.heap.size,1,none⟩=some (.slice ar2 zs2.length cr2):=zaa hfx 1
    have lf3:w2.heap.size<W3.heap.size:=(Array.getElem?_eq_some_iff.1 hfx).1
    have lh3:hb<W3.heap.size:=(Array.getElem?_eq_some_iff.1 hx3).1
    have ls3:=zaG hp3
    have hfh:¬w2.heap.size=hb:=by omega
    have hfs:¬w2.heap.size=sb:=by omega
    clear hW3 hx3 hp3 hfx HB2 HOWN lh hs2
    generalize w2.heap.size=fb at *
    have HFR:Hid (∀w5:World,(∃(ad3 ar3:Option Addr) (cd3 cr3:Nat) (vs3:List Value),Hid (w5.heap[hb]?=some (.cells #[.slice ad3 rs.length cd3,.slice ar3 zs2.length cr3] 64 (0,0)))∧Hid (FrOwn wr.heap.size w5 (.slice ad3 rs.length cd3) (.slice ar3 zs2.length cr3) rs zs2 vs3)∧Hid (SpcS sb hb pg fl w5)∧Hid (OutF (fun g=>g=hb) wr w5))→∃q2:Nat,q2≤16∧16-(q+1)=16-q2∧Value.int .i64 ((q:Int)+1)=.int .i64 (q2:Int)∧∃zs1 ad1 ar1 cd1 cr1 vs1,Hid (HoS hb N (prePg pg q2::rest) w5 rs zs1 ad1 ar1 cd1 cr1 vs1)∧Hid (OutF (HoF hb rs zs ad ar cd cr vs) w w5)∧Hid (Since w (HoF hb rs zs ad ar cd cr vs) rs zs1 ad1 ar1 cd1 cr1 vs1)∧Hid (SpcS nb hb pg 0 w5)∧Hid (SpcS sb hb pg fl w5)):=Lib.hid (fun w5 hcl=>by
     obtain⟨ad3,ar3,cd3,cr3,vs3,HX4,HOW4,HP4,HF4⟩:=hcl
     have hsz:=HF1.out.size
     exact⟨q+1,by omega,rfl,by go_num,zs2,ad3,ar3,cd3,cr3,vs3,Lib.hid ⟨⟨HX4.out,HOW4.out.base (Nat.zero_le _)⟩,by rw[HST.out];exact HOK2.out,by rw[HZ2.out];exact HO1.out.n⟩,Lib.hid (HF1.out.trans HF4.out (fun g e=>Or.inl (Or.inl e))),Lib.hid (fun g hg=>Or.inr (by have:=(HOW4.out.frlt g hg).1;omega)),Lib.hid (HF4.out.at HNB.out hne2),HP4⟩)
    go_region_with fail
    all_goals (go_wp2_with fail;go_roundg (16-(q+1));(case measure=>omega);(case rel=>exact HFR.out _ (by first|exact zbR (Below.refl _ _) HO3.out HB3.out HX3.out HP3.out rfl rfl|exact ze6 HO3.out HB3.out HX3.out HP3.out rfl rfl rfl)))
  ·
   obtain rfl:q=16:=by omega
   have HFU:=Lib.hid (zgs hl)
   clear hlt
   go_wp2_with fail
   go_ret2
   refine⟨nb,rfl,zs1,ad1,ar1,cd1,cr1,vs1,?_,HF1.out,HI1.out,HNB.out,hnb⟩
   have h:=HO1.out
   rw[HFU.out] at h
   exact h
theorem zgw{mem:List Int}(hl:mem.length=256){q:Nat}(hq:q<256):mem.take (q+1)++List.replicate (256-(q+1)) 0=(mem.take q++List.replicate (256-q) 0).set q (mem.getD q 0):=by
 apply List.ext_getElem?
 intro i
 rw[List.getElem?_set]
 have hln:(mem.take q++List.replicate (256-q) (0:Int)).length=256:=by rw[List.length_append,List.length_take,List.length_replicate];omega
 rw[hln]
 by_cases h1:q=i
 ·
  subst h1
  rw[if_pos rfl,if_pos hq,List.getElem?_append_left (by rw[List.length_take];omega),List.getElem?_take,if_pos (by omega),List.getElem?_eq_getElem (by omega),zau (by omega)]
 ·
  rw[if_neg h1]
  by_cases h2:i<q
  ·rw[List.getElem?_append_left (by rw[List.length_take];omega),List.getElem?_append_left (by rw[List.length_take];omega),List.getElem?_take,List.getElem?_take,if_pos (by omega),if_pos h2]
  ·
   rw[List.getElem?_append_right (by rw[List.length_take];omega),List.getElem?_append_right (by rw[List.length_take];omega),List.length_take,List.length_take,List.getElem?_replicate,List.getElem?_replicate]
   by_cases h3:i<256
   ·rw[if_pos (by omega),if_pos (by omega)]
   ·rw[if_neg (by omega),if_neg (by omega)]
theorem ze7{w:World}{b g c n:Nat}{zs:List Int}(h:w.ownsRow b 3 1 (.slice (some ⟨g,0,none⟩) n c) n (zs.map (Value.int .i64)))(hl:zs.length=n){k:Nat}(hk:k<n):w.cell? ⟨g,k,none⟩=some (.int .i64 (zs.getD k 0)):=by
 rw[h.cellAt k (by omega),List.getElem?_map,List.getElem?_eq_getElem (by omega),zau (by omega)]
 rfl
theorem zhP(hb:Nat)(w:World):Calls Tryd.prog 33 #[.pointer (some ⟨hb,0,none⟩)] w fun e w' =>∃nb,e=.returned (.pointer (some ⟨nb,0,none⟩))∧Below w.heap.size w w'∧SpcS nb hb (List.replicate 16 (-1)) 0 w'∧w.heap.size≤nb:=by
 have hz:(List.replicate 16 (0:Int)).length=16:=by simp
 go_enter Tryd.func33,Tryd.ntmps33
 go_upto_block 0 with fail
 obtain⟨W1,hW1⟩:∃W1,W1=w.alloc (.cells #[.pointer (some ⟨hb,0,none⟩),.int .i64 0,.int .i64 0,.int .i64 0,.int .i64 0,.int .i64 0,.int .i64 0,.int .i64 0,.int .i64 0,.int .i64 0,.int .i64 0,.int .i64 0,.int .i64 0,.int .i64 0,.int .i64 0,.int .i64 0,.int .i64 0,.int .i64 0] 84 (0,0)):=⟨_,rfl⟩
 rw[←hW1]
 have HB1:=Lib.hid (show Below w.heap.size w W1 from by rw[hW1];exact(Below.refl _ w).alloc (Nat.le_refl _) _)
 have HS1:=Lib.hid (show SpcS w.heap.size hb (sufPg (List.replicate 16 0) 0) 0 W1 from by rw[hW1];exact alloc_at rfl)
 have hge:w.heap.size≤w.heap.size:=Nat.le_refl _
 clear hW1
 generalize hnb:w.heap.size=nb at HS1 hge ⊢
 have HNB:=Lib.hid hnb
 clear hnb
 go_wp2_with fail
 go_loopg [4,8] 16 (fun gh s4 s8 wr =>∃q:Nat,q≤16∧gh=16-q∧s8=.int .i64 q∧Hid (Below w.heap.size w wr)∧Hid (SpcS nb hb (sufPg (List.replicate 16 0) q) 0 wr))
 case atStart=>exact⟨0,Nat.zero_le _,by omega,rfl,HB1,HS1⟩
 case round=>
  obtain⟨q,hq,rfl,rfl,HB,HS⟩:=hrel
  by_cases hlt:q<16
  ·
   have hq1:(q:Int)<16:=by omega
   have hq0:(0:Int)≤(q:Int):=by omega
   have hqw:IntKind.i64.wrap ((q:Int)+1)=(q:Int)+1:=IntWalk.i64_in _ (by omega)
   have hlq:(sufPg (List.replicate 16 (0:Int)) q).length=16:=zc1 hz (by omega)
   have c1:=zap HS.out hlq hlt
   have g1:=zab HS.out (1+q)
   have l1:=zaG HS.out
   have HST:=Lib.hid (zdn hz hlt)
   have HLQ:=Lib.hid hlq
   clear hlq hz
   generalize (sufPg (List.replicate 16 (0:Int)) q).getD q (-1)=zz at *
   go_wp2_with fail
   go_roundg (16-(q+1))
   case measure=>omega
   case rel=>exact⟨q+1,by omega,rfl,by go_num,Lib.hid (HB.out.setCell (by rw[HNB.out];exact Nat.le_refl _) _),Lib.hid (by rw[HST.out];exact ze3 HS.out HLQ.out hlt (-1))⟩
  ·
   obtain rfl:q=16:=by omega
   have HF:=Lib.hid (zdm hz)
   clear hlt hz
   go_wp2_with fail
   go_ret
   exact⟨nb,rfl,HB.out,by rw[←HF.out];exact HS.out,by rw[HNB.out];exact Nat.le_refl _⟩
theorem ze8{sb hb N:Nat}{oth om:List (List Int)}{w:World}{F:Nat→Prop}{mem:List Int}{x:Bool}(h:SpSt sb hb N oth om w F mem x):Calls Tryd.prog 24 #[.pointer (some ⟨sb,0,none⟩)] w fun e w' =>∃a c,e=.returned (.slice a 256 c)∧w'.ownsRow w.heap.size 3 1 (.slice a 256 c) 256 (mem.map (Value.int .i64))∧Below w.heap.size w w':=by
 have hml:mem.length=256:=by
  obtain⟨rs,zs,ad,ar,cd,cr,vs,pg,hs⟩:=h
  rw[hs.mem,zdI]
 have HH:=Lib.hid h
 have HML:=Lib.hid hml
 clear h hml
 have mk:=zcF 256 (by omega) (by omega) w
 go_enter Tryd.func24,Tryd.ntmps24
 go_upto_block 0 with fail
 obtain⟨W1,hW1⟩:∃W1,W1=w.alloc (.cells (zay 256) 3):=⟨_,rfl⟩
 rw[←hW1]
 have HB1:=Lib.hid (show Below w.heap.size w W1 from by rw[hW1];exact(Below.refl _ w).alloc (Nat.le_refl _) _)
 have HO1:=Lib.hid (show W1.ownsRow w.heap.size 3 1 (.slice (some ⟨w.heap.size,0,none⟩) 256 256) 256 ((mem.take 0++List.replicate (256-0) 0).map (Value.int .i64)) from by rw[hW1];exact zbE (zs:=List.replicate 256 (0:Int)) (by rw[←zbg];exact alloc_at rfl) (Nat.le_refl _) (by simp) (by omega))
 clear hW1 mk
 go_wp2_with fail
 go_loopg [4,8] 256 (fun gh s4 s8 wr =>∃q:Nat,q≤256∧gh=256-q∧s8=.int .i64 q∧Hid (Below w.heap.size w wr)∧Hid (wr.ownsRow w.heap.size 3 1 (.slice (some ⟨w.heap.size,0,none⟩) 256 256) 256 ((mem.take q++List.replicate (256-q) 0).map (Value.int .i64))))
 case atStart=>exact⟨0,Nat.zero_le _,by omega,rfl,HB1,HO1⟩
 case round=>
  obtain⟨q,hq,rfl,rfl,HB,HO⟩:=hrel
  by_cases hlt:q<256
  ·
   have hq1:(q:Int)<256:=by omega
   have hq0:(0:Int)≤(q:Int):=by omega
   have hqw:IntKind.i64.wrap ((q:Int)+1)=(q:Int)+1:=IntWalk.i64_in _ (by omega)
   have hst:SpSt sb hb N oth om wr F mem x:=(zaR sb hb N oth om).stay w wr F mem x HH.out (fun g hg=>HB.out.block g ((zaR sb hb N oth om).lt w F mem x HH.out g hg)) HB.out.size
   have HL:=Lib.hid (zdk hst hq0 hq1)
   rw[Int.toNat_natCast] at HL
   have HE:=Lib.hid (show (mem.take (q+1)++List.replicate (256-(q+1)) 0)=(mem.take q++List.replicate (256-q) 0).set q (mem.getD q 0) from zgw HML.out hlt)
   obtain⟨z0,hz0⟩:∃z,wr.cell? ⟨w.heap.size,q,none⟩=some (.int .i64 z):=⟨_,ze7 HO.out (by rw[List.length_append,List.length_take,List.length_replicate,HML.out];omega) hlt⟩
   have g1:=HO.out.frozenAt q
   have lw:w.heap.size<wr.heap.size:=(HO.out.lt _ rfl).2
   clear hst
   generalize mem.getD q 0=z at *
   go_wp2_with fail
   refine HL.out.mono ?_
   rintro e w' ⟨rfl,nn,rfl⟩
   have hz1:(wr.drewN nn).cell? ⟨w.heap.size,q,none⟩=some (.int .i64 z0):=hz0
   have g2:(wr.drewN nn).frozen? ⟨w.heap.size,q,none⟩=false:=g1
   have HB2:=Lib.hid (below_drewN HB.out nn)
   have HO2:Hid ((wr.drewN nn).ownsRow w.heap.size 3 1 (.slice (some ⟨w.heap.size,0,none⟩) 256 256) 256 ((mem.take q++List.replicate (256-q) 0).map (Value.int .i64))):=Lib.hid HO.out
   have lw2:w.heap.size<(wr.drewN nn).heap.size:=lw
   generalize wr.drewN nn=w2 at *
   clear hz0 g1 lw HB HO
   go_wp2_with fail
   go_roundg (256-(q+1))
   case measure=>omega
   case rel=>exact⟨q+1,by omega,rfl,by go_num,Lib.hid (HB2.out.setCell (Nat.le_refl _) _),Lib.hid (by rw[HE.out,List.map_set];exact(HO2.out.stored q (.int .i64 z)).1)⟩
  ·
   obtain rfl:q=256:=by omega
   have HF:=Lib.hid (show mem.take 256++List.replicate (256-256) 0=mem from by rw[List.take_of_length_le (by rw[HML.out];exact Nat.le_refl _)];simp)
   clear hlt
   go_wp2_with fail
   go_ret
   exact⟨_,_,rfl,by have h:=HO.out;rw[HF.out] at h;exact h,HB.out⟩
end Go.Proofs.YtflonfcemlfbdaaDoor
namespace Go.Proofs.YtflonfcemlfbdaaDoor
open Go Go.RowKit Go.ChangeShapes Go.WideShapes Go.Deep
set_option linter.unusedVariables false
def Ty(w:World)(g:Nat)(t:TypeId):Prop:=∃cs fr,w.heap[g]?=some (.cells cs t fr)
theorem zaL{w:World}{g:Nat}{t t':TypeId}(h:Ty w g t)(h':Ty w g t'):t=t':=by
 obtain⟨cs,fr,h⟩:=h
 obtain⟨cs',fr',h'⟩:=h'
 rw[h] at h'
 injection h' with h';injection h' with h1 h2 h3
theorem zkE{w:World}{g:Nat}{t:TypeId}(h:Ty w g t):g<w.heap.size:=by
 obtain⟨cs,fr,h⟩:=h
 exact(Array.getElem?_eq_some_iff.1 h).1
theorem zaD{w:World}{b size n g:Nat}{e:TypeId}{v:Value}{xs:List Value}(h:w.ownsRow b e size v n xs)(hg:v.ownBlock=some g):Ty w g e:=by
 rcases h.2 with⟨h1,h2⟩|⟨g2,cap,cur,h1,h2,h3,r⟩
 ·rw[h1] at hg;cases hg
 ·
  rw[h1] at hg;injection hg with hg;subst hg
  exact⟨_,_,h3⟩
structure PX where
 P:Nat→Prop
 w:World
structure PXo(pp:PX)(w:World):Prop where
 k:∀g,pp.P g→w.heap[g]?=pp.w.heap[g]?
 t:∀g,pp.P g→Ty pp.w g 3∨Ty pp.w g 48
section
variable {pp:PX} {w w':World}
theorem PXo.ty(h:PXo pp w){g:Nat}(hg:pp.P g):Ty w g 3∨Ty w g 48:=
 (h.t g hg).imp (fun ⟨cs,fr,hx⟩=>⟨cs,fr,(h.k g hg).trans hx⟩) (fun ⟨cs,fr,hx⟩=>⟨cs,fr,(h.k g hg).trans hx⟩)
theorem PXo.lt(h:PXo pp w){g:Nat}(hg:pp.P g):g<w.heap.size:=(h.ty hg).elim zkE zkE
theorem PXo.stay(h:PXo pp w)(hs:∀g,pp.P g→w'.heap[g]?=w.heap[g]?):PXo pp w':=⟨fun g hg=>(hs g hg).trans (h.k g hg),h.t⟩
theorem PXo.not(h:PXo pp w){g:Nat}{t:TypeId}(ht:Ty w g t)(h1:t≠3)(h2:t≠48):¬pp.P g:=by
 intro hg
 rcases h.ty hg with q|q
 ·exact h1 (zaL ht q)
 ·exact h2 (zaL ht q)
theorem PXo.out(h:PXo pp w){D:Nat→Prop}(ho:OutF D w w')(hd:∀g,pp.P g→¬D g):PXo pp w':=h.stay (fun g hg=>ho.block g (h.lt hg) (hd g hg))
end
def HoFP(pp:PX)(hb:Nat)(rs:List (List Int))(zs:List Int)(ad ar:Option Addr)(cd cr:Nat)(vs:List Value)(g:Nat):Prop:=HoF hb rs zs ad ar cd cr vs g∨pp.P g
structure HoSP(pp:PX)(hb N:Nat)(sps:List (List Int))(w:World)(rs:List (List Int))(zs:List Int)(ad ar:Option Addr)(cd cr:Nat)(vs:List Value):Prop where
 s:HoS hb N sps w rs zs ad ar cd cr vs
 px:PXo pp w
 d:∀g,pp.P g→¬HoF hb rs zs ad ar cd cr vs g
section
variable {pp:PX} {w w':World} {hb N:Nat} {sps:List (List Int)} {rs:List (List Int)} {zs:List Int} {ad ar:Option Addr} {cd cr:Nat} {vs:List Value}
theorem HoSP.stay(h:HoSP pp hb N sps w rs zs ad ar cd cr vs)(hs:∀g,HoFP pp hb rs zs ad ar cd cr vs g→w'.heap[g]?=w.heap[g]?):HoSP pp hb N sps w' rs zs ad ar cd cr vs:=
 ⟨h.s.stay (fun g hg=>hs g (Or.inl hg)),h.px.stay (fun g hg=>hs g (Or.inr hg)),h.d⟩
theorem HoSP.lt(h:HoSP pp hb N sps w rs zs ad ar cd cr vs):∀g,HoFP pp hb rs zs ad ar cd cr vs g→g<w.heap.size:=by
 rintro g (hg|hg)
 ·exact h.s.lt g hg
 ·exact h.px.lt hg
end
def SpStP(pp:PX)(sb hb N:Nat)(oth om:List (List Int))(w:World)(F:Nat→Prop)(mem:List Int)(x:Bool):Prop:=∃F0,SpSt sb hb N oth om w F0 mem x∧PXo pp w∧(∀g,pp.P g→¬F0 g)∧F=fun g=>F0 g∨pp.P g
theorem SpStP.sp{pp:PX}{sb hb N:Nat}{oth om:List (List Int)}{w:World}{F:Nat→Prop}{mem:List Int}{x:Bool}(h:SpStP pp sb hb N oth om w F mem x):∃F0,SpSt sb hb N oth om w F0 mem x:=⟨h.choose,h.choose_spec.1⟩
theorem zcb(pp:PX)(sb hb N:Nat)(oth om:List (List Int)):MemI 39 39 34 (.pointer (some ⟨sb,0,none⟩)) (SpStP pp sb hb N oth om) where
 nL:=(zaR sb hb N oth om).nL
 mL:=(zaR sb hb N oth om).mL
 eL:=(zaR sb hb N oth om).eL
 eS:=(zaR sb hb N oth om).eS
 nS:=(zaR sb hb N oth om).nS
 mS:=(zaR sb hb N oth om).mS
 load:=fun w F mem x at_ h h0 h1=>by
  obtain⟨F0,h,_⟩:=h
  exact(zaR sb hb N oth om).load w F0 mem x at_ h h0 h1
 store:=fun w F mem x at_ z h h0 h1 hz=>by
  obtain⟨F0,h,hp,hd,rfl⟩:=h
  refine((zaR sb hb N oth om).store w F0 mem x at_ z h h0 h1 hz).mono ?_
  rintro e w' ⟨ho,F',hF',hc⟩
  have hp':PXo pp w':=hp.out ho hd
  have hd':∀g,pp.P g→¬F' g:=fun g hg hf=>by
   rcases hF' g hf with q|q
   ·exact hd g hg q
   ·have:=hp.lt hg;omega
  refine⟨ho.mono (fun g hg=>Or.inl hg),fun g=>F' g∨pp.P g,?_,?_⟩
  ·
   rintro g (q|q)
   ·exact(hF' g q).imp Or.inl id
   ·exact Or.inl (Or.inr q)
  ·
   rcases hc with⟨he,hs⟩|⟨he,hs⟩
   ·exact Or.inl ⟨he,F',hs,hp',hd',rfl⟩
   ·exact Or.inr ⟨he,F',hs,hp',hd',rfl⟩
 stay:=fun w w' F mem x h hs hz=>by
  obtain⟨F0,h,hp,hd,rfl⟩:=h
  exact⟨F0,(zaR sb hb N oth om).stay w w' F0 mem x h (fun g hg=>hs g (Or.inl hg)) hz,hp.stay (fun g hg=>hs g (Or.inr hg)),hd,rfl⟩
 lt:=fun w F mem x h=>by
  obtain⟨F0,h,hp,hd,rfl⟩:=h
  rintro g (hg|hg)
  ·exact(zaR sb hb N oth om).lt w F0 mem x h g hg
  ·exact hp.lt hg
end Go.Proofs.YtflonfcemlfbdaaDoor
