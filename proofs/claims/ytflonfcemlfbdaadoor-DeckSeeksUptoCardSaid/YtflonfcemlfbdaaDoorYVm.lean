/- Several texts joined, each with its own heading in the notes: The deck's Step. The deck's Guest. No condition beyond those of each row. -/
import Derived.Test.YtflonfcemlfbdaaDoorYVi
import Derived.Handy
import Derived.StillTailTactics
import Derived.Deep.RegionWith
import Derived.Deep.RegionLaw
import Derived.Deep.CutBlock
import Derived.Deep.CutRange
import Derived.Deep.RegionHeld3
import Derived.Test.YtflonfcemlfbdaaDoorYKr
namespace Go.Proofs.YtflonfcemlfbdaaDoor
open Go Go.RowKit Go.ChangeShapes Go.WideShapes Go.Deep
set_option maxHeartbeats 8000000
set_option maxRecDepth 100000
set_option linter.unusedVariables false
attribute [local go_sem ↓] Go.wp_at_zero Go.wp_at_succ
section
variable {K:DkC} {m:Mach} {i:Nat} {cb gr cr sb:Nat} {wrote:Int} {x:Bool} {vl:Value} {al:Option Addr} {nl cl:Nat} {LL:List Ev} {ao:Option Addr} {co:Nat} {F:Nat→Prop} {ap:Option Addr} {cp:Nat} {rows pts:List Pt} {w w':World}
theorem zkg(hK:DkK K)(h:Dk K m i cb gr cr sb wrote false al nl cl LL ao co F ap cp pts w)(hlt:m.fin=0→(i:Int)<K.cnt){m':Mach}{wr':Int}{al':Option Addr}{nl' cl':Nat}{ao':Option Addr}{co':Nat}{F':Nat→Prop}(hp:DkP K m' cb gr cr sb wr' false (.slice al' nl' cl') ao' co' F' ap cp pts w')(hm:m'=(fwdM m LL).1.1)(hwr:wr'=(fwdM m LL).1.2)(hev:EvsR K.E K.wE (.slice al' nl' cl') (fwdM m LL).2):∃j,Dk K (onM m K.L i).1 j cb gr cr sb (onM m K.L i).2 false al' nl' cl' (fwdM m LL).2 ao' co' F' ap cp pts w'∧i≤j∧j≤i+1∧(m.fin=0→j=i+1):=by
 obtain⟨e1,hst⟩:=h.st.step hK.evl
 subst hm hwr
 rw[e1] at hp
 by_cases hf:m.fin=0
 ·exact⟨i+1,⟨hp,h.run.step hf,hst,hev,by have:=hlt hf;push_cast;omega⟩,Nat.le_succ _,Nat.le_refl _,fun _=>rfl⟩
 ·
  refine⟨i,⟨hp,?_,hst.to (fun h0=>?_),hev,h.le⟩,Nat.le_refl _,Nat.le_succ _,fun h0=>absurd h0 hf⟩
  ·rw[zeU hf];exact h.run
  ·rw[zeU hf] at h0;exact absurd h0 hf
def zkZ(K:DkC)(m:Mach)(i:Nat)(e:Ending)(w':World):Prop:=(∃j,e=.returned (.tuple #[.int .i64 (onM m K.L i).2,.int .i64 0])∧DkS K (onM m K.L i).1 j (onM m K.L i).2 w'∧i≤j∧j≤i+1∧(m.fin=0→j=i+1))∨(e=.returned (.tuple #[.int .i64 0,.int .i64 7])∧(K.N:Int)<16*(K.kp+2)∧OutF (fun g=>g=K.db) K.w1 w')
theorem zij(hK:DkK K)(h:Dk K m i cb gr cr sb wrote false al nl cl LL ao co F ap cp pts w)(hlt:m.fin=0→(i:Int)<K.cnt):Calls Tryd.prog 22 #[.pointer (some ⟨K.db,0,none⟩)] w (zkZ K m i):=by
 have HK:=Lib.hid hK
 have HD:=Lib.hid h
 have HLT:=Lib.hid hlt
 have hpd:=h.p.below (below_drewN (Below.refl w.heap.size w) 1)
 have HPD:=Lib.hid (show DkP K m cb gr cr sb wrote false (.slice al nl cl) ao co F ap cp pts w.drew from hpd)
 have hcnt:m.count<1099511627776:=by rw[h.run.cnt];have:=h.le;have:=hK.c1;omega
 have HFW:=Lib.hid (show Calls Tryd.prog 36 #[.pointer (some ⟨K.db,10,none⟩),.pointer (some ⟨cb,0,none⟩),.iface 39 (.pointer (some ⟨sb,0,none⟩))] w.drew (zeX (K.pb cb sb ap pts.length cp) (SpStP K.pp sb K.hb K.N (pts.map (·.pg)) (pts.map (·.m.mem))) K.wE w.drew (Dq K.db cb gr ao m.out.length co F) K.E K.db cb gr cr (.slice none 0 0) m false (fwdM m LL)) from
  zeY (zcb K.pp sb K.hb K.N _ _) HPD.out.ps.base (h.ok hK) hcnt (Nat.le_trans hK.E HPD.out.ps.g.old.size) (wE:=K.wE) (fun W ho=>hK.imp W (HPD.out.ps.g.old.trans ho HPD.out.ps.dqs)) LL (h.ll hK) h.evs)
 have b8:w.cell? ⟨K.db,8,none⟩=some (.pointer (some ⟨cb,0,none⟩)):=zaa h.p.ps.box 8
 have b9:w.cell? ⟨K.db,9,none⟩=some (.pointer (some ⟨sb,0,none⟩)):=zaa h.p.ps.box 9
 have ld:K.db<w.heap.size:=h.p.ps.plt
 clear h hK hlt hpd hcnt
 go_enter Tryd.func22,Tryd.ntmps22
 go_upto_region 1 with fail
 go_region_held3 (fun w'=>w'.cell? ⟨K.db,8,none⟩=some (.pointer (some ⟨cb,0,none⟩))∧w'.cell? ⟨K.db,9,none⟩=some (.pointer (some ⟨sb,0,none⟩))) (first|((try dsimp only);(repeat' apply And.intro)<;>(first|assumption|go_keep))) (first
  | (go_at_call 36;refine HFW.out.mono ?_;rintro e w2 ⟨m2,wr2,x2,al2,nl2,cl2,rfl,⟨ao2,co2,F2,hps2⟩,hev2,hm2,hc1,hc2,hor⟩;have HP2:=Lib.hid (HPD.out.ran HK.out hps2);have HOR:=Lib.hid hor;have HEV2:=Lib.hid hev2;have d8:w2.cell? ⟨K.db,8,none⟩=some (.pointer (some ⟨cb,0,none⟩)):=zaa hps2.box 8;have d9:w2.cell? ⟨K.db,9,none⟩=some (.pointer (some ⟨sb,0,none⟩)):=zaa hps2.box 9;have HM2:=Lib.hid hm2;have HC1:=Lib.hid hc1;clear hps2 hev2 hm2 hc1 hc2 hor))
 clear HFW b8 b9 ld
 have d1:w2.cell? ⟨K.db,1,none⟩=some (.int .i64 K.ev):=zaa HP2.out.ps.box 1
 have ld2:K.db<w2.heap.size:=HP2.out.ps.plt
 have lc2:cb<w2.heap.size:=HP2.out.ps.g.clt
 have c6:w2.cell? ⟨cb,6,none⟩=some (.int .i64 m2.count):=zaa HP2.out.ps.g.box 6
 have c7:w2.cell? ⟨cb,7,none⟩=some (.int .i64 m2.fin):=zaa HP2.out.ps.g.box 7
 have c12:w2.cell? ⟨cb,12,none⟩=some (.int .i64 wr2):=zaa HP2.out.ps.g.box 12
 have hmem:=HP2.out.ps.g.mem
 cases x2 with
 | true=>
  obtain⟨F0,⟨rs,zs,ad,ar,cd,cr2,vs,pg,hsp⟩,-,-,-⟩:=hmem
  have e17:w2.cell? ⟨sb,17,none⟩=some (.int .i64 7):=zbp hsp.sp hsp.len
  have hN:=hsp.full rfl
  rw[List.length_map] at hN
  have hlp:=HP2.out.len
  have ls2:sb<w2.heap.size:=zaG hsp.sp
  have HNN:=Lib.hid (show (K.N:Int)<16*(K.kp+2) from by omega)
  have HOO:=Lib.hid HP2.out.ps.g.old
  clear hsp hN hlp c6 c7 c12 d1
  go_upto_region 3 with fail
  go_quiet (fail)
  go_wp2
  go_ret2
  exact Or.inr ⟨rfl,HNN.out,(HOO.out.drewN _)⟩
 | false=>
  obtain⟨F0,⟨rs,zs,ad,ar,cd,cr2,vs,pg,hsp⟩,-,-,-⟩:=hmem
  have e17:w2.cell? ⟨sb,17,none⟩=some (.int .i64 0):=zbp hsp.sp hsp.len
  have ls2:sb<w2.heap.size:=zaG hsp.sp
  clear hsp
  obtain⟨-,hm,hwr⟩:=HOR.out.resolve_right (by decide)
  obtain⟨j,hdk,hj1,hj2,hj3⟩:=zkg HK.out HD.out HLT.out HP2.out hm hwr HEV2.out
  have hmj:m2=(onM m K.L i).1:=by rw[hm];exact congrArg Prod.fst (HD.out.st.step HK.out.evl).1
  have hwj:wr2=(onM m K.L i).2:=by rw[hwr];exact congrArg Prod.snd (HD.out.st.step HK.out.evl).1
  have HJ:=Lib.hid (And.intro hj1 (And.intro hj2 hj3))
  have HDK:=Lib.hid hdk
  have HMJ:=Lib.hid hmj
  have HWJ:=Lib.hid hwj
  have hev0:K.ev≠0:=by have:=HK.out.e0;omega
  have hevb:(K.ev == 0)=false:=by rw[beq_eq_false_iff_ne];exact hev0
  clear hdk hm hwr hmj hwj hj1 hj2 hj3 HOR HEV2
  by_cases hq:Int.tmod m2.count K.ev=0∧m2.fin=0
  ·
   have hq1:(Int.tmod m2.count K.ev == 0)=true:=by rw[hq.1];rfl
   have hq2:(m2.fin == 0)=true:=by rw[hq.2];rfl
   have HKP:=Lib.hid (fun q=>zjb HK.out (HDK.out.below (below_drewN (Below.refl w2.heap.size w2) q)) (by rw[←HMJ.out];exact hq.2))
   have HEQ:=Lib.hid hq
   clear hq
   generalize m2.count=c2 at *
   generalize m2.fin=n2 at *
   go_upto_region 4 with fail
   go_quiet (fail)
   go_wp2_with fail
   refine(HKP.out _).mono ?_
   rintro e w3 ⟨rfl,F3,ap3,cp3,pts3,hd3⟩
   have HD3:=Lib.hid hd3
   clear d1 d8 d9 ld2 lc2 c6 c7 c12 e17 ls2 hd3
   have d8:w3.cell? ⟨K.db,8,none⟩=some (.pointer (some ⟨cb,0,none⟩)):=zaa HD3.out.p.ps.box 8
   have ld3:K.db<w3.heap.size:=HD3.out.p.ps.plt
   have lc3:cb<w3.heap.size:=HD3.out.p.ps.g.clt
   have c12:w3.cell? ⟨cb,12,none⟩=some (.int .i64 (onM m K.L i).2):=zaa HD3.out.p.ps.g.box 12
   have HFIN:=Lib.hid (show DkS K (onM m K.L i).1 j (onM m K.L i).2 w3 from ⟨_,_,_,_,_,_,_,_,_,_,_,_,_,_,HD3.out⟩)
   go_wp2
   go_ret2
   exact Or.inl ⟨j,rfl,HFIN.out,HJ.out.1,HJ.out.2.1,HJ.out.2.2⟩
  ·
   have HFIN:=Lib.hid (show DkS K (onM m K.L i).1 j (onM m K.L i).2 w2 from ⟨_,_,_,_,_,_,_,_,_,_,_,_,_,_,HDK.out⟩)
   rw[HWJ.out] at c12
   by_cases hq1:Int.tmod m2.count K.ev=0
   ·
    have hq2:(m2.fin == 0)=false:=by rw[beq_eq_false_iff_ne];exact fun e=>hq ⟨hq1,e⟩
    have hq3:(Int.tmod m2.count K.ev == 0)=true:=by rw[hq1];rfl
    clear hq
    generalize m2.count=c2 at *
    generalize m2.fin=n2 at *
    go_upto_region 4 with fail
    go_quiet (fail)
    go_wp2
    go_ret2
    exact Or.inl ⟨j,rfl,HFIN.out.below (below_drewN (Below.refl w2.heap.size w2) _),HJ.out.1,HJ.out.2.1,HJ.out.2.2⟩
   ·
    have hq3:(Int.tmod m2.count K.ev == 0)=false:=by rw[beq_eq_false_iff_ne];exact hq1
    clear hq
    generalize m2.count=c2 at *
    generalize m2.fin=n2 at *
    go_upto_region 4 with fail
    go_quiet (fail)
    go_wp2
    go_ret2
    exact Or.inl ⟨j,rfl,HFIN.out.below (below_drewN (Below.refl w2.heap.size w2) _),HJ.out.1,HJ.out.2.1,HJ.out.2.2⟩
end
structure GuI(w0:World)(g:Nat)(m:Mach)(vr vm vo:Value)(w:World):Prop where
 hr:w.ownsRow w0.heap.size 3 1 vr m.regs.length (m.regs.map (Value.int .i64))
 hm:w.ownsRow w0.heap.size 3 1 vm m.mem.length (m.mem.map (Value.int .i64))
 ho:w.ownsRow w0.heap.size 3 1 vo m.out.length (m.out.map (Value.int .i64))
 box:∃cs,w.heap[g]?=some (.cells cs 48 (0,0))
 lo:w0.heap.size≤g
 below:Below w0.heap.size w0 w
theorem GuI.step{w0 w:World}{g:Nat}{m:Mach}{vr vm vo:Value}(h:GuI w0 g m vr vm vo w)(i:Nat)(u:Value):GuI w0 g m vr vm vo (w.setCell ⟨g,i,none⟩ u):=by
 obtain⟨h1,h2,h3,⟨cs,hb⟩,hl,hB⟩:=h
 exact⟨zao h1 (zad h1 hb (by decide)) u,zao h2 (zad h2 hb (by decide)) u,zao h3 (zad h3 hb (by decide)) u,⟨_,zaf hb u⟩,hl,hB.setCell hl u⟩
section
variable {K:DkC} {m:Mach} {i:Nat} {cb gr cr sb:Nat} {wrote:Int} {x:Bool} {vl:Value} {al:Option Addr} {nl cl:Nat} {LL:List Ev} {ao:Option Addr} {co:Nat} {F:Nat→Prop} {ap:Option Addr} {cp:Nat} {rows pts:List Pt} {w w':World}
theorem zeB(hok:MOk m){w6:World}(hreg:w6.ownsRow 0 3 1 (.slice (some ⟨gr,0,none⟩) 8 cr) 8 (m.regs.map (Value.int .i64)))(hout:w6.ownsRow 0 3 1 (.slice ao m.out.length co) m.out.length (m.out.map (Value.int .i64))):Calls Tryd.prog 23 #[.agg #[.slice (some ⟨gr,0,none⟩) 8 cr,.int .i64 m.pc,.int .i64 m.back,.bool m.ints,.bool m.wait,.int .i64 m.table,.int .i64 m.count,.int .i64 m.fin,.slice none 0 0,.slice ao m.out.length co,.int .i64 m.ready,.int .i64 m.want]] w6 (fun e w' =>∃ar2 cr2 ao2 co2,e=.returned (.agg #[.slice ar2 8 cr2,.int .i64 m.pc,.int .i64 m.back,.bool m.ints,.bool m.wait,.int .i64 m.table,.int .i64 m.count,.int .i64 m.fin,.slice none 0 0,.slice ao2 m.out.length co2,.int .i64 m.ready,.int .i64 m.want])∧w'.ownsRow w6.heap.size 3 1 (.slice ar2 8 cr2) 8 (m.regs.map (Value.int .i64))∧w'.ownsRow w6.heap.size 3 1 (.slice ao2 m.out.length co2) m.out.length (m.out.map (Value.int .i64))∧Below w6.heap.size w6 w'∧((Value.slice ao2 m.out.length co2).ownBlock=none∨(Value.slice ao2 m.out.length co2).ownBlock≠(Value.slice ar2 8 cr2).ownBlock)):=by
 have h8:=hok.regs
 have hI:Ints w6.heap.size w6 (.slice (some ⟨gr,0,none⟩) m.regs.length cr) m.regs:=zaq (by rw[h8];exact hreg) (by omega) (fun z hz=>(zaE hok.wr z hz).i64)
 have hO:Ints w6.heap.size w6 (.slice ao m.out.length co) m.out:=zaq hout (by have:=hok.out;omega) (fun z hz=>(zaE hok.wo z hz).i64)
 have h:=zfP m (.slice none 0 0) (some ⟨gr,0,none⟩) ao cr co w6 ⟨none,0,0,rfl⟩ hI hO
 unfold zdM at h
 simp only[h8] at h
 refine h.mono ?_
 rintro e w' ⟨a1,c1,a2,c2,he,ho,hb'⟩
 have h1:=ho.hr
 rw[h8] at h1
 have h2:=ho.or
 unfold Apart at h2
 exact⟨a1,c1,a2,c2,he,h1,ho.ho,hb',h2⟩
theorem zgE(hK:DkK K)(h:Dk K m i cb gr cr sb wrote false al nl cl LL ao co F ap cp pts w):Calls Tryd.prog 10 #[.pointer (some ⟨K.db,0,none⟩)] w fun e w' =>∃ar2 cr2 a4 c4 ao2 co2,e=.returned (.agg #[.slice ar2 m.regs.length cr2,.int .i64 m.pc,.int .i64 m.back,.bool m.ints,.bool m.wait,.int .i64 m.table,.int .i64 m.count,.int .i64 m.fin,.slice a4 m.mem.length c4,.slice ao2 m.out.length co2,.int .i64 m.ready,.int .i64 m.want])∧w'.ownsRow w.heap.size 3 1 (.slice ar2 m.regs.length cr2) m.regs.length (m.regs.map (Value.int .i64))∧w'.ownsRow w.heap.size 3 1 (.slice a4 m.mem.length c4) m.mem.length (m.mem.map (Value.int .i64))∧w'.ownsRow w.heap.size 3 1 (.slice ao2 m.out.length co2) m.out.length (m.out.map (Value.int .i64))∧Below w.heap.size w w':=by
 have HD:=Lib.hid h
 have HOK:=Lib.hid (h.ok hK)
 clear h hK
 go_enter Tryd.func10,Tryd.ntmps10
 go_upto_region 1 with fail
 obtain⟨w1,hw1⟩:∃W,W=w.alloc (.cells #[.slice none 0 0,.int .i64 0,.int .i64 0,.bool false,.bool false,.int .i64 0,.int .i64 0,.int .i64 0,.slice none 0 0,.slice none 0 0,.int .i64 0,.int .i64 0] 48 (0,0)):=⟨_,rfl⟩
 have HX0:=Lib.hid (show w1.heap[w.heap.size]?=some (.cells #[.slice none 0 0,.int .i64 0,.int .i64 0,.bool false,.bool false,.int .i64 0,.int .i64 0,.int .i64 0,.slice none 0 0,.slice none 0 0,.int .i64 0,.int .i64 0] 48 (0,0)) from by rw[hw1];exact alloc_at rfl)
 have HB1:=Lib.hid (show Below w.heap.size w w1 from by rw[hw1];exact zai _ _)
 have HD1:=Lib.hid (HD.out.below HB1.out)
 rw[←hw1]
 obtain⟨g0,hg0⟩:∃g,g=w.heap.size:=⟨_,rfl⟩
 have HG0:=Lib.hid (show w.heap.size≤g0 from by omega)
 rw[←hg0] at HX0 ⊢
 clear hw1 hg0
 have b8:w1.cell? ⟨K.db,8,none⟩=some (.pointer (some ⟨cb,0,none⟩)):=zaa HD1.out.p.ps.box 8
 have ld:K.db<w1.heap.size:=HD1.out.p.ps.plt
 have lc:cb<w1.heap.size:=HD1.out.p.ps.g.clt
 first|(obtain⟨c0,c1,c2,c3,c4,c5,c6,c7,c8,c9,c10,c11⟩:=zaz HD1.out.p.ps.g.box)|(obtain⟨c0,c1,c2,c3,c4,c5,c6,c7,c8,c9,c10,c11⟩:=zaA HD1.out.p.ps.g.box)
 go_wp2_with fail
 refine(zeB HOK.out HD1.out.p.ps.g.regs HD1.out.p.ps.g.out).mono ?_
 rintro e w2 ⟨ar2,cr2,ao2,co2,rfl,hr2,ho2,hb2,-⟩
 go_upto_region 2 with fail
 have HBA:=Lib.hid (zai w2 (.cells #[.slice ar2 8 cr2,.int .i64 m.pc,.int .i64 m.back,.bool m.ints,.bool m.wait,.int .i64 m.table,.int .i64 m.count,.int .i64 m.fin,.slice none 0 0,.slice ao2 m.out.length co2,.int .i64 m.ready,.int .i64 m.want] 48 (0,0)))
 obtain⟨w3,hw3⟩:∃W,W=(w2.alloc (.cells #[.slice ar2 8 cr2,.int .i64 m.pc,.int .i64 m.back,.bool m.ints,.bool m.wait,.int .i64 m.table,.int .i64 m.count,.int .i64 m.fin,.slice none 0 0,.slice ao2 m.out.length co2,.int .i64 m.ready,.int .i64 m.want] 48 (0,0))):=⟨_,rfl⟩
 have HX3:=Lib.hid (show w3.heap[w2.heap.size]?=some (.cells #[.slice ar2 8 cr2,.int .i64 m.pc,.int .i64 m.back,.bool m.ints,.bool m.wait,.int .i64 m.table,.int .i64 m.count,.int .i64 m.fin,.slice none 0 0,.slice ao2 m.out.length co2,.int .i64 m.ready,.int .i64 m.want] 48 (0,0)) from by rw[hw3];exact alloc_at rfl)
 rw[←hw3] at HBA ⊢
 obtain⟨gb,hgb⟩:∃g,g=w2.heap.size:=⟨_,rfl⟩
 rw[←hgb] at HX3 ⊢
 have HGW:=Lib.hid (show w2.heap.size≤gb from by omega)
 clear hw3 hgb
 have HGB:=Lib.hid (show w.heap.size≤gb from by have h1:=HGW.out;have h2:=HB1.out.size;have h3:=hb2.size;omega)
 have HB3:=Lib.hid (HB1.out.trans ((hb2.trans (HBA.out.mono hb2.size)).mono HB1.out.size))
 have HD3:=Lib.hid (HD1.out.below (hb2.trans (HBA.out.mono hb2.size)))
 have HR3:=Lib.hid (zar (own_below hr2 HBA.out (Nat.le_refl _)) HB1.out.size)
 have HO3:=Lib.hid (zar (own_below ho2 HBA.out (Nat.le_refl _)) HB1.out.size)
 have HX03:=Lib.hid (zac HBA.out (zac hb2 HX0.out (Array.getElem?_eq_some_iff.1 HX0.out).1) (by have:=(Array.getElem?_eq_some_iff.1 HX0.out).1;have:=hb2.size;omega))
 have HWD:=Lib.hid (ze8 (SpStP.sp HD3.out.p.ps.g.mem).choose_spec)
 have HG01:=Lib.hid (show g0<w2.heap.size from by have:=(Array.getElem?_eq_some_iff.1 HX0.out).1;have:=hb2.size;omega)
 clear b8 ld lc c0 c1 c2 c3 c4 c5 c6 c7 c8 c9 c10 c11 hb2 hr2 ho2 HBA
 have b9:w3.cell? ⟨K.db,9,none⟩=some (.pointer (some ⟨sb,0,none⟩)):=zaa HD3.out.p.ps.box 9
 have ld:K.db<w3.heap.size:=HD3.out.p.ps.plt
 go_wp2_with fail
 refine HWD.out.mono ?_
 rintro e w4 ⟨a4,c4,rfl,how,hb4⟩
 have HX4:=Lib.hid (zac hb4 HX3.out (Array.getElem?_eq_some_iff.1 HX3.out).1)
 have HX04:=Lib.hid (zac hb4 HX03.out (Array.getElem?_eq_some_iff.1 HX03.out).1)
 have HR4:=Lib.hid (own_below HR3.out hb4 (Nat.le_refl _))
 have HO4:=Lib.hid (own_below HO3.out hb4 (Nat.le_refl _))
 have HM4:=Lib.hid (zar how HB3.out.size)
 have HB4:=Lib.hid (HB3.out.trans (hb4.mono HB3.out.size))
 clear b9 ld hb4 how HX3 HX03 HR3 HO3
 have q8:w4.cell? ⟨gb,8,none⟩=some (.slice none 0 0):=zaa HX4.out 8
 have f8:=zab HX4.out 8
 have lb4:gb<w4.heap.size:=(Array.getElem?_eq_some_iff.1 HX4.out).1
 go_upto_region 3 with fail
 have h8:=HOK.out.regs
 have h256:=HOK.out.mem
 obtain⟨w5,hw5⟩:∃W,W=w4.setCell ⟨gb,8,none⟩ (.slice a4 256 c4):=⟨_,rfl⟩
 have HX5:=Lib.hid (show w5.heap[gb]?=some (.cells #[.slice ar2 8 cr2,.int .i64 m.pc,.int .i64 m.back,.bool m.ints,.bool m.wait,.int .i64 m.table,.int .i64 m.count,.int .i64 m.fin,.slice a4 256 c4,.slice ao2 m.out.length co2,.int .i64 m.ready,.int .i64 m.want] 48 (0,0)) from by rw[hw5];exact zaf HX4.out _)
 have hg01:g0≠gb:=by have h1:=HGW.out;have h2:=HG01.out;omega
 have HX05:=Lib.hid (show w5.heap[g0]?=some (.cells #[.slice none 0 0,.int .i64 0,.int .i64 0,.bool false,.bool false,.int .i64 0,.int .i64 0,.int .i64 0,.slice none 0 0,.slice none 0 0,.int .i64 0,.int .i64 0] 48 (0,0)) from by rw[hw5];exact zah HX04.out hg01 _)
 have HS0:=Lib.hid (show GuI w g0 m (.slice ar2 m.regs.length cr2) (.slice a4 m.mem.length c4) (.slice ao2 m.out.length co2) w5 from by
  rw[hw5,h8,h256]
  exact⟨by rw[h8];exact zao HR4.out (zad HR4.out HX4.out (by decide)) _,by rw[h256];exact zao HM4.out (zad HM4.out HX4.out (by decide)) _,zao HO4.out (zad HO4.out HX4.out (by decide)) _,⟨_,zah HX04.out hg01 _⟩,HG0.out,HB4.out.setCell HGB.out _⟩)
 rw[←hw5]
 clear hw5 q8 f8 lb4 h8 h256 hg01 HX4 HX04 HR4 HM4 HO4
 first|(obtain⟨q0,q1,q2,q3,q4,q5,q6,q7,q8,q9,q10,q11⟩:=zaz HX5.out)|(obtain⟨q0,q1,q2,q3,q4,q5,q6,q7,q8,q9,q10,q11⟩:=zaA HX5.out)
 first|(obtain⟨r0,r1,r2,r3,r4,r5,r6,r7,r8,r9,r10,r11⟩:=zaz HX05.out)|(obtain⟨r0,r1,r2,r3,r4,r5,r6,r7,r8,r9,r10,r11⟩:=zaA HX05.out)
 have fr0:=zab HX05.out 0
 have fr1:=zab HX05.out 1
 have fr2:=zab HX05.out 2
 have fr3:=zab HX05.out 3
 have fr4:=zab HX05.out 4
 have fr5:=zab HX05.out 5
 have fr6:=zab HX05.out 6
 have fr7:=zab HX05.out 7
 have fr8:=zab HX05.out 8
 have fr9:=zab HX05.out 9
 have fr10:=zab HX05.out 10
 have fr11:=zab HX05.out 11
 have lb5:gb<w5.heap.size:=(Array.getElem?_eq_some_iff.1 HX5.out).1
 have l05:g0<w5.heap.size:=(Array.getElem?_eq_some_iff.1 HX05.out).1
 go_wp2
 refine bodyPost_ret (v:=.agg #[.slice ar2 8 cr2,.int .i64 m.pc,.int .i64 m.back,.bool m.ints,.bool m.wait,.int .i64 m.table,.int .i64 m.count,.int .i64 m.fin,.slice a4 256 c4,.slice ao2 m.out.length co2,.int .i64 m.ready,.int .i64 m.want]) (by simp[results,Tryd.results10,go_sem,r0,r1,r2,r3,r4,r5,r6,r7,r8,r9,r10,r11]) rfl ?_
 have h8:=HOK.out.regs
 have h256:=HOK.out.mem
 have hS0:=HS0.out
 have hS:=((((((((((((hS0.step 0 (.slice ar2 8 cr2)).step 1 (.int .i64 m.pc)).step 2 (.int .i64 m.back)).step 3 (.bool m.ints)).step 4 (.bool m.wait)).step 5 (.int .i64 m.table)).step 6 (.int .i64 m.count)).step 7 (.int .i64 m.fin)).step 8 (.slice a4 256 c4)).step 9 (.slice ao2 m.out.length co2)).step 10 (.int .i64 m.ready)).step 11 (.int .i64 m.want))
 generalize hWF:World.setCell _ ⟨g0,11,none⟩ (.int .i64 m.want)=WF at hS ⊢
 exact⟨ar2,cr2,a4,c4,ao2,co2,by rw[h8,h256],hS.hr,hS.hm,hS.ho,hS.below⟩
end
end Go.Proofs.YtflonfcemlfbdaaDoor
