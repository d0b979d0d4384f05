/- Several texts joined, each with its own heading in the notes: Space. A space is a memory. The host with all its spaces. No condition beyond those of each row. -/
import Derived.Test.YtflonfcemlfbdaaDoorYHu
import Derived.Handy
import Derived.StillTailTactics
import Derived.Deep.RegionWith
import Derived.Deep.RegionLaw
import Derived.Deep.CutBlock
import Derived.Deep.CutRange
import Derived.Deep.RegionHeld3
import Derived.Deep.LoopGhost
import Derived.KernelRfl
namespace Go.Proofs.YtflonfcemlfbdaaDoor
open Go Go.RowKit Go.ChangeShapes Go.WideShapes Go.Deep
set_option maxHeartbeats 8000000
set_option maxRecDepth 1000000
set_option linter.unusedVariables false
attribute [local go_sem ↓] Go.wp_at_zero Go.wp_at_succ
inductive StR (rs:List (List Int)) (zs pg:List Int) (p j:Nat) (v:Int):List (List Int)→List Int→List Int→Prop
 | take (k:Nat) (he:pg.getD p (-1) = -1) (hz:Fz zs k) (hk:k<zs.length):StR rs zs pg p j v ((rs.set k (List.replicate 16 0)).set k (((rs.set k (List.replicate 16 0)).getD k []).set j v)) (zs.set k 1) (pg.set p k)
 | one (n:Nat) (he:pg.getD p (-1)=n) (hn:n<zs.length) (h1:zs.getD n 0=1):StR rs zs pg p j v (rs.set n ((rs.getD n []).set j v)) zs pg
 | copy (n k:Nat) (z:Int) (he:pg.getD p (-1)=n) (hn:n<zs.length) (h0:zs.getD n 0=z) (h1:1<z) (hz:Fz zs k) (hk:k<zs.length):StR rs zs pg p j v (rs.set k ((rs.getD n []).set j v)) ((zs.set n (z-1)).set k 1) (pg.set p k)
def NoR(zs pg:List Int)(p:Nat):Prop:=(pg.getD p (-1) = -1∨∃n:Nat,pg.getD p (-1)=n∧n<zs.length∧1<zs.getD n 0)∧Fz zs (-1)
theorem ze4{zs:List Int}{k:Nat}(h:Fz zs k)(hk:k<zs.length):zs.getD k 0=0:=by
 rcases h with⟨j,e,_,h0,_⟩|⟨e,_⟩
 ·
  obtain rfl:j=k:=by omega
  exact h0
 ·omega
theorem zjY{zs:List Int}(h:Fz zs (-1)):∀j,j<zs.length→zs.getD j 0≠0:=by
 rcases h with⟨j,e,_⟩|⟨_,h⟩
 ·omega
 ·exact h
theorem zfO(zs:List Int):(∃k:Nat,Fz zs k∧k<zs.length)∨Fz zs (-1):=by
 obtain⟨i,hi⟩:=zk9 zs
 rcases id hi with⟨k,rfl,hk,_⟩|⟨rfl,_⟩
 ·exact Or.inl ⟨k,hi,hk⟩
 ·exact Or.inr hi
def PreR(rs:List (List Int))(zs pg:List Int)(p:Nat)(rs1:List (List Int))(zs1 pg1:List Int)(n:Nat):Prop:=(pg.getD p (-1)=n∧rs1=rs∧zs1=zs∧pg1=pg)∨(pg.getD p (-1) = -1∧Fz zs n∧n<zs.length∧rs1=rs.set n (List.replicate 16 0)∧zs1=zs.set n 1∧pg1=pg.set p n)
section
variable {rs rs' rs1:List (List Int)} {zs pg zs' pg' zs1 pg1:List Int} {oth:List (List Int)} {p j n:Nat} {v:Int}
theorem zcl{pg:List Int}{oth:List (List Int)}{f g:List Int→List Int}(h:∀q,q<(pg::oth).length→q≠0→f ((pg::oth).getD q [])=g ((pg::oth).getD q [])):oth.map f=oth.map g:=by
 apply List.map_congr_left
 intro o ho
 obtain⟨q,hq,rfl⟩:=List.getElem_of_mem ho
 have:=h (q+1) (by simpa using hq) (by omega)
 rw[List.getD_cons_succ,zau hq] at this
 exact this
theorem PreR.ok(h:HOk rs zs (pg::oth))(hp:p<16)(hr:PreR rs zs pg p rs1 zs1 pg1 n):HOk rs1 zs1 (pg1::oth)∧pg1.getD p (-1)=n∧memP rs1 pg1=memP rs pg∧oth.map (memP rs1)=oth.map (memP rs)∧zs1.length=zs.length∧rs1.length=rs.length∧Kn zs1 n:=by
 have hl:pg.length=16:=h.len pg (List.mem_cons_self ..)
 rcases hr with⟨he,rfl,rfl,rfl⟩|⟨he,hz,hk,rfl,rfl,rfl⟩
 ·
  have hm:(n:Int)∈pg1:=by rw[←he];exact zaO (by omega) _
  have hn:n<zs1.length:=by
   rcases h.rng pg1 (List.mem_cons_self ..) _ hm with e|e<;>omega
  have hc:=zbu (sps:=pg1::oth) (List.mem_cons_self ..) hm
  have hrf:=h.ref n hn
  exact⟨h,he,rfl,rfl,rfl,rfl,by omega,by omega,by rw[Int.toNat_natCast];omega⟩
 ·
  have ht:=h.take (i:=0) (by simp) hp he hk (ze4 hz hk)
  refine⟨ht.1,zak (by omega) _ _,ht.2.1,?_,by simp,by simp,by omega,by simp;omega,?_⟩
  ·exact List.map_congr_left (fun o ho=>ht.2.2 o (List.mem_cons_of_mem _ ho))
  ·rw[Int.toNat_natCast,zak hk];omega
theorem StR.pre(hr:PreR rs zs pg p rs1 zs1 pg1 n)(h1:zs1.getD n 0=1)(hn:n<zs1.length):StR rs zs pg p j v (rs1.set n ((rs1.getD n []).set j v)) zs1 pg1:=by
 rcases hr with⟨he,rfl,rfl,rfl⟩|⟨he,hz,hk,rfl,rfl,rfl⟩
 ·exact .one n he hn h1
 ·exact .take n he hz hk
theorem StR.ok(h:HOk rs zs (pg::oth))(hp:p<16)(hj:j<16)(hv:I64 v)(hr:StR rs zs pg p j v rs' zs' pg'):HOk rs' zs' (pg'::oth)∧memP rs' pg'=(memP rs pg).set (16*p+j) v∧oth.map (memP rs')=oth.map (memP rs)∧zs'.length=zs.length∧rs'.length=rs.length:=by
 have hl:pg.length=16:=h.len pg (List.mem_cons_self ..)
 cases hr with
 | take k he hz hk=>
  have ht:=h.take (i:=0) (by simp) hp he hk (ze4 hz hk)
  have hm0:memP (rs.set k (List.replicate 16 0)) (pg.set p k)=memP rs pg:=ht.2.1
  have ht1:HOk (rs.set k (List.replicate 16 0)) (zs.set k 1) (pg.set p k::oth):=ht.1
  have hw:=ht1.write (i:=0) (by simp) hp (n:=k) (zak (show p<pg.length by omega) _ _) (by simpa using hk) (zak hk _ _) hj hv
  refine⟨hw.1,?_,?_,by simp,by simp⟩
  ·rw[←hm0];exact hw.2.1
  ·
   rw[←show oth.map (memP (rs.set k (List.replicate 16 0)))=oth.map (memP rs) from List.map_congr_left (fun o ho=>ht.2.2 o (List.mem_cons_of_mem _ ho))]
   exact zcl (pg:=pg.set p k) (fun q hq h0=>hw.2.2 q hq h0)
 | one n he hn h1=>
  have hw:=h.write (i:=0) (by simp) hp (n:=n) he hn h1 hj hv
  exact⟨hw.1,hw.2.1,zcl (pg:=pg) (fun q hq h0=>hw.2.2 q hq h0),rfl,by simp⟩
 | copy n k z he hn h0 h1 hz hk=>
  have hw:=h.copy (i:=0) (by simp) hp (n:=n) he hn h0 h1 hk (ze4 hz hk) hj hv
  exact⟨hw.1,hw.2.1,List.map_congr_left (fun o ho=>hw.2.2 o (List.mem_cons_of_mem _ ho)),by simp,by simp⟩
theorem NoR.ok(h:HOk rs zs (pg::oth))(hp:p<16)(hr:NoR zs pg p):zs.length<16*(oth.length+1):=h.full (i:=0) (by simp) hp hr.1 (zjY hr.2)
end
def StoP(sb hb N:Nat)(oth om:List (List Int))(F:Nat→Prop)(mem:List Int)(x:Bool)(rs:List (List Int))(zs pg:List Int)(p j:Nat)(v:Int)(w:World)(e:Ending)(w':World):Prop:=OutF F w w'∧∃F',(∀g,F' g→F g∨w.heap.size≤g)∧((e=.returned (.bool true)∧∃rs' zs' ad ar cd cr vs pg',StR rs zs pg p j v rs' zs' pg'∧SpS sb hb N oth om w' F' (mem.set (16*p+j) v) x rs' zs' ad ar cd cr vs pg')∨(e=.returned (.bool false)∧NoR zs pg p∧∃ad ar cd cr vs,SpS sb hb N oth om w' F' mem true rs zs ad ar cd cr vs pg))
theorem zbw{pg:List Int}{p:Nat}{n:Int}(h:pg.getD p (-1)=n)(hp:p<pg.length):pg.set p n=pg:=by
 apply List.ext_getElem (by simp)
 intro i h1 h2
 rw[List.getElem_set]
 split
 ·subst_vars;rw[zau hp]
 ·rfl
theorem zjn{sb hb N:Nat}{oth om:List (List Int)}{w w2:World}{F:Nat→Prop}{mem:List Int}{x:Bool}{rs:List (List Int)}{zs:List Int}{ad ar:Option Addr}{cd cr:Nat}{vs:List Value}{pg:List Int}{p j:Nat}{v:Int}(h:SpS sb hb N oth om w F mem x rs zs ad ar cd cr vs pg)(hp:p<16)(hn:pg.getD p (-1) = -1∨∃n:Nat,pg.getD p (-1)=n∧n<zs.length∧1<zs.getD n 0)(hf:Fz zs (-1))(hb2:Below w.heap.size w w2)(hs:SpcS sb hb pg (if x=true then 7 else 0) w2):StoP sb hb N oth om F mem x rs zs pg p j v w (.returned (.bool false)) (w2.setCell ⟨sb,17,none⟩ (.int .i64 7)):=by
 have hsb:F sb:=by rw[h.blk];exact Or.inl rfl
 have hl:=h.len
 refine⟨(OutF.of hb2 F).setCell (Or.inl hsb) _,F,fun g hg=>Or.inl hg,Or.inr ⟨rfl,⟨hn,hf⟩,ad,ar,cd,cr,vs,?_⟩⟩
 have hx:=h.host.box
 have hne:hb≠sb:=fun e=>by have h1:=h.sp;unfold SpcS at h1;rw[←e,hx] at h1;injection h1 with h1;injection h1 with _ h2;exact absurd h2 (by decide)
 have hown:FrOwn 0 w2 (.slice ad rs.length cd) (.slice ar zs.length cr) rs zs vs:=zbv h.host.own hb2
 refine⟨⟨zah (zac hb2 hx (Array.getElem?_eq_some_iff.1 hx).1) hne _,hown.set hs (by decide) (by decide)⟩,?_,h.ok,h.n,h.mem,h.omm,h.blk,fun _=>by rw[←h.n];exact NoR.ok h.ok hp ⟨hn,hf⟩⟩
 rw[if_pos rfl]
 exact ziS hs hl 7
theorem zhO{sb hb N:Nat}{oth om:List (List Int)}{w w1 w2 w3:World}{F:Nat→Prop}{mem:List Int}{x:Bool}{rs:List (List Int)}{zs:List Int}{ad ar:Option Addr}{cd cr:Nat}{vs:List Value}{pg:List Int}{p j:Nat}{v:Int}{rs':List (List Int)}{zs' pg':List Int}{ad' ar':Option Addr}{cd' cr':Nat}{vs':List Value}(h:SpS sb hb N oth om w F mem x rs zs ad ar cd cr vs pg)(hp:p<16)(hj:j<16)(hv:I64 v)(hr:StR rs zs pg p j v rs' zs' pg')(ho:OutF F w w1)(hs1:sb<w1.heap.size)(hh1:hb<w1.heap.size)(hb2:Below w1.heap.size w1 w2)(hfo:FrOwn w1.heap.size w2 (.slice ad' rs'.length cd') (.slice ar' zs'.length cr') rs' zs' vs')(hb3:w3.heap[hb]?=some (.cells #[.slice ad' rs'.length cd',.slice ar' zs'.length cr'] 64 (0,0)))(hs3:SpcS sb hb pg' (if x=true then 7 else 0) w3)(ho3:OutF (fun g=>g=sb∨g=hb) w2 w3)(hF:∀g,g=sb∨g=hb→F g):StoP sb hb N oth om F mem x rs zs pg p j v w (.returned (.bool true)) w3:=by
 have hok:=StR.ok h.ok hp hj hv hr
 have hfr:FrOwn w1.heap.size w3 (.slice ad' rs'.length cd') (.slice ar' zs'.length cr') rs' zs' vs':=hfo.keep (fun g hg=>ho3.block g (hfo.frlt g hg).2 (fun e=>by have:=(hfo.frlt g hg).1;rcases e with rfl|rfl<;>omega))
 have hsz:=ho.size
 refine⟨(ho.trans (OutF.of hb2 F) (fun g q=>Or.inl q)).trans ho3 (fun g e=>Or.inl (hF g e)),fun g=>g=sb∨g=hb∨FrB (.slice ad' rs'.length cd') (.slice ar' zs'.length cr') vs' g,?_,Or.inl ⟨rfl,rs',zs',ad',ar',cd',cr',vs',pg',hr,⟨⟨hb3,hfr.base (Nat.zero_le _)⟩,hs3,hok.1,by rw[hok.2.2.2.1];exact h.n,by rw[h.mem];exact hok.2.1.symm,by rw[h.omm];exact hok.2.2.1.symm,rfl,h.full⟩⟩⟩
 rintro g (e|e|e)
 ·exact Or.inl (hF g (Or.inl e))
 ·exact Or.inl (hF g (Or.inr e))
 ·exact Or.inr (by have:=(hfr.frlt g e).1;omega)
theorem zc0{sb hb N:Nat}{oth om:List (List Int)}{w:World}{F:Nat→Prop}{mem:List Int}{x:Bool}{rs:List (List Int)}{zs:List Int}{ad ar:Option Addr}{cd cr:Nat}{vs:List Value}{pg:List Int}(h:SpS sb hb N oth om w F mem x rs zs ad ar cd cr vs pg){p j:Nat}(hp:p<16)(hj:j<16){v:Int}(hv:I64 v):Calls Tryd.prog 34 #[.pointer (some ⟨sb,0,none⟩),.int .i64 ((16*p+j:Nat):Int),.int .i64 v] w (StoP sb hb N oth om F mem x rs zs pg p j v w):=by
 have HH:=Lib.hid h
 have HV:=Lib.hid hv
 have hl:=h.len
 have hFs:F sb:=by rw[h.blk];exact Or.inl rfl
 have hFh:F hb:=by rw[h.blk];exact Or.inr (Or.inl rfl)
 have HF2:Hid (∀g,g=sb∨g=hb→F g):=Lib.hid (fun g e=>by rcases e with rfl|rfl;exact hFs;exact hFh)
 have c0:=zaW h.sp
 have c1:=zap h.sp hl hp
 have l1:=zaG h.sp
 clear h hv hFs hFh
 obtain⟨a,ha⟩:∃a:Int,((16*p+j:Nat):Int)=a:=⟨_,rfl⟩
 have HA:Hid (a=((16*p+j:Nat):Int)):=Lib.hid ha.symm
 have h2:¬a<0:=by omega
 have h3:¬256≤a:=by omega
 have hd:a.tdiv 16=(p:Int):=by rw[Int.tdiv_eq_ediv_of_nonneg (by omega)];omega
 have w1:IntKind.i64.wrap (p:Int)=(p:Int):=IntWalk.i64_in _ (by omega)
 have hpi:(p:Int)<16:=by omega
 have hp0:(0:Int)≤(p:Int):=by omega
 rw[ha]
 clear ha
 obtain⟨z,hz⟩:∃z,pg.getD p (-1)=z:=⟨_,rfl⟩
 have HZ:=Lib.hid hz
 rw[hz] at c1
 clear hz
 go_enter Tryd.func34,Tryd.ntmps34
 go_upto_region 4 with fail
 obtain⟨tb,htb⟩:∃tb,decide (z<0)=tb:=⟨_,rfl⟩
 have HTB:=Lib.hid htb
 clear htb
 go_cut [28] from 14 to 99 (fun s28 wx=>s28=.bool tb∧wx=w)
 case first=>
  by_cases hz0:z<0
  ·
   have HE:=Lib.hid (show tb=true from by rw[←HTB.out];exact decide_eq_true hz0)
   go_wp2_with fail
   go_meet
   exact⟨by rw[HE.out],rfl⟩
  ·
   have HE:=Lib.hid (show tb=false from by rw[←HTB.out];exact decide_eq_false hz0)
   go_wp2_with fail
   go_meet
   exact⟨by rw[HE.out],rfl⟩
 case rest=>
 obtain⟨rfl,hwc⟩:=hcut
 have hwc:=hwc.symm
 subst hwc
 go_upto_if 28 with fail
 go_cut [] from 8 to 99 (fun wx =>∃(rs1:List (List Int)) (zs1:List Int) (ad1 ar1:Option Addr) (cd1 cr1:Nat) (vs1:List Value) (pg1:List Int) (n:Nat),Hid (PreR rs zs pg p rs1 zs1 pg1 n)∧Hid (HostS hb rs1 zs1 ad1 ar1 cd1 cr1 vs1 wx)∧Hid (SpcS sb hb pg1 (if x=true then 7 else 0) wx)∧Hid (OutF F w wx)∧Hid (∀g,FrB (.slice ad1 rs1.length cd1) (.slice ar1 zs1.length cr1) vs1 g→F g∨w.heap.size≤g))
 case first=>
  cases tb with
  | false=>
   have hz0:¬z<0:=by have:=HTB.out;simpa using this
   obtain⟨n,hn⟩:∃n:Nat,pg.getD p (-1)=n:=⟨z.toNat,by rw[HZ.out];omega⟩
   have HN:=Lib.hid hn
   clear hn hz0
   go_wp2_with fail
   go_meet
   exact⟨rs,zs,ad,ar,cd,cr,vs,pg,n,Lib.hid (Or.inl ⟨HN.out,rfl,rfl,rfl⟩),Lib.hid HH.out.host,Lib.hid HH.out.sp,Lib.hid (OutF.refl _ _),Lib.hid (fun g hg=>Or.inl (by rw[HH.out.blk];exact Or.inr (Or.inr hg)))⟩
  | true=>
   have HZM:=Lib.hid (show pg.getD p (-1) = -1 from by
    have hz0:z<0:=by have:=HTB.out;simpa using this
    rcases HH.out.page hp with e|⟨n,e,_⟩
    ·exact e
    ·rw[HZ.out] at e;omega)
   rcases zfO zs with⟨k,hk,hkl⟩|hfull
   ·
    have HKZ:=Lib.hid (And.intro hk hkl)
    clear hk hkl
    go_upto_region 5 with fail
    refine zkC (Lib.hid HH.out.host.box) (Lib.hid HH.out.sp) hl hp (Lib.hid (fun W hb=>ziQ _ rs zs k W ((HH.out.host.own.reads HH.out.ok.bd).to hb.size (zae hb)) HH.out.ok.ok HKZ.out.1 HKZ.out.2)) ?_
    intros
    rename_i s8 s9 s10 w2 hcut
    obtain⟨fb,ad2,ar2,cd2,cr2,vs2,rfl,rfl,rfl,HFB,HFO,HB2⟩:=hcut
    have hx2:=zac HB2.out HH.out.host.box (Array.getElem?_eq_some_iff.1 HH.out.host.box).1
    have hs2:SpcS sb hb pg (if x=true then 7 else 0) w2:=zac HB2.out HH.out.sp l1
    have HX2:=Lib.hid hx2
    have HS2:=Lib.hid hs2
    clear hx2 hs2
    go_upto_region 9 with fail
    refine zla HX2 HS2 HFB hl hp ?_
    intros
    rename_i w3 hcut
    obtain⟨HB3,HS3,HO3⟩:=hcut
    go_wp2_with fail
    go_meet
    have hsz:=HB2.out.size
    have hhb:=(Array.getElem?_eq_some_iff.1 HH.out.host.box).1
    have hfr:FrOwn w.heap.size w3 (.slice ad2 (rs.set k (List.replicate 16 0)).length cd2) (.slice ar2 (zs.set k 1).length cr2) (rs.set k (List.replicate 16 0)) (zs.set k 1) vs2:=HFO.out.keep (fun g hg=>HO3.out.block g (HFO.out.frlt g hg).2 (fun e=>by have:=(HFO.out.frlt g hg).1;rcases e with rfl|rfl<;>omega))
    exact⟨_,_,ad2,ar2,cd2,cr2,vs2,pg.set p k,k,Lib.hid (Or.inr ⟨HZM.out,HKZ.out.1,HKZ.out.2,rfl,rfl,rfl⟩),Lib.hid ⟨HB3.out,hfr.base (Nat.zero_le _)⟩,HS3,Lib.hid ((OutF.of HB2.out F).trans HO3.out (fun g e=>Or.inl (HF2.out g e))),Lib.hid (fun g hg=>Or.inr (hfr.frlt g hg).1)⟩
   ·
    have HFL:=Lib.hid hfull
    clear hfull
    go_upto_region 5 with fail
    refine zkD (Lib.hid HH.out.host.box) (Lib.hid HH.out.sp) hl hp (Lib.hid (fun W hb=>zhD _ rs zs W ((HH.out.host.own.reads HH.out.ok.bd).to hb.size (zae hb)) HH.out.ok.ok HFL.out)) ?_
    intros
    rename_i s8 s9 s10 w2 hcut
    obtain⟨rfl,HB2⟩:=hcut
    have hs2:SpcS sb hb pg (if x=true then 7 else 0) w2:=zac HB2.out HH.out.sp l1
    have HS2:=Lib.hid hs2
    have c17:=zbp hs2 hl
    have g17:=zab hs2 17
    have l2:=zaG hs2
    clear hs2
    go_wp2_with fail
    go_ret
    exact zjn HH.out hp (Or.inl HZM.out) HFL.out HB2.out HS2.out
 case rest=>
 obtain⟨rs1,zs1,ad1,ar1,cd1,cr1,vs1,pg1,n,HPR,HHO,HSP,HOF,HBK⟩:=hcut
 have hok:=PreR.ok HH.out.ok hp HPR.out
 have hl1:pg1.length=16:=hok.1.len pg1 (List.mem_cons_self ..)
 have HOK:=Lib.hid hok
 have hszw:=HOF.out.size
 clear hok c0 c1 l1
 by_cases h1:zs1.getD n 0=1
 ·
  have H1:=Lib.hid h1
  clear h1
  go_upto_region 10 with fail
  refine zhN (n:=(n:Int)) (Lib.hid HHO.out.box) HSP hl1 hp (Lib.hid (fun W hb=>zhG _ rs1 zs1 n j v W ((HHO.out.own.reads HOK.out.1.bd).to hb.size (zae hb)) HOK.out.1.ok HOK.out.2.2.2.2.2.2 hj H1.out)) (Lib.hid HOK.out.2.1) hj HA ?_
  intros
  rename_i s11 s12 s13 w2 hcut
  obtain⟨fb,ad2,ar2,cd2,cr2,vs2,rfl,rfl,rfl,HFB,HFO,HB2⟩:=hcut
  have HX2:=Lib.hid (zac HB2.out HHO.out.box (Array.getElem?_eq_some_iff.1 HHO.out.box).1)
  have HS2:Hid (SpcS sb hb pg1 (if x=true then 7 else 0) w2):=Lib.hid (zac HB2.out HSP.out (zaG HSP.out))
  go_upto_region 14 with fail
  refine zjm HX2 HS2 HFB hl1 hp ?_
  intros
  rename_i w3 hcut
  obtain⟨HB3,HS3,HO3⟩:=hcut
  go_wp2_with fail
  go_ret
  exact zhO HH.out hp hj HV.out (StR.pre HPR.out H1.out (zcY HOK.out.1.ok HOK.out.2.2.2.2.2.2).1) HOF.out (zaG HSP.out) (Array.getElem?_eq_some_iff.1 HHO.out.box).1 HB2.out HFO.out HB3.out (by have h:=HS3.out;rw[zbw HOK.out.2.1 (by omega)] at h;exact h) HO3.out HF2.out
 ·
  have HK1:=HOK.out.2.2.2.2.2.2
  have h2:1<zs1.getD n 0:=by have:=(zcY HOK.out.1.ok HK1).2.2.2.1;omega
  have H2:=Lib.hid h2
  have HE:Hid (pg.getD p (-1)=n∧rs1=rs∧zs1=zs∧pg1=pg):=Lib.hid (by
   rcases HPR.out with e|⟨_,_,hk,_,e,_⟩
   ·exact e
   ·rw[e,zak hk] at h1;exact absurd rfl h1)
  clear h1 h2
  rcases zfO zs1 with⟨k,hk,hkl⟩|hfull
  ·
   have HKZ:=Lib.hid (And.intro hk hkl)
   clear hk hkl
   go_upto_region 10 with fail
   refine zhN (n:=(n:Int)) (Lib.hid HHO.out.box) HSP hl1 hp (Lib.hid (fun W hb=>zgn _ rs1 zs1 n j k v (zs1.getD n 0) W ((HHO.out.own.reads HOK.out.1.bd).to hb.size (zae hb)) HOK.out.1.ok HOK.out.2.2.2.2.2.2 hj rfl H2.out HKZ.out.1 HKZ.out.2)) (Lib.hid HOK.out.2.1) hj HA ?_
   intros
   rename_i s11 s12 s13 w2 hcut
   obtain⟨fb,ad2,ar2,cd2,cr2,vs2,rfl,rfl,rfl,HFB,HFO,HB2⟩:=hcut
   have HX2:=Lib.hid (zac HB2.out HHO.out.box (Array.getElem?_eq_some_iff.1 HHO.out.box).1)
   have HS2:Hid (SpcS sb hb pg1 (if x=true then 7 else 0) w2):=Lib.hid (zac HB2.out HSP.out (zaG HSP.out))
   go_upto_region 14 with fail
   refine zjm HX2 HS2 HFB hl1 hp ?_
   intros
   rename_i w3 hcut
   obtain⟨HB3,HS3,HO3⟩:=hcut
   go_wp2_with fail
   go_ret
   exact zhO HH.out hp hj HV.out (by obtain⟨e,e1,e2,e3⟩:=HE.out;subst e1 e2 e3;exact StR.copy n k _ e (zcY HOK.out.1.ok HOK.out.2.2.2.2.2.2).1 rfl H2.out HKZ.out.1 HKZ.out.2) HOF.out (zaG HSP.out) (Array.getElem?_eq_some_iff.1 HHO.out.box).1 HB2.out HFO.out HB3.out HS3.out HO3.out HF2.out
  ·
   have HFL:=Lib.hid hfull
   clear hfull
   go_upto_region 10 with fail
   refine zjX (n:=(n:Int)) (Lib.hid HHO.out.box) HSP hl1 hp (Lib.hid (fun W hb=>zgm _ rs1 zs1 n j v W ((HHO.out.own.reads HOK.out.1.bd).to hb.size (zae hb)) HOK.out.1.ok HOK.out.2.2.2.2.2.2 hj H2.out HFL.out)) (Lib.hid HOK.out.2.1) hj HA ?_
   intros
   rename_i s11 s12 s13 w2 hcut
   obtain⟨rfl,HB2⟩:=hcut
   have hs2:SpcS sb hb pg1 (if x=true then 7 else 0) w2:=zac HB2.out HSP.out (zaG HSP.out)
   have HS2:=Lib.hid hs2
   have c17:=zbp hs2 hl1
   have g17:=zab hs2 17
   have l2:=zaG hs2
   clear hs2
   go_wp2_with fail
   go_ret
   obtain⟨e,e1,e2,e3⟩:=HE.out
   subst e1 e2 e3
   obtain⟨ho,F',hF',hcase⟩:=zjn (w:=wc) (j:=j) (v:=v) ⟨HHO.out,HSP.out,HH.out.ok,HH.out.n,HH.out.mem,HH.out.omm,rfl,HH.out.full⟩ hp (Or.inr ⟨n,e,(zcY HOK.out.1.ok HOK.out.2.2.2.2.2.2).1,H2.out⟩) HFL.out HB2.out HS2.out
   have hbk:∀g,(g=sb∨g=hb∨FrB (.slice ad1 rs1.length cd1) (.slice ar1 zs1.length cr1) vs1 g)→F g∨w.heap.size≤g:=by
    rintro g (q|q|q)
    ·exact Or.inl (HF2.out g (Or.inl q))
    ·exact Or.inl (HF2.out g (Or.inr q))
    ·exact HBK.out g q
   exact⟨HOF.out.trans ho hbk,F',fun g hg=>(hF' g hg).elim (hbk g) (fun q=>Or.inr (by omega)),hcase⟩
theorem zjZ{a:Int}(h0:0≤a)(h1:a<256):∃p j:Nat,p<16∧j<16∧a=((16*p+j:Nat):Int):=⟨(a/16).toNat,(a%16).toNat,by omega,by omega,by omega⟩
theorem SpS.stay{sb hb N:Nat}{oth om:List (List Int)}{w w':World}{F:Nat→Prop}{mem:List Int}{x:Bool}{rs:List (List Int)}{zs:List Int}{ad ar:Option Addr}{cd cr:Nat}{vs:List Value}{pg:List Int}(h:SpS sb hb N oth om w F mem x rs zs ad ar cd cr vs pg)(hb':∀g,F g→w'.heap[g]?=w.heap[g]?):SpS sb hb N oth om w' F mem x rs zs ad ar cd cr vs pg:=by
 have hF:=h.blk
 refine⟨⟨(hb' hb (by rw[hF];exact Or.inr (Or.inl rfl))).trans h.host.box,h.host.own.keep (fun g hg=>hb' g (by rw[hF];exact Or.inr (Or.inr hg)))⟩,(hb' sb (by rw[hF];exact Or.inl rfl)).trans h.sp,h.ok,h.n,h.mem,h.omm,h.blk,h.full⟩
theorem SpS.lt{sb hb N:Nat}{oth om:List (List Int)}{w:World}{F:Nat→Prop}{mem:List Int}{x:Bool}{rs:List (List Int)}{zs:List Int}{ad ar:Option Addr}{cd cr:Nat}{vs:List Value}{pg:List Int}(h:SpS sb hb N oth om w F mem x rs zs ad ar cd cr vs pg):∀g,F g→g<w.heap.size:=by
 rw[h.blk]
 rintro g (rfl|rfl|hg)
 ·exact zaG h.sp
 ·exact(Array.getElem?_eq_some_iff.1 h.host.box).1
 ·exact(h.host.own.frlt g hg).2
theorem ze5{sb hb N:Nat}{oth om:List (List Int)}{w:World}{F:Nat→Prop}{mem:List Int}{x:Bool}(h:SpSt sb hb N oth om w F mem x){at_ z:Int}(h0:0≤at_)(h1:at_<256)(hz:WordZ z):Calls Tryd.prog 34 #[.pointer (some ⟨sb,0,none⟩),.int .i64 at_,.int .i64 z] w fun e w'=>OutF F w w'∧∃F',(∀g,F' g→F g∨w.heap.size≤g)∧((e=.returned (.bool true)∧SpSt sb hb N oth om w' F' (mem.set at_.toNat z) x)∨(e=.returned (.bool false)∧SpSt sb hb N oth om w' F' mem true)):=by
 obtain⟨rs,zs,ad,ar,cd,cr,vs,pg,hs⟩:=h
 obtain⟨p,j,hp,hj,rfl⟩:=zjZ h0 h1
 refine(zc0 hs hp hj hz.i64).mono ?_
 rintro e w' ⟨ho,F',hF',hc⟩
 refine⟨ho,F',hF',?_⟩
 rcases hc with⟨rfl,rs',zs',ad',ar',cd',cr',vs',pg',_,h'⟩|⟨rfl,_,ad',ar',cd',cr',vs',h'⟩
 ·exact Or.inl ⟨rfl,rs',zs',ad',ar',cd',cr',vs',pg',h'⟩
 ·exact Or.inr ⟨rfl,rs,zs,ad',ar',cd',cr',vs',pg,h'⟩
theorem zaR(sb hb N:Nat)(oth om:List (List Int)):MemI 39 39 34 (.pointer (some ⟨sb,0,none⟩)) (SpSt sb hb N oth om) where
 nL:=fun w=>rfl
 mL:=fun w=>rfl
 eL:=fun args w=>rfl
 eS:=fun args w=>rfl
 nS:=fun w=>rfl
 mS:=fun w=>rfl
 load:=fun w F mem x at_ h h0 h1=>zdk h h0 h1
 store:=fun w F mem x at_ z h h0 h1 hz=>ze5 h h0 h1 hz
 stay:=fun w w' F mem x h hb hs=>by
  obtain⟨rs,zs,ad,ar,cd,cr,vs,pg,h⟩:=h
  exact⟨rs,zs,ad,ar,cd,cr,vs,pg,h.stay hb⟩
 lt:=fun w F mem x h=>by
  obtain⟨rs,zs,ad,ar,cd,cr,vs,pg,h⟩:=h
  exact h.lt
structure HoS(hb N:Nat)(sps:List (List Int))(w:World)(rs:List (List Int))(zs:List Int)(ad ar:Option Addr)(cd cr:Nat)(vs:List Value):Prop where
 host:HostS hb rs zs ad ar cd cr vs w
 ok:HOk rs zs sps
 n:zs.length=N
def HoF(hb:Nat)(rs:List (List Int))(zs:List Int)(ad ar:Option Addr)(cd cr:Nat)(vs:List Value)(g:Nat):Prop:=g=hb∨FrB (.slice ad rs.length cd) (.slice ar zs.length cr) vs g
theorem SpS.hos{sb hb N:Nat}{oth om:List (List Int)}{w:World}{F:Nat→Prop}{mem:List Int}{x:Bool}{rs:List (List Int)}{zs:List Int}{ad ar:Option Addr}{cd cr:Nat}{vs:List Value}{pg:List Int}(h:SpS sb hb N oth om w F mem x rs zs ad ar cd cr vs pg):HoS hb N (pg::oth) w rs zs ad ar cd cr vs:=⟨h.host,h.ok,h.n⟩
theorem HoS.sp{sb hb N:Nat}{oth:List (List Int)}{w:World}{rs:List (List Int)}{zs:List Int}{ad ar:Option Addr}{cd cr:Nat}{vs:List Value}{pg:List Int}(h:HoS hb N (pg::oth) w rs zs ad ar cd cr vs)(hs:SpcS sb hb pg 0 w):SpS sb hb N oth (oth.map (memP rs)) w (fun g=>g=sb∨HoF hb rs zs ad ar cd cr vs g) (memP rs pg) false rs zs ad ar cd cr vs pg:=
 ⟨h.host,by rw[if_neg (by decide)];exact hs,h.ok,h.n,rfl,rfl,rfl,fun e=>by cases e⟩
theorem HoS.stay{hb N:Nat}{sps:List (List Int)}{w w':World}{rs:List (List Int)}{zs:List Int}{ad ar:Option Addr}{cd cr:Nat}{vs:List Value}(h:HoS hb N sps w rs zs ad ar cd cr vs)(hb':∀g,HoF hb rs zs ad ar cd cr vs g→w'.heap[g]?=w.heap[g]?):HoS hb N sps w' rs zs ad ar cd cr vs:=
 ⟨⟨(hb' hb (Or.inl rfl)).trans h.host.box,h.host.own.keep (fun g hg=>hb' g (Or.inr hg))⟩,h.ok,h.n⟩
theorem HoS.lt{hb N:Nat}{sps:List (List Int)}{w:World}{rs:List (List Int)}{zs:List Int}{ad ar:Option Addr}{cd cr:Nat}{vs:List Value}(h:HoS hb N sps w rs zs ad ar cd cr vs):∀g,HoF hb rs zs ad ar cd cr vs g→g<w.heap.size:=by
 rintro g (rfl|hg)
 ·exact(Array.getElem?_eq_some_iff.1 h.host.box).1
 ·exact(h.host.own.frlt g hg).2
def prePg(pg:List Int)(q:Nat):List Int:=pg.take q++List.replicate (16-q) (-1)
def sufPg(pg:List Int)(q:Nat):List Int:=List.replicate q (-1)++pg.drop q
theorem zgs{pg:List Int}(h:pg.length=16):prePg pg 16=pg:=by
 unfold prePg
 rw[List.take_of_length_le (by omega)]
 simp
theorem ziT{pg:List Int}(h:pg.length=16){q:Nat}(hq:q<16):(prePg pg q).getD q (-1) = -1:=by
 unfold prePg
 rw[List.getD_eq_getElem?_getD,List.getElem?_append_right (by rw[List.length_take];omega),←List.getD_eq_getElem?_getD,zbG]
theorem zel{pg:List Int}(h:pg.length=16){q:Nat}(hq:q≤16):(prePg pg q).length=16:=by
 unfold prePg
 rw[List.length_append,List.length_take,List.length_replicate];omega
theorem zem{pg:List Int}(h:pg.length=16){q:Nat}(hq:q≤16)(i:Nat):(prePg pg q)[i]?=if i<q then pg[i]? else if i<16 then some (-1) else none:=by
 unfold prePg
 by_cases hi:i<q
 ·rw[if_pos hi,List.getElem?_append_left (by rw[List.length_take];omega),List.getElem?_take,if_pos hi]
 ·
  rw[if_neg hi,List.getElem?_append_right (by rw[List.length_take];omega),List.length_take,List.getElem?_replicate]
  by_cases h16:i<16
  ·rw[if_pos h16,if_pos (by omega)]
  ·rw[if_neg h16,if_neg (by omega)]
theorem zgt{pg:List Int}(h:pg.length=16){q:Nat}(hq:q<16):prePg pg (q+1)=(prePg pg q).set q (pg.getD q (-1)):=by
 apply List.ext_getElem?
 intro i
 rw[zem h (by omega),List.getElem?_set,zem h (by omega),zel h (by omega)]
 by_cases hi:q=i
 ·
  subst hi
  rw[if_pos (by omega),if_pos rfl,if_pos hq,List.getElem?_eq_getElem (by omega),zau (by omega)]
 ·
  rw[if_neg hi]
  by_cases hi2:i<q
  ·rw[if_pos hi2,if_pos (by omega)]
  ·rw[if_neg hi2,if_neg (by omega)]
theorem zdm{pg:List Int}(h:pg.length=16):sufPg pg 16=List.replicate 16 (-1):=by
 unfold sufPg
 rw[List.drop_of_length_le (by omega),List.append_nil]
theorem ziU{pg:List Int}{q:Nat}:(sufPg pg q).getD q (-1)=pg.getD q (-1):=by
 unfold sufPg
 rw[List.getD_eq_getElem?_getD,List.getElem?_append_right (by rw[List.length_replicate];omega),List.length_replicate,Nat.sub_self,List.getElem?_drop,Nat.add_zero,←List.getD_eq_getElem?_getD]
theorem zc1{pg:List Int}(h:pg.length=16){q:Nat}(hq:q≤16):(sufPg pg q).length=16:=by
 unfold sufPg
 rw[List.length_append,List.length_drop,List.length_replicate];omega
theorem zen{pg:List Int}(h:pg.length=16){q:Nat}(hq:q≤16)(i:Nat):(sufPg pg q)[i]?=if i<q then some (-1) else pg[i]?:=by
 unfold sufPg
 by_cases hi:i<q
 ·rw[if_pos hi,List.getElem?_append_left (by rw[List.length_replicate];omega),List.getElem?_replicate,if_pos hi]
 ·
  rw[if_neg hi,List.getElem?_append_right (by rw[List.length_replicate];omega),List.length_replicate,List.getElem?_drop]
  congr 1;omega
theorem zdn{pg:List Int}(h:pg.length=16){q:Nat}(hq:q<16):sufPg pg (q+1)=(sufPg pg q).set q (-1):=by
 apply List.ext_getElem?
 intro i
 rw[zen h (by omega),List.getElem?_set,zen h (by omega),zc1 h (by omega)]
 by_cases hi:q=i
 ·
  subst hi
  rw[if_pos (by omega),if_pos rfl,if_pos hq]
 ·
  rw[if_neg hi]
  by_cases hi2:i<q
  ·rw[if_pos hi2,if_pos (by omega)]
  ·rw[if_neg hi2,if_neg (by omega)]
theorem zeo:∀{pg:List Int},pg.length=16→(#[.int .i64 (pg.getD 0 (-1)),.int .i64 (pg.getD 1 (-1)),.int .i64 (pg.getD 2 (-1)),.int .i64 (pg.getD 3 (-1)),.int .i64 (pg.getD 4 (-1)),.int .i64 (pg.getD 5 (-1)),.int .i64 (pg.getD 6 (-1)),.int .i64 (pg.getD 7 (-1)),.int .i64 (pg.getD 8 (-1)),.int .i64 (pg.getD 9 (-1)),.int .i64 (pg.getD 10 (-1)),.int .i64 (pg.getD 11 (-1)),.int .i64 (pg.getD 12 (-1)),.int .i64 (pg.getD 13 (-1)),.int .i64 (pg.getD 14 (-1)),.int .i64 (pg.getD 15 (-1))]:Array Value)=(pg.map (Value.int .i64)).toArray
 | [x0,x1,x2,x3,x4,x5,x6,x7,x8,x9,x10,x11,x12,x13,x14,x15],_=>rfl
end Go.Proofs.YtflonfcemlfbdaaDoor
