/- The law hourglasslaw.DeckSeeks returns true at every setup, tape and list of counts whose bulk is at most 1048576 (the second form), the table laid as the program's text lays it. -/
import Derived.Test.YtflonfcemlfbdaaDoorRows
import Derived.Test.YtflonfcemlfbdaaDoorYMem
import Derived.Test.YtflonfcemlfbdaaDoorYFacts
import Derived.WalkKit
import Derived.ProofKit
import Derived.OpenShut
import Derived.ShutString
import Derived.ChangeOld
import Derived.Below
import Derived.Test.YtflonfcemlfbdaaDoorYAlc
import Derived.Test.YtflonfcemlfbdaaDoorYBk
import Derived.Test.YtflonfcemlfbdaaDoorYVp
import Derived.Test.YtflonfcemlfbdaaDoorYSt
import Derived.Test.YtflonfcemlfbdaaDoorTie
import Derived.Test.YtflonfcemlfbdaaDoorCards
import Derived.SevenTiedAt
import Derived.Handy
import Derived.StillTailTactics
import Derived.Deep.RegionWith
import Derived.Deep.RegionLaw
import Derived.Deep.CutBlock
import Derived.Deep.CutRange
namespace Go.Proofs.YtflonfcemlfbdaaDoor.lDeckSeeks
open Go Go.RowKit Go.ChangeShapes Go.WideShapes Go.ChangeAt Go.Deep
set_option maxHeartbeats 8000000
set_option maxRecDepth 100000
open Go.ChangeMaps (open_string shut_string)
set_option linter.unusedVariables false
set_option linter.unusedSimpArgs false
theorem shape{a ev kp:Int}{img:List Int}{b:List UInt8}{cnt:Int}{zs:List Int}{w w':World}{e:Ending}(h:zcu a ev kp img b cnt zs w e w'):∃x c,e=.returned (.tuple #[x,.int .i64 c]):=by
 rcases h.2 with⟨c,_,h,_⟩|⟨_,_,_,_,va,ca,l,_,_,h⟩
 ·exact⟨_,_,h⟩
 ·exact⟨_,_,h⟩
theorem zk0 {a ev kp : Int} {img : List Int} {b : List UInt8} {cnt : Int} {zs : List Int} {w w' : World} {e : Ending} (h : (∃ c, c ≠ 0 ∧ e = .returned (.tuple #[.slice none 0 0, .int .i64 c]) ∧
  ((¬zaT a ev kp∧c=2)∨(zaT a ev kp∧∃l,ChkR img b cnt c l)∨(zaT a ev kp∧∃l,ChkR img b cnt 0 l∧c=2∧∃z∈zs,z<0∨cnt<z))) ∨
  (zaT a ev kp∧∃L,ChkR img b cnt 0 L∧(∀z∈zs,0≤z∧z≤cnt)∧∃va ca l,OutsR w.heap.size w' (.slice va zs.length ca) l∧l.map (·.m)=zs.map (fun z=>runM L (zas img) z.toNat)∧e=.returned (.tuple #[.slice va zs.length ca,.int .i64 0]))):∃x c,e=.returned (.tuple #[x,.int .i64 c]):=by
 rcases h with⟨c,_,h,_⟩|⟨_,_,_,_,va,ca,l,_,_,h⟩
 ·exact⟨_,_,h⟩
 ·exact⟨_,_,h⟩
theorem zki{img:List Int}{b:List UInt8}{cnt:Int}{l:List Ev}:¬ChkR img b cnt 7 l:=fun h=>zke h rfl
theorem zli {a ev kp : Int} {img : List Int} {b : List UInt8} {cnt : Int} {zs : List Int} {w w' : World} {e : Ending} {c : Int} (h7 : ¬ c = 7) (h0 : c ≠ 0) (hc : (¬ zaT a ev kp ∧ c = 2) ∨ (zaT a ev kp ∧ ∃ l, ChkR img b cnt c l) ∨ (zaT a ev kp ∧ ∃ l, ChkR img b cnt 0 l ∧ ((c = 2 ∧ ∃ z ∈ zs, z < 0 ∨ cnt < z) ∨ (c = 7 ∧ a < 16 * (kp + 2))))) (h : (∃ c, c ≠ 0 ∧ e = .returned (.tuple #[.slice none 0 0, .int .i64 c]) ∧
  ((¬zaT a ev kp∧c=2)∨(zaT a ev kp∧∃l,ChkR img b cnt c l)∨(zaT a ev kp∧∃l,ChkR img b cnt 0 l∧c=2∧∃z∈zs,z<0∨cnt<z))) ∨
  (zaT a ev kp∧∃L,ChkR img b cnt 0 L∧(∀z∈zs,0≤z∧z≤cnt)∧∃va ca l,OutsR w.heap.size w' (.slice va zs.length ca) l∧l.map (·.m)=zs.map (fun z=>runM L (zas img) z.toNat)∧e=.returned (.tuple #[.slice va zs.length ca,.int .i64 0]))):e=.returned (.tuple #[.slice none 0 0,.int .i64 c]):=by
 rcases h with⟨d,hd0,rfl,hd⟩|⟨hs,L,hch,hal,va,ca,l,_,_,rfl⟩
 ·
  have key:d=c:=by
   rcases hc with⟨h1,rfl⟩|⟨h1,l1,h2⟩|⟨h1,l1,h2,⟨rfl,h3⟩|⟨h3,_⟩⟩
   ·
    rcases hd with⟨_,e⟩|⟨k,_⟩|⟨k,_⟩
    ·exact e
    ·exact absurd k h1
    ·exact absurd k h1
   ·
    rcases hd with⟨k,_⟩|⟨_,l2,k⟩|⟨_,l2,k,_⟩
    ·exact absurd h1 k
    ·exact(k.det h2).1
    ·exact absurd (h2.det k).1 h0
   ·
    rcases hd with⟨k,_⟩|⟨_,l2,k⟩|⟨_,l2,k,e,_⟩
    ·exact absurd h1 k
    ·exact absurd (k.det h2).1 hd0
    ·exact e
   ·exact absurd h3 h7
  rw[key]
 ·
  rcases hc with⟨h1,_⟩|⟨_,l1,h2⟩|⟨_,l1,_,⟨_,z,hz,h3⟩|⟨h3,_⟩⟩
  ·exact absurd hs h1
  ·exact absurd (h2.det hch).1 h0
  ·have:=hal z hz;omega
  ·exact absurd h3 h7
theorem walk(W:World)(ht:Tab W)(v0:Value)(a ev kp:Int)(h0:zjd v0 a ev kp)(v1:Value)(img:List Int)(b:List UInt8)(cnt:Int)(h1:zkn W.heap.size W v1 img b cnt)(v2:Value)(zs:List Int)(h2:Ints W.heap.size W v2 zs)(hzs:zs.length≤1048576):Calls Tryd.prog 3 #[v0,v1,v2] W fun e W'=>e=.returned (.bool true)∧Below W.heap.size W W':=by
 obtain⟨rfl,-⟩:=h0
 obtain⟨vi,vb,rfl,hi,hb,hc⟩:=h1
 have HI:=Lib.hid hi
 have HBY:=Lib.hid hb
 have HZ:=Lib.hid h2
 have HT:=Lib.hid ht
 have HC:=Lib.hid hc
 obtain⟨ai,ci,rfl,-⟩:=id hi
 obtain⟨ab,cb,rfl,-⟩:=id hb
 obtain⟨az,cz,rfl,-⟩:=id h2
 clear hi hb hc h2 ht
 have HB1:=Lib.hid (below_alloc2 W (.cells #[.int .i64 a,.int .i64 ev,.int .i64 kp] 23 (0,0)) (.cells #[.slice ai img.length ci,.slice ab b.length cb,.int .i64 cnt] 27 (0,0)))
 obtain⟨w1,hw1⟩:∃w1,w1=(W.alloc (.cells #[.int .i64 a,.int .i64 ev,.int .i64 kp] 23 (0,0))).alloc (.cells #[.slice ai img.length ci,.slice ab b.length cb,.int .i64 cnt] 27 (0,0)):=⟨_,rfl⟩
 rw[←hw1] at HB1
 have HW1:=Lib.hid hw1
 obtain⟨gs,hgs⟩:∃g,g=W.heap.size:=⟨_,rfl⟩
 obtain⟨gt,hgt⟩:∃g,g=W.heap.size+1:=⟨_,rfl⟩
 have HG:=Lib.hid (And.intro hgs hgt)
 have HXS:=Lib.hid (show w1.heap[gs]?=some (.cells #[.int .i64 a,.int .i64 ev,.int .i64 kp] 23 (0,0)) from by rw[hw1,hgs];exact(zaj (by simp)).trans (alloc_at rfl))
 have HXT:=Lib.hid (show w1.heap[gt]?=some (.cells #[.slice ai img.length ci,.slice ab b.length cb,.int .i64 cnt] 27 (0,0)) from by rw[hw1,hgt];exact alloc_at (by simp))
 clear hw1 hgs hgt
 have lgs:gs<w1.heap.size:=(Array.getElem?_eq_some_iff.1 HXS.out).1
 have lgt1:gt<w1.heap.size:=(Array.getElem?_eq_some_iff.1 HXT.out).1
 have lww:W.heap.size≤w1.heap.size:=HB1.out.size
 have HSK:=Lib.hid (fun (w5:World) (a5:Option Addr) (c5:Nat) (hb:Below W.heap.size W w5) (hz:Ints w5.heap.size w5 (.slice a5 zs.length c5) zs)=>zgA (a:=a) (ev:=ev) (kp:=kp) (HT.out.to hb) (HI.out.to hb.size (zae hb)) (HBY.out.to hb.size (zae hb)) HC.out hz (by omega))
 have HSO:=Lib.hid (fun (w5:World) (hb:Below W.heap.size W w5)=>zez a ev kp _ _ _ img b cnt zs w5 (HI.out.to hb.size (zae hb)) (HBY.out.to hb.size (zae hb)) HC.out (HZ.out.to hb.size (zae hb)) (by omega))
 have HV:=Lib.hid (show SlV 17592186043904 w1.heap.size w1.drew (.slice az zs.length cz) (zs.map (Value.int .i64)) from ((HZ.out.to HB1.out.size (zae HB1.out)).to (B':=w1.drew.heap.size) (Nat.le_refl _) (fun _ _ _=>rfl)).vals)
 have HZ64:=Lib.hid HZ.out.i64
 have s0:w1.cell? ⟨gs,0,none⟩=some (.int .i64 a):=zaa HXS.out 0
 have s1:w1.cell? ⟨gs,1,none⟩=some (.int .i64 ev):=zaa HXS.out 1
 have s2:w1.cell? ⟨gs,2,none⟩=some (.int .i64 kp):=zaa HXS.out 2
 have t0:w1.cell? ⟨gt,0,none⟩=some (.slice ai img.length ci):=zaa HXT.out 0
 have t1:w1.cell? ⟨gt,1,none⟩=some (.slice ab b.length cb):=zaa HXT.out 1
 have t2:w1.cell? ⟨gt,2,none⟩=some (.int .i64 cnt):=zaa HXT.out 2
 go_enter Tryd.func3,Tryd.ntmps3
 go_upto_region 1 with fail
 rw[←HW1.out,←HG.out.2,←HG.out.1]
 go_cut [7,8] from 11 to 18 (fun s7 s8 wx =>∃w5,Hid (Below W.heap.size W w5)∧Hid (w5.heap[gs]?=some (.cells #[.int .i64 a,.int .i64 ev,.int .i64 kp] 23 (0,0)))∧Hid (w5.heap[gt]?=some (.cells #[.slice ai img.length ci,.slice ab b.length cb,.int .i64 cnt] 27 (0,0)))∧Hid (zcu a ev kp img b cnt zs w5 (.returned (.tuple #[s7,s8])) wx))
 case first=>
  go_region_law (first|(refine zc7 w1.drew rfl (.const (.slice none 0 0)) (.tmp 14) 24 rfl w1.heap.size 3 (.int .i64 0) 8 Tryd.underlying24 zbh rfl (.slice none 0 0) 0 [] rfl (World.ownsRow_nil _ _ _ _) (.slice az zs.length cz) 17592186043904 w1.heap.size (zs.map (Value.int .i64)) rfl HV.out (zdv zs) (by simp;unfold maxLen;omega) (by simp;omega) (Nat.le_refl _) ?_;intro a5 c5 w5 hown5 hgrow5;simp only[List.nil_append,List.length_map,Nat.zero_add] at hown5 ⊢;have HB5:=Lib.hid (show Below W.heap.size W w5 from (below_drewN HB1.out 1).grown (w:=w1.drew) hgrow5 lww (fun k hk=>(by cases hk)));have HI5:=Lib.hid (show Ints w5.heap.size w5 (.slice a5 zs.length c5) zs from zaq hown5 (by omega) HZ64.out);have HX5:=Lib.hid ((hgrow5.block gs lgs (by intro e;cases e)).trans HXS.out);have HY5:=Lib.hid ((hgrow5.block gt lgt1 (by intro e;cases e)).trans HXT.out);have u0:w5.cell? ⟨gs,0,none⟩=some (.int .i64 a):=zaa HX5.out 0;have u1:w5.cell? ⟨gs,1,none⟩=some (.int .i64 ev):=zaa HX5.out 1;have u2:w5.cell? ⟨gs,2,none⟩=some (.int .i64 kp):=zaa HX5.out 2;have v0:w5.cell? ⟨gt,0,none⟩=some (.slice ai img.length ci):=zaa HY5.out 0;have v1:w5.cell? ⟨gt,1,none⟩=some (.slice ab b.length cb):=zaa HY5.out 1;have v2:w5.cell? ⟨gt,2,none⟩=some (.int .i64 cnt):=zaa HY5.out 2;have lu:gs<w5.heap.size:=(Array.getElem?_eq_some_iff.1 HX5.out).1;have lv:gt<w5.heap.size:=(Array.getElem?_eq_some_iff.1 HY5.out).1;clear hown5 hgrow5)|(go_simp;go_at_call 4;refine(HSK.out w5 a5 c5 HB5.out HI5.out).mono ?_;rintro e w6 hsk;obtain⟨x7,c8,rfl⟩:=shape hsk;have HK6:=Lib.hid hsk;clear hsk))
  all_goals go_wp2_with fail
  all_goals go_meet
  all_goals exact⟨w5,HB5,HX5,HY5,HK6⟩
 case rest=>
  obtain⟨w5,HB5,HX5,HY5,HK6⟩:=hcut
  clear HSK HV HZ64 HXS HXT s0 s1 s2 t0 t1 t2 lgs lgt1
  skip
  obtain⟨x7,c8,hx⟩:=shape HK6.out
  injection hx with hx
  injection hx with hx
  simp only[Array.mk.injEq,List.cons.injEq,and_true] at hx
  obtain⟨rfl,rfl⟩:=hx
  have HB6:=Lib.hid (HB5.out.trans (HK6.out.1.mono HB5.out.size))
  have HX6:=Lib.hid (zac HK6.out.1 HX5.out (Array.getElem?_eq_some_iff.1 HX5.out).1)
  have HY6:=Lib.hid (zac HK6.out.1 HY5.out (Array.getElem?_eq_some_iff.1 HY5.out).1)
  generalize hwq:wc=w6 at *
  have s0:w6.cell? ⟨gs,0,none⟩=some (.int .i64 a):=zaa HX6.out 0
  have s1:w6.cell? ⟨gs,1,none⟩=some (.int .i64 ev):=zaa HX6.out 1
  have s2:w6.cell? ⟨gs,2,none⟩=some (.int .i64 kp):=zaa HX6.out 2
  have t0:w6.cell? ⟨gt,0,none⟩=some (.slice ai img.length ci):=zaa HY6.out 0
  have t1:w6.cell? ⟨gt,1,none⟩=some (.slice ab b.length cb):=zaa HY6.out 1
  have t2:w6.cell? ⟨gt,2,none⟩=some (.int .i64 cnt):=zaa HY6.out 2
  have lgs:gs<w6.heap.size:=(Array.getElem?_eq_some_iff.1 HX6.out).1
  have lgt1:gt<w6.heap.size:=(Array.getElem?_eq_some_iff.1 HY6.out).1
  go_wp2_with fail
  refine(HSO.out w6 HB6.out).mono ?_
  rintro e w7 ⟨hb7,hcase⟩
  have HB7:=Lib.hid (HB6.out.trans (hb7.mono HB6.out.size))
  have HX7:=Lib.hid (zac hb7 HX6.out lgs)
  have HBS:=Lib.hid hb7
  clear HSO s0 s1 s2 t0 t1 t2
  obtain⟨hb6,hk6⟩:=HK6.out
  clear HK6 hb7
  rcases hk6 with⟨c,hc0,hx,hcs⟩|⟨hset,L,hch,hal,va,ca,l,ho,hlm,hx⟩
  ·
   injection hx with hx
   injection hx with hx
   simp only[Array.mk.injEq,List.cons.injEq,and_true,Value.int.injEq,true_and] at hx
   obtain⟨rfl,rfl⟩:=hx
   by_cases h7:c8=7
   ·
    subst h7
    have HLOW:=Lib.hid (show zaT a ev kp∧a<16*(kp+2) from by
     rcases hcs with⟨-,h⟩|⟨-,l,h⟩|⟨h1,l,-,⟨h,-⟩|⟨-,h⟩⟩
     ·omega
     ·exact absurd h (zki)
     ·omega
     ·exact⟨h1,h⟩)
    have HEN:=Lib.hid (fun w=>zif a ev kp w HLOW.out.1 HLOW.out.2)
    clear hcs hc0
    have s0:w7.cell? ⟨gs,0,none⟩=some (.int .i64 a):=zaa HX7.out 0
    have s1:w7.cell? ⟨gs,1,none⟩=some (.int .i64 ev):=zaa HX7.out 1
    have s2:w7.cell? ⟨gs,2,none⟩=some (.int .i64 kp):=zaa HX7.out 2
    have lg7:gs<w7.heap.size:=(Array.getElem?_eq_some_iff.1 HX7.out).1
    skip
    obtain⟨x9,c10,rfl⟩:=zk0 hcase
    clear hcase
    go_wp2_with fail
    refine(HEN.out _).mono ?_
    rintro e w8 ⟨rfl,hb8⟩
    have HB8:=Lib.hid (HB7.out.trans (hb8.mono HB7.out.size))
    clear hb8 HEN
    go_wp2_with fail
    go_ret
    exact⟨zaZ (by simp),HB8.out⟩
   ·
    have hne7:(c8 == 7)=false:=beq_eq_false_iff_ne.2 h7
    have h7z:¬c8=7:=h7
    have HSAME:=Lib.hid (zli h7 hc0 hcs hcase)
    obtain rfl:=HSAME.out
    clear hcs hcase hc0
    have HM:=Lib.hid (fun q:Nat=>zdr (n:=0) none none 0 0 [] [] (w7.drewN q) (OutsR.nil 0 _) (OutsR.nil 0 _) rfl rfl (by omega) rfl)
    go_wp2_with fail
    refine(HM.out 0).mono ?_
    rintro e w8 ⟨rfl,hb8⟩
    have HB8:=Lib.hid (HB7.out.trans (Below.mono (show Below w7.heap.size w7 w8 from hb8) HB7.out.size))
    clear hb8
    go_wp2_with fail
    go_ret
    exact⟨zaZ (by simp),HB8.out⟩
  ·
   injection hx with hx
   injection hx with hx
   simp only[Array.mk.injEq,List.cons.injEq,and_true,Value.int.injEq,true_and] at hx
   obtain⟨rfl,rfl⟩:=hx
   rcases hcase with⟨c,hc0,rfl,hcs⟩|⟨-,L2,hch2,-,vb2,cb2,l2,ho2,hlm2,rfl⟩
   ·
    exfalso
    rcases hcs with⟨h,-⟩|⟨-,l3,h⟩|⟨-,l3,-,-,z,hz,h⟩
    ·exact h hset
    ·exact hc0 (h.det hch).1
    ·have:=hal z hz;omega
   ·
    obtain rfl:=(hch.det hch2).2
    have n1:l.length=zs.length:=by have:=congrArg List.length hlm;simpa using this
    have n2:l2.length=zs.length:=by have:=congrArg List.length hlm2;simpa using this
    have HM:=Lib.hid (zdr va vb2 ca cb2 l l2 w7 (ho.below HBS.out) ho2 n1 n2 (by omega) (hlm.trans hlm2.symm))
    clear hch hal ho hlm hch2 ho2 hlm2 n1 n2
    go_wp2_with fail
    refine HM.out.mono ?_
    rintro e w8 ⟨rfl,hb8⟩
    have HB8:=Lib.hid (HB7.out.trans (hb8.mono HB7.out.size))
    clear hb8
    go_wp2_with fail
    go_ret
    exact⟨zaZ (by simp),HB8.out⟩
theorem reads(os:Os){H:Type}(enc:TypeId×Value→H):∃x,DataW.whole enc Tryd.prog ((World.doorLaid Tryd.prog 400 os).forCall (fun _ _=>0) ⟨#[],#[.agg #[.int .i64 0,.int .i64 0,.int .i64 0],.agg #[.slice none 0 0,.slice none 0 0,.int .i64 0],.slice none 0 0],[]⟩).memory Tryd.f3.params.toList Rows.deckSeeksSpec.vars false (#[.agg #[.int .i64 0,.int .i64 0,.int .i64 0],.agg #[.slice none 0 0,.slice none 0 0,.int .i64 0],.slice none 0 0]:Array Value).toList 8=some x∧Rows.uptoSmall H (x.1++x.2.1)=true:=zi9 (by kernel_rfl)
theorem lifted (os : Os) (started : os.Started) (H : Type) (enc : TypeId × Value → H) (F : Stop.Interp) :
  ReturnsInHanded {} Tryd.checked os 3 .any ((Rows.OpenSpec.upto Rows.deckSeeksSpec).preRow enc Tryd.prog Tryd.f3 Rows.deckSeeksUptoRow.domain false Rows.deckSeeksUptoRow.laid) (((Rows.OpenSpec.upto Rows.deckSeeksSpec).at F).post enc Tryd.prog Tryd.f3 false true false false):=by
 obtain⟨x0,hx,hbk⟩:=reads os enc
 refine returnsInHanded_of_row (C:=Tryd.checked) (s:=Rows.OpenSpec.upto Rows.deckSeeksSpec) Facts.own started (by kernel_rfl) Tryd.func3
  (zeA (World.doorLaid Tryd.prog 400 os) #[.agg #[.int .i64 0,.int .i64 0,.int .i64 0],.agg #[.slice none 0 0,.slice none 0 0,.int .i64 0],.slice none 0 0] rfl (World.shaped_of_RefB (by kernel_rfl) (by kernel_rfl)) (by kernel_rfl) (OpenSpec.preRow_of_cond 8 hx rfl (fun k hk=>by cases hk;exact hbk) (by kernel_rfl) (ziY os _))) ?_
 intro W base args ds gs before hval0 hW _ hcond hsz0 hL _ _
 have hsz:(DataW.weightsEach Tryd.prog (Tryd.f3.params.toList++Rows.deckSeeksSpec.plain.varTypes Tryd.prog) (ds++gs)).all (·≤reachBytes)=true:=hsz0
 have hval:∀(j:Nat) t v,Tryd.f3.params[j]?=some t→args[j]?=some v→Value.okWide Tryd.prog W .any base t v:=hval0
 have hW':=hW
 obtain⟨p,q,hA0,hV,rfl,hfz,hnd⟩:=hW
 have hA:DataW.TrodAll enc Tryd.prog W 0 (fun _=>true) true Tryd.f3.params.toList args.toList ds p:=hA0
 rw[Tryd.params3] at hA hval hsz
 obtain⟨v0,vs0,d0,ds0,p0,q0,hargs,rfl,rfl,h0,r0⟩:=trodAll_cons hA
 obtain⟨v1,vs1,d1,ds1,p1,q1,rfl,rfl,rfl,h1,r1⟩:=trodAll_cons r0
 obtain⟨v2,vs2,d2,ds2,p2,q2,rfl,rfl,rfl,h2,r2⟩:=trodAll_cons r1
 obtain⟨rfl,rfl,rfl⟩:=trodAll_nil r2
 obtain rfl:args=#[v0,v1,v2]:=by cases args;simp_all
 obtain⟨rfl,rfl⟩:=trodVars_none hV
 have k0:=h0
 have lt0:∀x∈p0,x.block<W.heap.size:=by obtain⟨m,hm⟩:=k0;exact DataW.trod_lt m _ _ _ hm
 obtain⟨x0_0,x0_1,x0_2,w0⟩:=zeE (hval 0 23 v0 rfl rfl) h0 (zeC hsz (j:=0) rfl rfl)
 have k1:=h1
 have lt1:∀x∈p1,x.block<W.heap.size:=by obtain⟨m,hm⟩:=k1;exact DataW.trod_lt m _ _ _ hm
 obtain⟨x1_0,x1_1,x1_2,w1⟩:=zf1 (hval 1 27 v1 rfl rfl) h1 (zeC hsz (j:=1) rfl rfl)
 have k2:=h2
 have lt2:∀x∈p2,x.block<W.heap.size:=by obtain⟨m,hm⟩:=k2;exact DataW.trod_lt m _ _ _ hm
 obtain⟨x2_0,w2⟩:=zf0 (hval 2 24 v2 rfl rfl) h2 (zeC hsz (j:=2) rfl rfl)
 clear hA0 hval0
 have hbulk:Rows.uptoBulkAll [d0,d1,d2]≤1048576:=by have h9:=hcond _ rfl;simp only[List.append_nil] at h9;exact of_decide_eq_true h9
 have u2:=Nat.le_trans (zi8 Tryd.underlying24 (by kernel_rfl) k2 w2) (Nat.le_trans (zih (by simp)) hbulk)
 refine(walk W (zfb hL) v0 x0_0 x0_1 x0_2 w0 v1 x1_0 x1_1 x1_2 w1 v2 x2_0 w2 u2).mono fun e W' ⟨he,bel⟩=>?_
 subst he
 exact⟨_,rfl,_,_,_,[],_,[],hW',trodAll_mk1 (shut_bool Tryd.underlying4 _),(trodAll_cons_mk (Below.trod Facts.laidOut (by kernel_rfl) (of_decide_eq_true (by kernel_rfl)) k0 bel lt0) (trodAll_cons_mk (Below.trod Facts.laidOut (by kernel_rfl) (of_decide_eq_true (by kernel_rfl)) k1 bel lt1) (trodAll_cons_mk (Below.trod Facts.laidOut (by kernel_rfl) (of_decide_eq_true (by kernel_rfl)) k2 bel lt2) trodAll_mk0))),rfl,bel.frame _,fun h=>by cases h⟩
theorem closed:joinedFacts Tryd.prog 3 Tryd.f3 (Rows.OpenSpec.upto Rows.deckSeeksSpec).bare Rows.deckSeeksUptoRow=true:=by
 unfold joinedFacts
 rw[Facts.enters,Facts.lifts,Facts.made]
 kernel_rfl
theorem over:Rows.deckSeeksUptoRow.holds Tryd.pinned (Rows.OpenSpec.upto Rows.deckSeeksSpec):=
 OpenClaim.holds_of_cond 3 Tryd.f3 rfl rfl rfl rfl rfl rfl rfl ⟨rfl,rfl,rfl,rfl,rfl⟩ rfl rfl rfl rfl rfl (by kernel_rfl) Tryd.func3 closed
  (of_decide_eq_true (by kernel_rfl)) (by unfold Func.isWrapper;first|(rw[if_pos (by decide +kernel)];kernel_rfl)|(rw[if_neg (by decide +kernel)];exact⟨rfl,rfl⟩))
  (fun os started H enc _ F=>by rw[OpenClaim.pre_eq_preRow];exact lifted os started H enc F)
theorem proved:Rows.DeckSeeksUptoCardSaid:=
 Claim7.holds_tied_plain_at .later [] [.data] true (true, "4279e21c5cb956510527c06fa89436825139f13d00c397cf3b8aed24c735186f") false over (fun _ h => by cases h) (by kernel_rfl) (fun _ h => by cases h) deckSeeksUpto_row_tie rfl ⟨rfl, rfl⟩ (by kernel_rfl) rfl
  (fun f fn hf hfn=>by
   obtain rfl : f = 3 := Option.some.inj ((show Tryd.prog.funcNamed "hourglass/hourglasslaw.DeckSeeks" = some 3 by kernel_rfl).symm.trans hf) |>.symm
   obtain rfl:fn=Tryd.f3:=(Option.some.inj (Tryd.func3.symm.trans hfn)).symm
   exact⟨by kernel_rfl,fun j t ht=>by
    rw[Tryd.params3] at ht
    have hm:t∈[23,27,24]:=by simpa using Array.mem_of_getElem? ht
    have hall:([23,27,24].all fun u=>!Tryd.prog.wantsStandIn u)=true:=by kernel_rfl
    exact(show Tryd.prog.wantsStandIn t=false by simpa using List.all_eq_true.1 hall t hm)⟩)
  (by kernel_rfl)
#print axioms proved
end Go.Proofs.YtflonfcemlfbdaaDoor.lDeckSeeks
