/- Several texts joined, each with its own heading in the notes: The contract of the reference's EventsOf. The document's TapeFault. No condition beyond those of each row. -/
import Derived.Test.YtflonfcemlfbdaaDoorYTn
import Derived.Deep.CutBlock
import Derived.Laws.IdiomStrings
import Derived.Deep.RegionLaw
import Derived.Test.YtflonfcemlfbdaaDoorYNg
namespace Go.Proofs.YtflonfcemlfbdaaDoor
open Go Go.RowKit Go.ChangeShapes Go.WideShapes Go.Deep
set_option maxHeartbeats 16000000
set_option maxRecDepth 100000
set_option linter.unusedVariables false
theorem zgD(v:Value)(b:List UInt8)(w:World)(hf:BytesR w.heap.size w v b)(h:60000<b.length):Calls Tryd.prog 26 #[v] w (DecPost b w):=by
 have HR:=Lib.hid (show DecR b 1 [] from Or.inl ⟨h,rfl,rfl⟩)
 obtain⟨a,cap,rfl,hl,hl2,hc⟩:=hf
 clear hc
 have hi:(60000:Int)<(b.length:Int):=by omega
 go_enter Tryd.func26,Tryd.ntmps26
 go_wp2
 go_ret2
 exact DecPost.no HR.out (Below.refl _ _)
theorem zex(v:Value)(b:List UInt8)(w:World)(hf:BytesR w.heap.size w v b)(h:b.length<5):Calls Tryd.prog 26 #[v] w (DecPost b w):=by
 have HR:=Lib.hid (show DecR b 5 [] from Or.inr (Or.inl ⟨h,rfl,rfl⟩))
 obtain⟨a,cap,rfl,hl,hl2,hc⟩:=hf
 clear hc
 have hi:(b.length:Int)<5:=by omega
 go_enter Tryd.func26,Tryd.ntmps26
 go_wp2
 go_ret2
 exact DecPost.no HR.out (Below.refl _ _)
theorem Tp.below{w0 w w':World}{g:Nat}{B bs:List UInt8}{e:Int}(h:Tp w0 g B bs e w)(hb:Below w.heap.size w w'):Tp w0 g B bs e w':=by
 obtain⟨a,c,i,hx,hr⟩:=h.box
 exact⟨⟨a,c,i,zac hb hx h.lt,hr⟩,h.ge,h.b.trans (hb.mono h.b.size)⟩
theorem OutSt.below{B:Nat}{ps:List (Ev×Value)}{a:Option Addr}{c:Nat}{w w':World}(h:OutSt B ps a c w)(hb:Below w.heap.size w w'):OutSt B ps a c w':=
 ⟨own_below h.row hb (Nat.le_refl _),fun p hp=>⟨own_below (h.data p hp).1 hb (Nat.le_refl _),(h.data p hp).2⟩⟩
theorem zfg{B:Nat}{w:World}{bb off n cap:Nat}{p:List UInt8}{d0 d1 d2 d3:UInt8}(hf:BytesR B w (.slice (some ⟨bb,off,none⟩) (n+4) cap) (p++[d0,d1,d2,d3]))(hp:p.length=n):BytesR B w (.slice (some ⟨bb,off+n,none⟩) 4 (cap-n)) [d0,d1,d2,d3]:=by
 subst hp
 obtain⟨a',c',hv,hl,hl2,hc⟩:=hf
 injection hv with h1 h2 h3
 subst h1 h3
 rw[List.length_append] at hl2
 simp only[List.length_cons,List.length_nil] at hl2
 refine⟨_,_,rfl,by simp,by simp;omega,fun j hj=>?_⟩
 have hj4:j<4:=by simpa using hj
 obtain⟨b1,o1,vi,ha,hbb,q,hvi⟩:=hc (p.length+j) (by rw[List.length_append];simp;omega)
 injection ha with ha
 injection ha with x1 x2
 subst x1 x2
 refine⟨_,_,vi,rfl,hbb,by rw[Nat.add_assoc];exact q,?_⟩
 rw[List.getElem_append_right (by omega)] at hvi
 simpa using hvi
theorem zfh(ad:Option Addr)(N n cap:Nat)(p:List UInt8)(d0 d1 d2 d3:UInt8)(w:World)(hf:BytesR w.heap.size w (.slice ad N cap) (p++[d0,d1,d2,d3]))(hp:p.length=n)(hN:N=n+4)(hn:1≤n)(hn2:n≤59996):Calls Tryd.prog 26 #[.slice ad N cap] w (DecPost (p++[d0,d1,d2,d3]) w):=by
 have hb:=zch hf (k:=n) (by rw[List.length_append];omega)
 rw[show (p++[d0,d1,d2,d3]).take n=p by rw[←hp];simp] at hb
 have HBP:=Lib.hid hb
 rw[←hp] at hb
 have HSM:=Lib.hid (fun (W:World) (hbl:Below w.heap.size w W)=>zgW _ p W (hb.to hbl.size (zae hbl)))
 rw[hp] at HSM
 clear hb
 rw[hN] at hf
 obtain⟨bb,off,rfl,hbb,hcap,_,_,_,_⟩:=zbW hf hp
 have HT4:=Lib.hid (zfg hf hp)
 obtain⟨sA,hsA⟩:∃s:ByteArray,s=⟨(sumB p).toArray⟩:=⟨_,rfl⟩
 obtain⟨sB,hsB⟩:∃s:ByteArray,s=⟨[d0,d1,d2,d3].toArray⟩:=⟨_,rfl⟩
 have HSA:=Lib.hid hsA
 have HSB:=Lib.hid hsB
 have HDB:=Lib.hid (fun (c:Int) (l:List Ev) (hs:sumB p=[d0,d1,d2,d3]) (h:BodyR p c l)=>DecR.body hp hn hn2 hs h)
 have HDS:=Lib.hid (fun (hs:sumB p≠[d0,d1,d2,d3])=>DecR.sum hp hn hn2 hs)
 have hs4:(sumB p).length=4:=rfl
 generalize hsum:sumB p=sP at *
 have HS4:=Lib.hid hs4
 have HSUM:=Lib.hid hsum
 have HP:=Lib.hid hp
 clear hp hf hsA hsB hs4 hsum
 have hN1:(N:Int)-4=(n:Int):=by omega
 have hN2:(N:Int)≤60000:=by omega
 have hN3:(5:Int)≤(N:Int):=by omega
 have hN4:n≤N:=by omega
 have hN5:N≤cap:=by omega
 have hN6:n≤cap:=by omega
 have hN7:N-n=4:=by omega
 have hN8:(n:Int)≤(N:Int):=by omega
 have hN9:¬cap=n:=by omega
 have hN10:IntKind.i64.wrap ((N:Int)-4)=(n:Int):=by rw[hN1];exact IntWalk.i64_in _ (by omega)
 have hN11:IntKind.i64.wrap (n:Int)=(n:Int):=IntWalk.i64_in _ (by omega)
 have hN12:(0:Int)≤(n:Int):=by omega
 have hN13:(n:Int)≤(cap:Int):=by omega
 have hN14:(N:Int)≤(cap:Int):=by omega
 clear hN hcap
 go_enter Tryd.func26,Tryd.ntmps26
 go_upto_region 5 with fail
 go_cut [33] (fun s33 wx =>∃t:Bool,s33=.bool t∧Hid ((t=true∧sA.toList≠sB.toList)∨(t=false∧sA.toList=sB.toList))∧Hid (Below w.heap.size w wx))
 case first=>
  have hbd:Below w.heap.size w w.drew:=below_drewN (Below.refl _ _) 1
  have HBD:=Lib.hid hbd
  have HV0:=Lib.hid (zci (HT4.out.to hbd.size (zae hbd)))
  rw[←HSB.out] at HV0
  have kB0:=HV0.out
  clear hbd HV0
  go_region_with (first
   | (go_at_call 41;refine(HSM.out _ HBD.out).mono ?_;rintro en w3 ⟨a3,c3,rfl,hown3,hb3⟩;rw[HS4.out] at hown3;rw[HS4.out];have HB3:=Lib.hid (HBD.out.trans (hb3.mono HBD.out.size));have hv3:=zci (HT4.out.to HB3.out.size (zae HB3.out));rw[←HSB.out] at hv3;have hw3:=zci (n:=4) (by have:=zdY (a:=a3) (c:=c3) (bs:=sP) (by rw[HS4.out];exact hown3) (by rw[HS4.out];omega);rw[HS4.out] at this;exact this);rw[←HSA.out] at hw3;clear hown3 hb3))
  all_goals (go_wp2_with fail;go_meet)
  all_goals (
   refine⟨_,rfl,?_,HB3⟩
   refine Lib.hid ?_
   by_cases hss:sA.toList=sB.toList
   ·exact Or.inr ⟨by rw[hss];simp,hss⟩
   ·exact Or.inl ⟨by simpa using hss,hss⟩)
 case rest=>
  obtain⟨t,rfl,HTT,HBC⟩:=hcut
  rcases HTT.out with⟨rfl,hne⟩|⟨rfl,heq⟩
  ·
   have HPO:=Lib.hid (HDS.out (fun e=>hne (by rw[HSA.out,HSB.out,e])))
   clear hne
   go_wp2
   go_ret2
   exact DecPost.no HPO.out HBC.out
  ·
   have hs0:sP=[d0,d1,d2,d3]:=by rw[HSA.out,HSB.out,ByteArray.toList_mk,ByteArray.toList_mk] at heq;exact heq
   have HDB2:=Lib.hid (fun (c:Int) (l:List Ev) (h:BodyR p c l)=>HDB.out c l hs0 h)
   clear heq
   have hcs:=HBC.out.size
   have HB2:=Lib.hid (show Tp w wc.heap.size p p 0 (wc.alloc (.cells #[.slice (some ⟨bb,off,none⟩) n cap,.int .i64 0,.int .i64 0] 96 (0,0))) from ⟨⟨_,cap,0,by rw[HP.out];exact alloc_at rfl,by rw[HP.out];exact HBP.out,rfl,Nat.zero_le _⟩,hcs,HBC.out.alloc hcs _⟩)
   obtain⟨e1,m,r1,hnum⟩:∃e1 m r1,numP 0 0 p=(e1,m,r1):=⟨_,_,_,rfl⟩
   have HNUM:=Lib.hid hnum
   have HNN:=Lib.hid (zcC w wc.heap.size p p _ HB2.out (e0:=0) hnum)
   have hml:=zaX (e:=0) hnum
   clear hnum hs0 HDB HSM HT4 HSA HSB
   go_wp2_with fail
   refine HNN.out.mono ?_
   rintro en w2 ⟨rfl,hr2,hg2⟩
   have HR2:=Lib.hid hr2
   have hs2:=hr2.lt
   generalize hg:wc.heap.size=g at *
   clear hr2 hg2 HNN HB2
   by_cases hm:1000<m
   ·
    have hm2:(1000:Int)<(m:Int):=by omega
    have HPO:=Lib.hid (HDB2.out 1 [] ⟨e1,m,r1,HNUM.out,Or.inl ⟨hm,rfl,rfl⟩⟩)
    clear hm
    go_wp2
    go_ret2
    exact DecPost.no HPO.out HR2.out.b
   ·
    have hm2:(m:Int)≤1000:=by omega
    have HE0:=Lib.hid (show e1≠0→m=0 from zd3 HNUM.out)
    clear hN1 hN2 hN3 hN4 hN5 hN6 hN7 hN8 hN9 hN10 hN11 hN12 hN13 hN14
    go_upto_block 0 with fail
    refine zka HR2 HE0 (by omega) ?_
    intros
    rename_i s6 s7 s8 wc hcut
    obtain⟨ps,a,c,e,cs,rfl,hpl2,HR,HO,HF⟩:=hcut
    obtain⟨ab,cb,j,hxb,hbb2,hcs,hj⟩:=HR.out.box
    have q0:wc.cell? ⟨g,0,none⟩=some (.slice ab p.length cb):=zaa hxb 0
    have q1:wc.cell? ⟨g,1,none⟩=some (.int .i64 j):=zaa hxb 1
    have q2:wc.cell? ⟨g,2,none⟩=some (.int .i64 e):=zaa hxb 2
    have f2:=zab hxb 2
    have lg:=HR.out.lt
    clear hxb hbb2 HR2 hs2
    rcases HF.out with⟨he,hcase⟩|⟨rfl,rfl,hfin⟩
    ·
     have heb:(e == 0)=false:=by rw[beq_eq_false_iff_ne];exact he
     have hen:(e != 0)=true:=by rw[bne_iff_ne];exact he
     have HPO:=Lib.hid (HDB2.out e [] ⟨e1,m,r1,HNUM.out,by
      rcases hcase with⟨h1,h2⟩|⟨h1,ev,r,h2⟩
      ·exact Or.inr (Or.inl ⟨by omega,h1,h2,rfl⟩)
      ·exact Or.inr (Or.inr ⟨by omega,h1,e,ev,r,h2,Or.inl ⟨he,rfl,rfl⟩⟩)⟩)
     clear he hcase HF hcs
     go_wp2_with fail
     go_quiet (fail)
     go_wp2_with fail
     go_quiet (fail)
     go_wp2
     go_ret2
     exact DecPost.no HPO.out (below_drewN (below_drewN HR.out.b _) _)
    ·
     by_cases hce:cs=[]
     ·
      subst hce
      have hjl:¬j<p.length:=by
       intro h
       have:=congrArg List.length hcs
       rw[List.length_drop] at this
       simp at this
       omega
      have hjd:decide ((j:Int)<(p.length:Int))=false:=by rw[decide_eq_false_iff_not];omega
      have hjd':decide (j<p.length)=false:=by rw[decide_eq_false_iff_not];exact hjl
      have HFIN:=Lib.hid hfin
      have HFA:=Lib.hid (fun (n:Nat)=>zeK _ (ps.map (·.1)) (wc.drewN n) ((HO.out.drewN n).evs (by omega)))
      clear hfin HF hcs
      go_wp2_with fail
      go_quiet (fail)
      go_wp2_with fail
      refine(HFA.out _).mono ?_
      rintro en w5 ⟨d,hd,rfl,hb5⟩
      have HT5:=Lib.hid ((HR.out.drewN _).below hb5)
      have HO5:=Lib.hid ((HO.out.drewN _).below hb5)
      obtain⟨t2,tf2⟩:=HT5.out.c2
      have lg5:=HT5.out.lt
      have HT6:=Lib.hid (HT5.out.err d)
      clear hb5 q0 q1 q2 f2 hjd hjd' hjl
      by_cases hd0:d=0
      ·
       subst hd0
       have HPO:=Lib.hid (HDB2.out 0 (ps.map (·.1)) ⟨0,m,r1,HNUM.out,Or.inr (Or.inr ⟨by omega,rfl,0,_,[],HFIN.out,Or.inr (Or.inr ⟨rfl,rfl,hd,rfl⟩)⟩)⟩)
       have HO6:=Lib.hid (HO5.out.kept_lt (zaK w5 g 2 (.int .i64 0)) (by omega))
       clear hd
       go_wp2
       go_ret2
       exact⟨0,_,_,HPO.out,rfl,HO6.out.evs (by omega),HT6.out.b⟩
      ·
       have hdn:(d != 0)=true:=by rw[bne_iff_ne];exact hd0
       have HPO:=Lib.hid (HDB2.out d [] ⟨0,m,r1,HNUM.out,Or.inr (Or.inr ⟨by omega,rfl,0,_,[],HFIN.out,Or.inr (Or.inr ⟨rfl,rfl,hd,by rw[if_neg hd0]⟩)⟩)⟩)
       have hcell:=HT6.out.c2.1
       clear hd hd0
       go_wp2_with fail
       go_quiet (fail)
       go_wp2
       go_ret2
       exact DecPost.no HPO.out (below_drewN HT6.out.b _)
     ·
      have hjl:j<p.length:=by
       rcases Nat.lt_or_ge j p.length with h|h
       ·exact h
       ·exact absurd (by rw[hcs,List.drop_eq_nil_of_le h]) hce
      have hjd:decide ((j:Int)<(p.length:Int))=true:=by rw[decide_eq_true_iff];omega
      have hjd':decide (j<p.length)=true:=by rw[decide_eq_true_iff];exact hjl
      have HPO:=Lib.hid (HDB2.out 4 [] ⟨0,m,r1,HNUM.out,Or.inr (Or.inr ⟨by omega,rfl,0,_,cs,hfin,Or.inr (Or.inl ⟨rfl,hce,rfl,rfl⟩)⟩)⟩)
      clear hfin HF hcs hce
      go_wp2_with fail
      go_quiet (fail)
      go_wp2_with fail
      go_quiet (fail)
      go_wp2
      go_ret2
      exact DecPost.no HPO.out (below_drewN ((HR.out.drewN _).err 4).b _)
theorem zey(v:Value)(b:List UInt8)(w:World)(hf:BytesR w.heap.size w v b):Calls Tryd.prog 26 #[v] w (DecPost b w):=by
 by_cases h1:60000<b.length
 ·exact zgD v b w hf h1
 ·
  by_cases h2:b.length<5
  ·exact zex v b w hf h2
  ·
   obtain⟨ad,cap,hv,hrest⟩:=id hf
   clear hrest
   subst hv
   obtain⟨n,hn⟩:∃n,b.length=n+4:=⟨b.length-4,by omega⟩
   obtain⟨d0,d1,d2,d3,hd⟩:=len4 (show (b.drop n).length=4 by rw[List.length_drop];omega)
   have hb:b=b.take n++[d0,d1,d2,d3]:=by rw[←hd,List.take_append_drop]
   have hp:(b.take n).length=n:=by rw[List.length_take];omega
   generalize hN:b.length=N at *
   rw[hb] at hf ⊢
   exact zfh ad N n cap _ d0 d1 d2 d3 w hf hp hn (by omega) (by omega)
end Go.Proofs.YtflonfcemlfbdaaDoor
namespace Go.Proofs.YtflonfcemlfbdaaDoor
open Go Go.RowKit Go.ChangeShapes Go.WideShapes Go.ChangeAt
set_option maxHeartbeats 4000000
set_option maxRecDepth 100000
set_option linter.unusedVariables false
theorem zdN(vi ve:Value)(img:List Int)(b:List UInt8)(cnt:Int)(w:World)(hi:Ints w.heap.size w vi img)(hb:BytesR w.heap.size w ve b)(hc:I64 cnt):Calls Tryd.prog 12 #[.agg #[vi,ve,.int .i64 cnt]] w (ChkPost img b cnt w):=by
 have HI:=Lib.hid hi
 have HB:=Lib.hid hb
 obtain⟨ai,ci,rfl,_⟩:=id hi
 obtain⟨ae,ce,rfl,_⟩:=id hb
 clear hi hb
 have hnc:newC img=0∨newC img≠0:=by omega
 generalize hcc:newC img=nc at hnc
 go_enter Tryd.func12,Tryd.ntmps12
 go_wp2_with fail
 refine(zcs _ img _ (HI.out.to (by simp) (zaw _ _))).mono ?_
 rintro e w1 ⟨ar,cr,am,cm,ao,co,he,hown,hb1⟩
 rw[Mach.agg] at he
 rw[hcc] at he
 subst he
 have hx:=zac hb1 (g:=w.heap.size) (alloc_at rfl) (by simp)
 have lt1:w.heap.size<w1.heap.size:=by have:=hb1.size;simp at this;omega
 have q0:w1.cell? ⟨w.heap.size,0,none⟩=some (.slice ai img.length ci):=zaa hx 0
 have q1:w1.cell? ⟨w.heap.size,1,none⟩=some (.slice ae b.length ce):=zaa hx 1
 have q2:w1.cell? ⟨w.heap.size,2,none⟩=some (.int .i64 cnt):=zaa hx 2
 have HB1:=Lib.hid ((zai w _).trans (hb1.mono (by simp)))
 have HBA:=Lib.hid (fun O=>(HB1.out).alloc (Nat.le_of_lt lt1) O)
 have HX:=Lib.hid hx
 have HNC:=Lib.hid hnc
 clear hx hb1 hown
 rcases HNC.out with h0|h0
 ·
  subst h0
  go_wp2_with (go_at_call 13;refine(zjv _ _ _ _).mono ?_;rintro e w' (⟨rfl,rfl,hlo,hhi⟩|⟨rfl,rfl,hno⟩))
  ·
   have HR:=Lib.hid (And.intro hlo hhi)
   clear hlo hhi
   go_wp2_with fail
   refine(zey _ b _ (HB.out.to (HBA.out _).size (zae (HBA.out _)))).mono ?_
   rintro e w2 ⟨d,l,vo,hdec,rfl,hev,hb2⟩
   have hx2:=zac hb2 (g:=w.heap.size) ((zaj lt1).trans HX.out) (by simp;omega)
   have lt2:w.heap.size<w2.heap.size:=by have:=hb2.size;simp at this;omega
   have p2:w2.cell? ⟨w.heap.size,2,none⟩=some (.int .i64 cnt):=zaa hx2 2
   have HB2:=Lib.hid ((HBA.out _).trans (hb2.mono (by simp;omega)))
   have HEV:=Lib.hid hev
   have HDE:=Lib.hid hdec
   clear hx2 hb2 q0 q1 q2
   by_cases hd:d=0
   ·
    subst hd
    have HMO:=Lib.hid (fun i hi=>zfJ hdec (i:=i) hi)
    have HLEN:=Lib.hid (zb2 hdec).2.ok.2
    clear hdec
    obtain⟨al,cl,rfl,hll,_,hcell⟩:=hev
    have HC:=Lib.hid hcell
    clear hcell
    have HNO:=Lib.hid (show ∀(i:Nat) (h:i<l.length),cnt≤l[i].at_→ChkR img b cnt 9 [] from fun i h hle=>Or.inr (Or.inr ⟨hcc,HR.out.1,HR.out.2,0,_,HDE.out,Or.inr (Or.inl ⟨rfl,⟨i,h,hle⟩,rfl,rfl⟩)⟩))
    have HYES:=Lib.hid (show (∀(i:Nat) (h:i<l.length),l[i].at_<cnt)→ChkR img b cnt 0 l from fun h=>Or.inr (Or.inr ⟨hcc,HR.out.1,HR.out.2,0,_,HDE.out,Or.inr (Or.inr ⟨rfl,h,rfl,rfl⟩)⟩))
    have hlen:=HLEN.out
    go_wp2_with fail
    go_loopg [7] l.length (fun gh s7 wr =>∃k q:Nat,k≤l.length∧gh=l.length-k∧s7=.int .i64 k∧wr=w2.drewN q∧Hid (∀(i:Nat) (h:i<l.length),i<k→l[i].at_<cnt))
    case atStart=>exact⟨0,0,Nat.zero_le _,by omega,rfl,rfl,Lib.hid (fun i h h0=>absurd h0 (Nat.not_lt_zero _))⟩
    case round=>
     obtain⟨k,q,hk,rfl,rfl,rfl,HALL⟩:=hrel
     by_cases hlt:k<l.length
     ·
      obtain⟨bb,off,cs,ha,hbb,hcs,hcell,dd,cd,hcs2,i1,i2,hint⟩:=HC.out k hlt
      subst ha hcs2
      have k0:w2.cell? ⟨bb,off+k*3,none⟩=some (.int .i64 l[k].at_):=hcell 0 (by simp)
      have hk1:(k:Int)<(l.length:Int):=by omega
      have hk0:(0:Int)≤(k:Int):=by omega
      have HNK:=Lib.hid (HNO.out k hlt)
      by_cases hge:cnt≤l[k].at_
      ·
       have HP:=Lib.hid (HNK.out hge)
       have hged:decide (cnt≤l[k].at_)=true:=decide_eq_true hge
       clear hcell hcs hint hge HNK
       generalize l[k]=x at *
       go_wp2_with fail
       go_quiet (fail)
       go_wp2
       go_ret2
       exact ChkPost.no HP.out (by first|exact below_drewN HB2.out _|exact below_drewN (below_drewN HB2.out _) _)
      ·
       have HA2:Hid (∀(i:Nat) (h:i<l.length),i<k+1→l[i].at_<cnt):=Lib.hid (fun i h hi=>by
        by_cases he:i=k
        ·subst he;omega
        ·exact HALL.out i h (by omega))
       have hged:decide (cnt≤l[k].at_)=false:=decide_eq_false hge
       clear hcell hcs hint hge HNK
       generalize l[k]=x at *
       go_wp2_with fail
       go_quiet (fail)
       go_wp2
       go_roundg (l.length-(k+1))
       case measure=>omega
       case rel=>exact⟨k+1,_,by omega,rfl,by go_num,rfl,HA2⟩
     ·
      have HP:=Lib.hid (HYES.out (fun i h=>HALL.out i h (by omega)))
      go_wp2
      go_ret2
      exact⟨0,l,_,HP.out,rfl,HEV.out.to (Nat.le_refl _) (zae (below_drewN (Below.refl _ _) _)),below_drewN HB2.out _⟩
   ·
    have hl0:=zg5 hdec hd
    subst hl0
    have HP:=Lib.hid (show ChkR img b cnt d [] from Or.inr (Or.inr ⟨hcc,HR.out.1,HR.out.2,d,_,HDE.out,Or.inl ⟨hd,rfl,rfl⟩⟩))
    have hd1:(d != 0)=true:=by rw[bne_iff_ne];exact hd
    clear hd hdec hev
    go_wp2
    go_ret2
    exact ChkPost.no HP.out HB2.out
  ·
   have HP:=Lib.hid (show ChkR img b cnt 2 [] from Or.inr (Or.inl ⟨hcc,by omega,rfl,rfl⟩))
   go_wp2
   go_ret2
   exact ChkPost.no HP.out (HBA.out _)
 ·
  have HP:=Lib.hid (show ChkR img b cnt nc [] from Or.inl ⟨by rw[hcc];exact h0,hcc.symm,rfl⟩)
  have hd1:(nc != 0)=true:=by rw[bne_iff_ne];exact h0
  have hd2:(nc == 0)=false:=by rw[beq_eq_false_iff_ne];exact h0
  clear h0
  go_wp2
  go_ret2
  exact ChkPost.no HP.out (HBA.out _)
end Go.Proofs.YtflonfcemlfbdaaDoor
