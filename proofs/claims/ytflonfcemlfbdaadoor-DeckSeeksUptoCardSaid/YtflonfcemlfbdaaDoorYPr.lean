/- Several texts joined, each with its own heading in the notes: What a recording does, in plain Lean: one instruction of a guest in a world, and all of them; what the document's look-ahead by two values tells. A recorder's state beside a core: what each call leaves. A recorder's state. What a recording answers. Record's end. No condition beyond those of each row. -/
import Derived.Test.YtflonfcemlfbdaaDoorYSu
import Derived.Test.YtflonfcemlfbdaaDoorYFr2
import Derived.Test.YtflonfcemlfbdaaDoorYDe
import Derived.Test.YtflonfcemlfbdaaDoorYCl
import Derived.Test.YtflonfcemlfbdaaDoorYMem
import Derived.Maps.AppendAt
import Derived.Deep.LoopGhost
import Derived.Test.YtflonfcemlfbdaaDoorYCpu1
import Derived.Test.YtflonfcemlfbdaaDoorYRl
import Derived.StillTailTactics
import Derived.Deep.CutBlock
import Derived.Deep.CutRange
import Derived.Handy
import Derived.Deep.RegionWith
import Derived.Deep.RegionLaw
import Derived.Deep.RegionHeld3
import Derived.Test.YtflonfcemlfbdaaDoorYNg
import Derived.Test.YtflonfcemlfbdaaDoorYNu
namespace Go.Proofs.YtflonfcemlfbdaaDoor
set_option linter.unusedVariables false
structure RSs where
 m:Mach
 all:List Ev
 nv:Nat
 nb:Nat
 due:Int
def zlf(m:Mach):Bool:=decide (m.fin=0∧(zal m).2=0∧zaM (zal m).1=10∧(decN (zal m).1=0∨decN (zal m).1=1))
def zero16:List Int:=List.replicate 16 0
section
variable (is vs:List Int) (bs:List (List Int)) (ds:List Int)
def irqR(k:Int):Bool:=is.contains k
def blkR(s:RSs):List Int:=if s.due=s.m.count then bs.getD (s.nb-1) zero16 else []
def metM(s:RSs):Mach:=zat (irqM s.m (irqR is s.m.count)) (blkR bs s)
def zbU(s:RSs):List Ev:=(if irqR is s.m.count then [⟨s.m.count,1,[]⟩] else [])++(if s.due=s.m.count then [⟨s.m.count,2,blkR bs s⟩] else [])
def zc6(s:RSs):Bool:=zlf (zax (metM is bs s))
def valR(s:RSs):Int:=if zc6 is bs s then vs.getD s.nv 0 else 0
def ranR(s:RSs):Mach:=(za3 (zax (metM is bs s)) (valR is vs bs s)).1
def zcc(s:RSs):Bool:=decide ((metM is bs s).want<0∧0≤(ranR is vs bs s).want)
def recS(s:RSs):RSs:=
 { m := ranR is vs bs s
   all:=s.all++zbU is bs s++(if zc6 is bs s then [⟨s.m.count,3,[valR is vs bs s]⟩] else [])
   nv:=if zc6 is bs s then s.nv+1 else s.nv
   nb:=if zcc is vs bs s then s.nb+1 else s.nb
   due:=if zcc is vs bs s then s.m.count+1+ds.getD s.nb 0 else if s.due=s.m.count then -1 else s.due}
def recL(n:Int):Nat→RSs→RSs×Bool
 | 0,s=>(s,false)
 | f+1,s=>if s.m.count<n∧s.m.fin=0 then (if 1000<(recS is vs bs ds s).all.length then (recS is vs bs ds s,true) else recL n f (recS is vs bs ds s)) else (s,false)
structure RecOk(s:RSs):Prop where
 ok:MOk s.m
 nb1:0≤s.due→1≤s.nb
 due:s.due = -1∨(s.m.count≤s.due∧s.due≤s.m.count+3000)∨s.m.fin≠0
 good:∀x∈s.all,EvG x
 len:s.all.length≤1000
end
structure WdOk(is vs:List Int)(bs:List (List Int))(ds:List Int):Prop where
 li:is.length≤1000
 lv:vs.length≤1000
 lb:bs.length≤1000
 ld:ds.length≤1000
 wv:∀z∈vs,WordZ z
 wd:∀z∈ds,0≤z∧z≤3000
 b16:∀b∈bs,b.length=16∧∀z∈b,WordZ z
theorem zcB{α:Type}{P:α→Prop}{l:List α}{d:α}(h:∀x∈l,P x)(hd:P d)(k:Nat):P (l.getD k d):=by
 rw[List.getD_eq_getElem?_getD]
 cases e:l[k]? with
 | none=>exact hd
 | some x=>exact h x (List.mem_of_getElem? e)
theorem zev:zero16.length=16∧∀z∈zero16,WordZ z:=⟨rfl,fun z hz=>by rw[List.eq_of_mem_replicate hz];unfold WordZ;omega⟩
section
variable {is vs:List Int} {bs:List (List Int)} {ds:List Int}
theorem zh7(hw:WdOk is vs bs ds)(s:RSs):((blkR bs s).length=0∨(blkR bs s).length=16)∧∀z∈blkR bs s,WordZ z:=by
 unfold blkR
 split
 ·
  have:=zcB (P:=fun b:List Int=>b.length=16∧∀z∈b,WordZ z) hw.b16 zev (s.nb-1)
  exact⟨Or.inr this.1,this.2⟩
 ·exact⟨Or.inl rfl,fun z hz=>by cases hz⟩
theorem zj8(hw:WdOk is vs bs ds)(s:RSs):WordZ (valR is vs bs s):=by
 unfold valR
 split
 ·exact zcB hw.wv (by unfold WordZ;omega) _
 ·unfold WordZ;omega
theorem zh8(s:RSs):ranR is vs bs s=(zbe s.m (irqR is s.m.count) (blkR bs s) (valR is vs bs s)).1:=rfl
theorem zi4(s:RSs):(metM is bs s).fin=s.m.fin∧(metM is bs s).count=s.m.count:=by
 have h1:=zbk s.m (irqR is s.m.count)
 have h2:=za1 (irqM s.m (irqR is s.m.count)) (blkR bs s)
 exact⟨h2.1.trans h1.1,h2.2.trans h1.2⟩
theorem zdo(s:RSs)(h:s.m.fin=0):(ranR is vs bs s).count=s.m.count+1:=by
 have h1:=zi4 (is:=is) (bs:=bs) s
 have h3:=zaV (metM is bs s)
 unfold ranR
 rw[zbs (by rw[h3.1,h1.1];exact h),h3.2,h1.2]
theorem zff(hw:WdOk is vs bs ds){s:RSs}(h0:0≤s.m.count)(h1:s.m.count<3000):∀x∈zbU is bs s,EvG x:=by
 intro x hx
 unfold zbU at hx
 rcases List.mem_append.1 hx with hx|hx
 ·
  split at hx
  ·
   rw[List.mem_singleton.1 hx]
   exact⟨by show (1:Int)≤1;omega,by show (1:Int)≤3;omega,h0,h1,fun e=>by exact absurd (show (1:Int)=2 from e) (by decide),fun e=>by exact absurd (show (1:Int)=3 from e) (by decide),fun z hz=>by cases hz⟩
  ·cases hx
 ·
  split at hx
  ·
   rename_i hd
   rw[List.mem_singleton.1 hx]
   have hb:=zh7 hw s
   have h16:(blkR bs s).length=16:=by
    rcases hb.1 with h|h
    ·
     unfold blkR at h;rw[if_pos hd] at h
     have:=(zcB (P:=fun b:List Int=>b.length=16∧∀z∈b,WordZ z) hw.b16 zev (s.nb-1)).1
     omega
    ·exact h
   exact⟨by show (1:Int)≤2;omega,by show (2:Int)≤3;omega,h0,h1,fun _=>h16,fun e=>by exact absurd (show (2:Int)=3 from e) (by decide),hb.2⟩
  ·cases hx
theorem RecOk.step(hw:WdOk is vs bs ds){s:RSs}(h:RecOk s)(hf:s.m.fin=0)(hc:s.m.count<3000)(hl:(recS is vs bs ds s).all.length≤1000):RecOk (recS is vs bs ds s):=by
 have hc0:=h.ok.count
 have hb:=zh7 hw s
 have hv:=zj8 hw s
 have hct:(recS is vs bs ds s).m.count=s.m.count+1:=zdo s hf
 refine⟨zfD h.ok _ _ hb.1 hb.2 hv (by omega),?_,?_,?_,hl⟩
 ·
  show 0≤(if zcc is vs bs s then _ else _)→1≤(if zcc is vs bs s then s.nb+1 else s.nb)
  split
  ·intro _;omega
  ·
   split
   ·intro h;omega
   ·exact h.nb1
 ·
  rw[hct]
  show (if zcc is vs bs s then _ else _)=_∨_
  split
  ·
   rename_i hwn
   have:=zcB hw.wd (by omega:(0:Int)≤0∧(0:Int)≤3000) s.nb
   refine Or.inr (Or.inl ?_)
   show s.m.count+1≤(if zcc is vs bs s then _ else _)∧(if zcc is vs bs s then _ else _)≤_
   rw[if_pos hwn];omega
  ·
   rename_i hwn
   split
   ·exact Or.inl rfl
   ·
    rename_i hd
    show s.due = -1∨(_≤(if zcc is vs bs s then _ else _)∧(if zcc is vs bs s then _ else _)≤_)∨_
    rw[if_neg hwn,if_neg hd]
    rcases h.due with q|q|q
    ·exact Or.inl q
    ·exact Or.inr (Or.inl (by omega))
    ·exact absurd hf q
 ·
  intro x hx
  have hx:x∈s.all++zbU is bs s++(if zc6 is bs s then [⟨s.m.count,3,[valR is vs bs s]⟩] else []):=hx
  rcases List.mem_append.1 hx with hx|hx
  ·
   rcases List.mem_append.1 hx with hx|hx
   ·exact h.good x hx
   ·exact zff hw hc0.1 hc x hx
  ·
   split at hx
   ·
    rw[List.mem_singleton.1 hx]
    exact⟨by show (1:Int)≤3;omega,by show (3:Int)≤3;omega,hc0.1,hc,fun e=>by exact absurd (show (3:Int)=2 from e) (by decide),fun _=>rfl,fun z hz=>by rw[List.mem_singleton.1 hz];exact hv⟩
   ·cases hx
end
end Go.Proofs.YtflonfcemlfbdaaDoor
namespace Go.Proofs.YtflonfcemlfbdaaDoor
open Go Go.RowKit Go.ChangeShapes Go.WideShapes Go.Deep
set_option linter.unusedVariables false
theorem OutSt.outF{B:Nat}{ps:List (Ev×Value)}{a:Option Addr}{c:Nat}{w w':World}{F:Nat→Prop}(h:OutSt B ps a c w)(k:OutF F w w')(h1:∀q,(Value.slice a ps.length c).ownBlock=some q→¬F q)(h2:∀p∈ps,∀q,p.2.ownBlock=some q→¬F q):OutSt B ps a c w':=
 ⟨zdA h.row k h1,fun p hp=>⟨zdA (h.data p hp).1 k (h2 p hp),(h.data p hp).2⟩⟩
section
variable {w0 w w':World} {E ob:Nat} {is vs:List Int} {bs:List (List Int)} {ds:List Int} {due:Int} {b:List Int} {ps:List (Ev × Value)} {aa:Option Addr} {ca:Nat} {ak:Option Addr} {nk ck:Nat} {C:Nat→Prop}
end
end Go.Proofs.YtflonfcemlfbdaaDoor
namespace Go.Proofs.YtflonfcemlfbdaaDoor
open Go Go.RowKit Go.ChangeShapes Go.WideShapes Go.Deep
set_option linter.unusedVariables false
attribute [local go_sem ↓] Go.wp_at_zero Go.wp_at_succ
structure LsS(E:Nat)(ls:List (Ev×Value))(la:Option Addr)(lc:Nat)(C:Nat→Prop)(w:World):Prop where
 out:OutSt E ls la lc w
 row:∀q,(Value.slice la ls.length lc).ownBlock=some q→¬C q
 dat:∀p∈ls,∀q,p.2.ownBlock=some q→¬C q
theorem LsS.ran{E:Nat}{ls:List (Ev×Value)}{la:Option Addr}{lc:Nat}{C C':Nat→Prop}{w w':World}(h:LsS E ls la lc C w)(ho:OutF C w w')(hc:∀q,C' q→C q∨w.heap.size≤q):LsS E ls la lc C' w':=
 ⟨h.out.outF ho h.row h.dat,fun q hq c=>(hc q c).elim (h.row q hq) (fun r=>by have:=(h.out.row.lt q hq).2;omega),fun p hp q hq c=>(hc q c).elim (h.dat p hp q hq) (fun r=>by have:=((h.out.data p hp).1.lt q hq).2;omega)⟩
section
variable {w0 w:World} {E cb ob gr cr mb cm:Nat} {is vs:List Int} {bs:List (List Int)} {ds:List Int} {due:Int} {b:List Int} {ps:List (Ev × Value)} {aa:Option Addr} {ca:Nat} {ak:Option Addr} {nk ck:Nat} {m:Mach} {C:Nat→Prop}
end
def RecE(l:List UInt8)(cnt:Int)(i2:List Int)(m:Mach):Prop:=l=[]∧cnt=0∧i2=[]∧m=zcj
def zbI(img:List Int):RSs:=⟨zas img,[],0,0,-1⟩
def RecR(img is vs:List Int)(bs:List (List Int))(ds:List Int)(n c:Int)(l:List UInt8)(cnt:Int)(i2:List Int)(m:Mach):Prop:=
 (newC img≠0∧c=newC img∧RecE l cnt i2 m)∨(newC img=0∧zfK is vs bs ds≠0∧c=zfK is vs bs ds∧RecE l cnt i2 m)∨(newC img=0∧zfK is vs bs ds=0∧(n<0∨3000<n)∧c=2∧RecE l cnt i2 m) ∨
 (newC img=0∧zfK is vs bs ds=0∧0≤n∧n≤3000∧(((recL is vs bs ds n n.toNat (zbI img)).2=true∧c=1∧RecE l cnt i2 m) ∨
  ((recL is vs bs ds n n.toNat (zbI img)).2=false∧∃d,EvRes (recL is vs bs ds n n.toNat (zbI img)).1.all d∧((d≠0∧c=d∧RecE l cnt i2 m)∨(d=0∧c=0∧l=encE (recL is vs bs ds n n.toNat (zbI img)).1.all∧cnt=(recL is vs bs ds n n.toNat (zbI img)).1.m.count∧i2=img∧m=(recL is vs bs ds n n.toNat (zbI img)).1.m)))))
structure FinS(w0:World)(g1 g2:Nat)(m:Mach)(vr vm vo:Value)(va:Value)(na:Nat)(xa:List Value)(vb:Value)(nb:Nat)(xb:List Value)(w:World):Prop where
 own:MachOwn w0.heap.size w m vr vm vo
 ra:w.ownsRow w0.heap.size 3 1 va na xa
 rb:w.ownsRow w0.heap.size 5 1 vb nb xb
 b1:∃cs,w.heap[g1]?=some (.cells cs 27 (0,0))
 b2:∃cs,w.heap[g2]?=some (.cells cs 48 (0,0))
 below:Below w0.heap.size w0 w
 ne:g1≠g2
 l1:w0.heap.size≤g1
 l2:w0.heap.size≤g2
section
variable {w0 w:World} {g1 g2:Nat} {m:Mach} {vr vm vo va vb:Value} {na nb:Nat} {xa xb:List Value}
theorem FinS.drew(h:FinS w0 g1 g2 m vr vm vo va na xa vb nb xb w):FinS w0 g1 g2 m vr vm vo va na xa vb nb xb w.drew:=⟨⟨h.own.hr,h.own.hm,h.own.ho,h.own.rm,h.own.ro,h.own.mo,h.own.mr,h.own.or,h.own.om⟩,h.ra,h.rb,h.b1,h.b2,below_drewN h.below 1,h.ne,h.l1,h.l2⟩
end
end Go.Proofs.YtflonfcemlfbdaaDoor
