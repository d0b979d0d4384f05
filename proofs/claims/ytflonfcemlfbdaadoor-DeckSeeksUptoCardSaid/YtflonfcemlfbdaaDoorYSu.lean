/- Several texts joined, each with its own heading in the notes: What a tape's events do to a guest, in plain Lean: as the document looks them up (onM), as a player pops them (fwdM); both agree on events that rise. Where a deck is in a tape; in plain Lean. A core that starts from a guest of the call's own, and a core that is handed back as a guest. run. The contract of a player's Forward, over any memory. The document's guest that starts from slices of the call's own, and that is handed back. No condition beyond those of each row. -/
import Derived.Test.YtflonfcemlfbdaaDoorYDe
import Derived.Test.YtflonfcemlfbdaaDoorYRp
import Derived.Test.YtflonfcemlfbdaaDoorYCpu1
import Derived.KernelRfl
import Derived.Test.YtflonfcemlfbdaaDoorYRl
import Derived.Test.YtflonfcemlfbdaaDoorYOi
namespace Go.Proofs.YtflonfcemlfbdaaDoor
set_option linter.unusedVariables false
structure EvG(x:Ev):Prop where
 k1:1≤x.kind
 k3:x.kind≤3
 a0:0≤x.at_
 a1:x.at_<3000
 b16:x.kind=2→x.data.length=16
 v1:x.kind=3→x.data.length=1
 wd:∀z∈x.data,WordZ z
structure EvL(l:List Ev):Prop where
 good:∀x∈l,EvG x
 rise:l.Pairwise fun a b=>4*a.at_+a.kind<4*b.at_+b.kind
theorem EvL.nil:EvL []:=⟨fun x hx=>(by cases hx),List.Pairwise.nil⟩
theorem EvL.tail{x:Ev}{l:List Ev}(h:EvL (x::l)):EvL l:=⟨fun y hy=>h.good y (List.mem_cons_of_mem _ hy),(List.pairwise_cons.1 h.rise).2⟩
theorem EvL.head{x:Ev}{l:List Ev}(h:EvL (x::l)):EvG x:=h.good x (List.mem_cons_self ..)
theorem EvL.lt{x:Ev}{l:List Ev}(h:EvL (x::l)):∀y∈l,4*x.at_+x.kind<4*y.at_+y.kind:=(List.pairwise_cons.1 h.rise).1
theorem zks{l:List Ev}(h:EvOk l):EvL l:=by
 have hg:∀(k:Nat) (hk:k<l.length),EvG l[k]:=by
  intro k hk
  obtain⟨h1,h2,h3,h4,h5,h6,_⟩:=zjA h hk
  refine⟨h1,h2,h3,h4,fun e=>?_,fun e=>?_,zaE h5⟩
  ·rw[e] at h6;unfold evW at h6;simp at h6;omega
  ·rw[e] at h6;unfold evW at h6;simp at h6;omega
 refine⟨fun x hx=>?_,?_⟩
 ·
  obtain⟨k,hk,rfl⟩:=List.getElem_of_mem hx
  exact hg k hk
 ·
  have hadj:∀(k:Nat) (hk:k+1<l.length),4*l[k].at_+l[k].kind<4*l[k+1].at_+l[k+1].kind:=by
   intro k hk
   have e:=h (k+1) hk
   have g1:=hg k (by omega)
   have g2:=hg (k+1) hk
   obtain⟨h1,h2,h3,h4,h5,h6,_⟩:=zjA h hk
   unfold fAt at e
   rw[List.getElem?_eq_getElem hk] at e
   simp only at e
   rw[if_neg (by omega),Nat.add_sub_cancel,List.getElem?_eq_getElem (by omega),evFp (by omega) (by rintro (h|h|h);omega;omega;rw[h5] at h;cases h) h6] at e
   simp only at e
   have:=g1.k1;have:=g1.k3;have:=g2.k1;have:=g2.k3
   split at e
   ·omega
   ·omega
  rw[List.pairwise_iff_getElem]
  intro i j hi hj hij
  obtain⟨d,rfl⟩:∃d,j=i+1+d:=⟨j-(i+1),by omega⟩
  clear hij
  induction d with
  | zero=>exact hadj i (by omega)
  | succ d ih=>
   have h1:=ih (by omega)
   have h2:=hadj (i+1+d) (by omega)
   exact Int.lt_trans h1 h2
def zaB(k:Int)(a:Bool×List Int×Int)(x:Ev):Bool×List Int×Int:=
 if x.at_≠k then a else if x.kind=1 then (true,a.2.1,a.2.2) else if x.kind=2 then (a.1,x.data,a.2.2) else (a.1,a.2.1,x.data.headD 0)
def inA(l:List Ev)(k:Int):Bool×List Int×Int:=l.foldl (zaB k) (false,[],0)
def onM(m:Mach)(l:List Ev)(k:Int):Mach×Int:=zbe m (inA l k).1 (inA l k).2.1 (inA l k).2.2
def appM(m:Mach)(x:Ev):Mach:=if x.kind=1 then irqM m true else if x.kind=2 then za8 m x.data else m
def popM(k:Int):List Ev→Mach→Int→Mach×Int×List Ev
 | [],m,v=>(m,v,[])
 | x::l,m,v=>if x.at_=k then (if x.kind=3 then popM k l m (x.data.headD 0) else popM k l (appM m x) v) else (m,v,x::l)
def fwdM(m:Mach)(L:List Ev):(Mach×Int)×List Ev:=(za3 (zax (popM m.count L m 0).1) (popM m.count L m 0).2.1,(popM m.count L m 0).2.2)
theorem zcV{k:Int}{l:List Ev}(h:∀x∈l,x.at_≠k)(a:Bool×List Int×Int):l.foldl (zaB k) a=a:=by
 induction l generalizing a with
 | nil=>rfl
 | cons x l ih=>
  rw[List.foldl_cons,show zaB k a x=a by unfold zaB;rw[if_pos (h x (List.mem_cons_self ..))]]
  exact ih (fun y hy=>h y (List.mem_cons_of_mem _ hy)) a
theorem zbM(m:Mach):zat m []=m:=by unfold zat;rfl
theorem zdh(m:Mach):irqM m false=m:=by unfold irqM;rw[if_neg (by simp)]
theorem zkt (k : Int) : ∀ (L : List Ev), EvL L → (∀ x ∈ L, k ≤ x.at_) → ∀ (m : Mach) (irq : Bool) (b : List Int) (v : Int), (b = [] ∨ ∀ x ∈ L, x.at_ = k → x.kind = 3) → ((irq = false ∧ b = []) ∨ ∀ x ∈ L, x.at_ = k → 2 ≤ x.kind) →
  popM k L (zat (irqM m irq) b) v=(zat (irqM m (L.foldl (zaB k) (irq,b,v)).1) (L.foldl (zaB k) (irq,b,v)).2.1,(L.foldl (zaB k) (irq,b,v)).2.2,(popM k L (zat (irqM m irq) b) v).2.2)∧∃pre,L=pre++(popM k L (zat (irqM m irq) b) v).2.2∧(∀x∈pre,x.at_=k)∧∀x∈(popM k L (zat (irqM m irq) b) v).2.2,k+1≤x.at_:=by
 intro L
 induction L with
 | nil=>intro _ _ m irq b v _ _;exact⟨rfl,[],rfl,fun x hx=>(by cases hx),fun x hx=>(by cases hx)⟩
 | cons x l ih=>
  intro hs hk m irq b v hb hi
  have hg:=hs.head
  have hlt:=hs.lt
  have hkx:=hk x (List.mem_cons_self ..)
  by_cases hx:x.at_=k
  ·
   have hst:∀(a':Bool×List Int×Int),zaB k (irq,b,v) x=a'→(x::l).foldl (zaB k) (irq,b,v)=l.foldl (zaB k) a':=by intro a' e;rw[List.foldl_cons,e]
   have hk':∀y∈l,k≤y.at_:=fun y hy=>hk y (List.mem_cons_of_mem _ hy)
   have hup:∀y∈l,y.at_=k→x.kind<y.kind:=fun y hy e=>by have:=hlt y hy;omega
   have h1:=hg.k1;have h3:=hg.k3
   have fin : ∀ (m' : Mach) (v' : Int) (irq' : Bool) (b' : List Int), popM k (x :: l) (zat (irqM m irq) b) v = popM k l m' v' → m' = zat (irqM m irq') b' → zaB k (irq, b, v) x = (irq', b', v') → (b' = [] ∨ ∀ z ∈ l, z.at_ = k → z.kind = 3) → ((irq' = false ∧ b' = []) ∨ ∀ z ∈ l, z.at_ = k → 2 ≤ z.kind) →
     popM k (x::l) (zat (irqM m irq) b) v=(zat (irqM m ((x::l).foldl (zaB k) (irq,b,v)).1) ((x::l).foldl (zaB k) (irq,b,v)).2.1,((x::l).foldl (zaB k) (irq,b,v)).2.2,(popM k (x::l) (zat (irqM m irq) b) v).2.2)∧∃pre,x::l=pre++(popM k (x::l) (zat (irqM m irq) b) v).2.2∧(∀z∈pre,z.at_=k)∧∀z∈(popM k (x::l) (zat (irqM m irq) b) v).2.2,k+1≤z.at_:=by
    intro m' v' irq' b' e1 e2 e3 e4 e5
    rw[hst _ e3,e1,e2]
    obtain⟨q1,pre,q2,q3,q4⟩:=ih hs.tail hk' m irq' b' v' e4 e5
    refine⟨q1,x::pre,by rw[List.cons_append,←q2],?_,q4⟩
    intro y hy
    rcases List.mem_cons.1 hy with rfl|hy
    ·exact hx
    ·exact q3 y hy
   rcases (show x.kind=1∨x.kind=2∨x.kind=3 by omega) with h|h|h
   ·
    obtain⟨rfl,rfl⟩:irq=false∧b=[]:=by
     rcases hi with hi|hi
     ·exact hi
     ·have:=hi x (List.mem_cons_self ..) hx;omega
    refine fin (irqM m true) v true [] ?_ (zbM _).symm ?_ (Or.inl rfl) (Or.inr fun y hy e=>by have:=hup y hy e;omega)
    ·
     rw[popM,if_pos hx,if_neg (by omega),zbM,zdh]
     unfold appM;rw[if_pos h]
    ·unfold zaB;rw[if_neg (fun e=>e hx),if_pos h]
   ·
    obtain rfl:b=[]:=by
     rcases hb with hb|hb
     ·exact hb
     ·have:=hb x (List.mem_cons_self ..) hx;omega
    refine fin (za8 (irqM m irq) x.data) v irq x.data ?_ ?_ ?_ (Or.inr fun y hy e=>by have:=hup y hy e;have:=(hs.tail.good y hy).k3;omega) (Or.inr fun y hy e=>by have:=hup y hy e;omega)
    ·
     rw[popM,if_pos hx,if_neg (by omega),zbM]
     unfold appM;rw[if_neg (by omega),if_pos h]
    ·unfold zat;rw[if_neg (by have:=hg.b16 h;omega)]
    ·unfold zaB;rw[if_neg (fun e=>e hx),if_neg (by omega),if_pos h]
   ·
    refine fin (zat (irqM m irq) b) (x.data.headD 0) irq b ?_ rfl ?_ (Or.inr fun y hy e=>by have:=hup y hy e;have:=(hs.tail.good y hy).k3;omega) (Or.inr fun y hy e=>by have:=hup y hy e;omega)
    ·rw[popM,if_pos hx,if_pos h]
    ·unfold zaB;rw[if_neg (fun e=>e hx),if_neg (by omega),if_neg (by omega)]
  ·
   have hgt:k+1≤x.at_:=by omega
   have hall:∀y∈x::l,k+1≤y.at_:=by
    intro y hy
    rcases List.mem_cons.1 hy with rfl|hy
    ·exact hgt
    ·have:=hlt y hy;have:=hg.k1;have:=hg.k3;have:=(hs.tail.good y hy).k1;have:=(hs.tail.good y hy).k3;omega
   have e1:popM k (x::l) (zat (irqM m irq) b) v=(zat (irqM m irq) b,v,x::l):=by rw[popM,if_neg hx]
   rw[e1,zcV (fun y hy=>by have:=hall y hy;omega)]
   exact⟨rfl,[],rfl,fun x hx=>(by cases hx),hall⟩
theorem ziH(k:Int):∀(L:List Ev) (m:Mach) (v:Int),∃pre,L=pre++(popM k L m v).2.2:=by
 intro L
 induction L with
 | nil=>intro m v;exact⟨[],rfl⟩
 | cons x l ih=>
  intro m v
  rw[popM]
  split
  ·
   split
   ·obtain⟨pre,h⟩:=ih m (x.data.headD 0);exact⟨x::pre,by rw[List.cons_append,←h]⟩
   ·obtain⟨pre,h⟩:=ih (appM m x) v;exact⟨x::pre,by rw[List.cons_append,←h]⟩
  ·exact⟨[],rfl⟩
theorem zfG{m:Mach}(h:m.fin≠0)(x:Ev):appM m x=m:=by
 unfold appM irqM za8
 split
 ·rw[if_neg (fun e=>h e.1)]
 ·
  split
  ·rw[if_pos (Or.inr h)]
  ·rfl
theorem zjM{m:Mach}(h:m.fin≠0)(k:Int):∀(L:List Ev) (v:Int),(popM k L m v).1=m:=by
 intro L
 induction L with
 | nil=>intro v;rfl
 | cons x l ih=>
  intro v
  rw[popM]
  split
  ·
   split
   ·exact ih _
   ·rw[zfG h];exact ih _
  ·rfl
structure Stands(l:List Ev)(m:Mach)(i:Nat)(L:List Ev):Prop where
 pre:∃pre,l=pre++L∧(m.fin=0→m.count=i∧(∀x∈pre,x.at_<i)∧∀x∈L,(i:Int)≤x.at_)
theorem Stands.start{l:List Ev}(h:EvL l){m:Mach}(hc:m.count=0):Stands l m 0 l:=⟨[],rfl,fun _=>⟨hc,fun x hx=>(by cases hx),fun x hx=>(h.good x hx).a0⟩⟩
theorem EvL.drop{pre L:List Ev}(h:EvL (pre++L)):EvL L:=⟨fun x hx=>h.good x (List.mem_append_right _ hx),(List.pairwise_append.1 h.rise).2.1⟩
theorem zfH{pre L:List Ev}{k:Int}(h:∀x∈pre,x.at_<k):inA (pre++L) k=L.foldl (zaB k) (false,[],0):=by
 unfold inA
 rw[List.foldl_append,zcV (l:=pre) (fun x hx=>by have:=h x hx;omega)]
theorem zbs{m:Mach}(h:m.fin=0)(v:Int):(za3 m v).1.count=m.count+1:=by
 unfold za3
 rw[if_neg (fun e=>e h)]
 split<;>rfl
theorem zhp{m:Mach}(h:m.fin≠0)(v:Int):za3 m v=(m,-1):=by unfold za3;rw[if_pos h]
theorem zgf{m:Mach}(h:m.fin≠0):zax m=m:=by unfold zax;rw[if_neg (fun e=>h e.2.2)]
theorem Stands.step{l L:List Ev}{m:Mach}{i:Nat}(hl:EvL l)(h:Stands l m i L):(fwdM m L).1=onM m l i∧Stands l (onM m l i).1 (i+1) (fwdM m L).2:=by
 obtain⟨pre,rfl,hz⟩:=h.pre
 by_cases hf:m.fin=0
 ·
  obtain⟨hc,hp,hL⟩:=hz hf
  have hin:=zfH (L:=L) (k:=(i:Int)) hp
  obtain⟨e1,pre2,e2,e3,e4⟩:=zkt (i:Int) L hl.drop hL m false [] 0 (Or.inl rfl) (Or.inl ⟨rfl,rfl⟩)
  rw[zbM,zdh] at e1 e2 e4
  have hon:(fwdM m L).1=onM m (pre++L) i:=by
   unfold fwdM onM zbe
   rw[hc,e1,hin]
  refine⟨hon,pre++pre2,?_,?_⟩
  ·
   show pre++L=(pre++pre2)++(popM m.count L m 0).2.2
   rw[hc,List.append_assoc,←e2]
  ·
   intro _
   have hct:(onM m (pre++L) i).1.count=m.count+1:=by
    unfold onM zbe
    have h1:=zbk m (inA (pre++L) i).1
    have h2:=za1 (irqM m (inA (pre++L) i).1) (inA (pre++L) i).2.1
    have h3:=zaV (zat (irqM m (inA (pre++L) i).1) (inA (pre++L) i).2.1)
    rw[zbs (by rw[h3.1,h2.1,h1.1];exact hf),h3.2,h2.2,h1.2]
   refine⟨by rw[hct,hc];rfl,?_,?_⟩
   ·
    intro x hx
    rcases List.mem_append.1 hx with hx|hx
    ·have:=hp x hx;push_cast;omega
    ·have:=e3 x hx;push_cast;omega
   ·
    show ∀x∈(popM m.count L m 0).2.2,_
    rw[hc];push_cast;exact e4
 ·
  have hon:onM m (pre++L) i=(m,-1):=zb4 hf _ _ _
  have hfw:(fwdM m L).1=(m,-1):=by
   unfold fwdM
   rw[zjM hf,zgf hf,zhp hf]
  obtain⟨pre2,e2⟩:=ziH m.count L m 0
  refine⟨by rw[hon,hfw],pre++pre2,?_,fun h0=>absurd h0 (by rw[hon];exact hf)⟩
  show pre++L=(pre++pre2)++(popM m.count L m 0).2.2
  rw[List.append_assoc,←e2]
def runM(l:List Ev)(m:Mach):Nat→Mach
 | 0=>m
 | i+1=>(onM (runM l m i) l i).1
theorem zfI{l:List Ev}(h:EvL l)(k:Int):((inA l k).2.1.length=0∨(inA l k).2.1.length=16)∧(∀z∈(inA l k).2.1,WordZ z)∧WordZ (inA l k).2.2:=by
 have key:∀(l:List Ev),(∀x∈l,EvG x)→∀a:Bool×List Int×Int,((a.2.1.length=0∨a.2.1.length=16)∧(∀z∈a.2.1,WordZ z)∧WordZ a.2.2)→(((l.foldl (zaB k) a).2.1.length=0∨(l.foldl (zaB k) a).2.1.length=16)∧(∀z∈(l.foldl (zaB k) a).2.1,WordZ z)∧WordZ (l.foldl (zaB k) a).2.2):=by
  intro l
  induction l with
  | nil=>intro _ a ha;exact ha
  | cons x l ih=>
   intro hg a ha
   rw[List.foldl_cons]
   refine ih (fun y hy=>hg y (List.mem_cons_of_mem _ hy)) _ ?_
   have hx:=hg x (List.mem_cons_self ..)
   unfold zaB
   split
   ·exact ha
   ·
    split
    ·exact ha
    ·
     split
     ·rename_i h2;exact⟨Or.inr (hx.b16 h2),hx.wd,ha.2.2⟩
     ·
      refine⟨ha.1,ha.2.1,?_⟩
      cases e:x.data with
      | nil=>show WordZ 0;unfold WordZ;omega
      | cons z zs=>exact hx.wd z (by rw[e];exact List.mem_cons_self ..)
 exact key l h.good _ ⟨Or.inl rfl,fun z hz=>(by cases hz),by show WordZ 0;unfold WordZ;omega⟩
theorem zhq{m:Mach}(l:List Ev)(k:Int):(onM m l k).1.count≤m.count+1:=by
 by_cases hf:m.fin=0
 ·
  have h1:=zbk m (inA l k).1
  have h2:=za1 (irqM m (inA l k).1) (inA l k).2.1
  have h3:=zaV (zat (irqM m (inA l k).1) (inA l k).2.1)
  unfold onM zbe
  rw[zbs (by rw[h3.1,h2.1,h1.1];exact hf),h3.2,h2.2,h1.2]
  exact Int.le_refl _
 ·rw[show onM m l k=(m,-1) from zb4 hf _ _ _];show m.count≤m.count+1;omega
theorem zku{m:Mach}{l:List Ev}(hl:EvL l)(h:MOk m)(hc:m.count<1099511627776)(k:Int):MOk (onM m l k).1:=by
 obtain⟨h1,h2,h3⟩:=zfI hl k
 exact zfD h _ _ h1 h2 h3 hc
theorem zdC{l:List Ev}(hl:EvL l){m:Mach}(h:MOk m)(hc:m.count=0):∀i:Nat,i≤3000→MOk (runM l m i)∧(runM l m i).count≤i:=by
 intro i
 induction i with
 | zero=>intro _;exact⟨h,by show m.count≤0;omega⟩
 | succ i ih=>
  intro hi
  obtain⟨h1,h2⟩:=ih (by omega)
  refine⟨zku hl h1 (by omega) _,?_⟩
  have:=zhq (m:=runM l m i) l i
  show (onM (runM l m i) l i).1.count≤_
  push_cast
  omega
structure Runs(L:List Ev)(m0 m:Mach)(i:Nat):Prop where
 run:m=runM L m0 i
 cnt:m.count=i
theorem zgg{m:Mach}(hf:m.fin=0)(l:List Ev)(k:Int):(onM m l k).1.count=m.count+1:=by
 unfold onM zbe
 have h1:=zbk m (inA l k).1
 have h2:=za1 (irqM m (inA l k).1) (inA l k).2.1
 have h3:=zaV (zat (irqM m (inA l k).1) (inA l k).2.1)
 rw[zbs (by rw[h3.1,h2.1,h1.1];exact hf),h3.2,h2.2,h1.2]
theorem Runs.start{L:List Ev}{m0:Mach}(hc:m0.count=0):Runs L m0 m0 0:=⟨rfl,hc⟩
theorem Runs.step{L:List Ev}{m0 m:Mach}{i:Nat}(h:Runs L m0 m i)(hf:m.fin=0):Runs L m0 (onM m L i).1 (i+1):=
 ⟨by rw[h.run];rfl,by rw[zgg hf,h.cnt];rfl⟩
theorem zeU{m:Mach}(hf:m.fin≠0)(l:List Ev)(k:Int):onM m l k=(m,-1):=zb4 hf _ _ _
theorem zea{L:List Ev}{m0:Mach}{i:Nat}(hf:(runM L m0 i).fin≠0):∀k,runM L m0 (i+k)=runM L m0 i
 | 0=>rfl
 | k+1=>by
  have ih:=zea hf k
  show (onM (runM L m0 (i+k)) L ((i+k:Nat):Int)).1=_
  rw[ih,zeU hf]
theorem Runs.ends{L:List Ev}{m0 m:Mach}{i:Nat}(h:Runs L m0 m i)(hf:m.fin≠0){n:Nat}(hn:i≤n):m=runM L m0 n:=by
 obtain⟨k,rfl⟩:∃k,n=i+k:=⟨n-i,by omega⟩
 have e:=h.run
 rw[e] at hf
 rw[zea hf]
 exact e
theorem Stands.to{L LL:List Ev}{m:Mach}{i j:Nat}(h:Stands L m i LL)(hj:m.fin=0→j=i):Stands L m j LL:=by
 obtain⟨pre,e,hz⟩:=h.pre
 exact⟨pre,e,fun hf=>by rw[hj hf];exact hz hf⟩
end Go.Proofs.YtflonfcemlfbdaaDoor
namespace Go.Proofs.YtflonfcemlfbdaaDoor
open Go Go.RowKit Go.ChangeShapes Go.WideShapes Go.Deep
set_option linter.unusedVariables false
theorem zbf{w:World}{base:Nat}{a:Option Addr}{n c:Nat}{xs:List Value}(h:w.ownsRow base 3 1 (.slice a n c) n xs)(hn:n≠0):∃g,a=some ⟨g,0,none⟩∧base≤g:=by
 rcases h.2 with⟨-,h0⟩|⟨g,cap,cur,hv,hb,-⟩
 ·exact absurd h0 hn
 ·
  injection hv with e1 e2 e3
  exact⟨g,e1,hb⟩
end Go.Proofs.YtflonfcemlfbdaaDoor
namespace Go.Proofs.YtflonfcemlfbdaaDoor
open Go Go.RowKit Go.ChangeShapes Go.WideShapes Go.Deep
set_option maxHeartbeats 8000000
set_option maxRecDepth 100000
set_option linter.unusedVariables false
attribute [local go_sem ↓] Go.wp_at_zero Go.wp_at_succ
def Dn(cb gr:Nat)(ao:Option Addr)(n co:Nat)(F:Nat→Prop)(g:Nat):Prop:=g=cb∨g=gr∨F g∨(Value.slice ao n co).ownBlock=some g
section
variable {t fL fS:Nat} {v:Value} {St:World→(Nat→Prop)→List Int→Bool→Prop} {w0 w:World} {D:Nat→Prop} {cb gr cr:Nat} {vm:Value} {m:Mach} {wrote:Int} {x:Bool} {ao:Option Addr} {co:Nat} {F:Nat→Prop}
theorem GSt.base(h:GSt St w0 D cb gr cr vm m wrote x ao co F w):GSt St w (Dn cb gr ao m.out.length co F) cb gr cr vm m wrote x ao co F w:=
 ⟨h.box,h.regs,h.out,h.mem,h.ro,h.fc,h.fr,h.fo,OutF.refl _ _,Or.inl (Or.inl rfl),Or.inl (Or.inr (Or.inl rfl)),fun g hg=>Or.inl (Or.inr (Or.inr (Or.inl hg))),fun g hg=>Or.inl (Or.inr (Or.inr (Or.inr hg)))⟩
theorem GSt.dn(h:GSt St w0 D cb gr cr vm m wrote x ao co F w):∀g,Dn cb gr ao m.out.length co F g→D g∨w0.heap.size≤g:=by
 rintro g (rfl|rfl|hg|hg)
 ·exact h.dc
 ·exact h.dr
 ·exact h.df g hg
 ·exact h.dq g hg
theorem GSt.back(h0:GSt St w0 D cb gr cr vm m wrote x ao co F w){m':Mach}{wr':Int}{x':Bool}{ao':Option Addr}{co':Nat}{F':Nat→Prop}{w':World}(h:GSt St w (Dn cb gr ao m.out.length co F) cb gr cr vm m' wr' x' ao' co' F' w'):GSt St w0 D cb gr cr vm m' wr' x' ao' co' F' w':=by
 have hD:=h0.dn
 have hs:=h0.old.size
 exact⟨h.box,h.regs,h.out,h.mem,h.ro,h.fc,h.fr,h.fo,h0.old.trans h.old hD,h0.dc,h0.dr,fun g hg=>(h.df g hg).elim (hD g) (fun q=>Or.inr (by omega)),fun g hg=>(h.dq g hg).elim (hD g) (fun q=>Or.inr (by omega))⟩
end
structure PBox where
 bx:Value→Array Value
 tb:TypeId
 po:Nat
 get:∀u,(bx u)[po]?=some u
 set:∀u u',(bx u).setIfInBounds po u'=bx u'
 ni:3≠tb
 nc:67≠tb
structure PSt(Q:PBox)(St:World→(Nat→Prop)→List Int→Bool→Prop)(w0:World)(D:Nat→Prop)(pb cb gr cr:Nat)(vm:Value)(m:Mach)(wrote:Int)(x:Bool)(vl:Value)(ao:Option Addr)(co:Nat)(F:Nat→Prop)(w:World):Prop where
 g:GSt St w0 D cb gr cr vm m wrote x ao co F w
 box:w.heap[pb]?=some (.cells (Q.bx vl) Q.tb (0,0))
 nf:¬F pb
 db:D pb∨w0.heap.size≤pb
def PS(Q:PBox)(St:World→(Nat→Prop)→List Int→Bool→Prop)(w0:World)(D:Nat→Prop)(pb cb gr cr:Nat)(vm:Value)(m:Mach)(wrote:Int)(x:Bool)(vl:Value)(w:World):Prop:=∃ao co F,PSt Q St w0 D pb cb gr cr vm m wrote x vl ao co F w
section
variable {Q:PBox} {t fL fS:Nat} {v:Value} {St:World→(Nat→Prop)→List Int→Bool→Prop} {w0 w:World} {D:Nat→Prop} {pb cb gr cr:Nat} {vm:Value} {m:Mach} {wrote:Int} {x:Bool} {vl:Value} {ao:Option Addr} {co:Nat} {F:Nat→Prop}
theorem PSt.plt(h:PSt Q St w0 D pb cb gr cr vm m wrote x vl ao co F w):pb<w.heap.size:=(Array.getElem?_eq_some_iff.1 h.box).1
theorem PSt.nc(h:PSt Q St w0 D pb cb gr cr vm m wrote x vl ao co F w):pb≠cb:=by
 intro e;subst e
 have h1:=h.box;have h2:=h.g.box
 rw[h1] at h2
 injection h2 with h2;injection h2 with h2 h3 h4
 exact absurd h3.symm Q.nc
theorem PSt.nd(h:PSt Q St w0 D pb cb gr cr vm m wrote x vl ao co F w):¬Dn cb gr ao m.out.length co F pb:=by
 rintro (e|e|e|e)
 ·exact h.nc e
 ·exact zad h.g.regs h.box Q.ni (by rw[e];rfl)
 ·exact h.nf e
 ·exact zad h.g.out h.box Q.ni e.symm
theorem PSt.ran(h:PSt Q St w0 D pb cb gr cr vm m wrote x vl ao co F w){m':Mach}{wr':Int}{x':Bool}{w':World}(k:GS St w (Dn cb gr ao m.out.length co F) cb gr cr vm m' wr' x' w'):PS Q St w0 D pb cb gr cr vm m' wr' x' vl w':=by
 obtain⟨ao',co',F',k⟩:=k
 refine⟨ao',co',F',h.g.back k,k.old.at h.box h.nd,fun hf=>?_,h.db⟩
 rcases k.df pb hf with q|q
 ·exact h.nd q
 ·have:=h.plt;omega
theorem PSt.ps(h:PSt Q St w0 D pb cb gr cr vm m wrote x vl ao co F w):PS Q St w0 D pb cb gr cr vm m wrote x vl w:=⟨ao,co,F,h⟩
theorem PSt.alloc(hM:MemI t fL fS v St)(h:PSt Q St w0 D pb cb gr cr vm m wrote x vl ao co F w)(o:Obj):PSt Q St w0 D pb cb gr cr vm m wrote x vl ao co F (w.alloc o):=
 ⟨h.g.alloc hM o,zaj h.plt |>.trans h.box,h.nf,h.db⟩
theorem PSt.drewN(hM:MemI t fL fS v St)(h:PSt Q St w0 D pb cb gr cr vm m wrote x vl ao co F w)(n:Nat):PSt Q St w0 D pb cb gr cr vm m wrote x vl ao co F (w.drewN n):=⟨h.g.drewN hM n,h.box,h.nf,h.db⟩
theorem PSt.put(hM:MemI t fL fS v St)(h:PSt Q St w0 D pb cb gr cr vm m wrote x vl ao co F w)(u:Value):PSt Q St w0 D pb cb gr cr vm m wrote x u ao co F (w.setCell ⟨pb,Q.po,none⟩ u):=by
 have hn:=h.nd
 have hg:=h.g
 have hgr:w.grownBy (w.setCell ⟨pb,Q.po,none⟩ u) (some pb):=za6 w pb Q.po u
 refine⟨⟨zah hg.box (fun e=>h.nc e.symm) _,zao hg.regs (zad hg.regs h.box Q.ni) _,zao hg.out (zad hg.out h.box Q.ni) _,?_,hg.ro,hg.fc,hg.fr,hg.fo,hg.old.setCell h.db u,hg.dc,hg.dr,hg.df,hg.dq⟩,(by have hs:=zaf (i:=Q.po) h.box u;rw[Q.set] at hs;exact hs),h.nf,h.db⟩
 exact hM.stay _ _ _ _ _ hg.mem (fun g hF=>Below.heap_setCell w ⟨pb,Q.po,none⟩ u g (fun e=>h.nf (by have e2:g=pb:=e;rw[←e2];exact hF))) (by simp[World.setCell])
end
theorem zhr{t fL fS:Nat}{v:Value}{St:World→(Nat→Prop)→List Int→Bool→Prop}(hM:MemI t fL fS v St){w0 w:World}{D:Nat→Prop}{cb gr cr:Nat}{vm:Value}{m:Mach}{wrote:Int}{x:Bool}{ao:Option Addr}{co:Nat}{F:Nat→Prop}(h:GSt St w0 D cb gr cr vm m wrote x ao co F w)(hm:MOk m)(B:Nat)(y:Ev)(hy:EvG y)(h3:y.kind≠3)(ad:Option Addr)(cd:Nat)(hi:∀w',OutF D w0 w'→Ints B w' (.slice ad y.data.length cd) y.data):Calls Tryd.prog 58 #[.pointer (some ⟨cb,0,none⟩),.iface t v,.agg #[.int .i64 y.at_,.int .i64 y.kind,.slice ad y.data.length cd]] w (zd7 St w0 D cb gr cr vm m wrote x (appM m y)):=by
 have c7:w.cell? ⟨cb,7,none⟩=some (.int .i64 m.fin):=zaa h.box 7
 have c4:w.cell? ⟨cb,4,none⟩=some (.bool m.wait):=zaa h.box 4
 have f4:=zab h.box 4
 have lc:=h.clt
 have HM:=Lib.hid hM
 have HH:=Lib.hid (h.alloc hM (.cells #[.int .i64 y.at_,.int .i64 y.kind,.slice ad y.data.length cd] 75 (0,0)))
 have HMO:=Lib.hid hm
 have HI:=Lib.hid hi
 have H0:=Lib.hid h
 clear h hM hm hi
 by_cases hf:m.fin=0
 ·
  rw[hf] at c7
  rcases (show y.kind=1∨y.kind=2 by have:=hy.k1;have:=hy.k3;omega) with hk|hk
  ·
   have HE:Hid (appM m y={m with wait:=true}):=Lib.hid (by unfold appM irqM;rw[if_pos hk,if_pos ⟨hf,rfl⟩])
   have HOK2:Hid (MOk ({m with wait:=true}:Mach)):=Lib.hid (by have:=HMO.out.irq true;unfold irqM at this;rw[if_pos ⟨hf,rfl⟩] at this;exact this)
   rw[hk] at HH ⊢
   clear hf hk h3 hy
   go_enter Tryd.func58,Tryd.ntmps58
   go_wp2
   first|go_end0|refine bodyPost_ret (results_none rfl _ _ _) rfl ?_
   exact⟨_,x,rfl,((H0.out.put HM.out 4 (.bool true) {m with wait:=true} wrote rfl rfl rfl rfl).alloc HM.out _).gs,HOK2.out,rfl,Or.inl ⟨rfl,HE.out.symm⟩⟩
  ·
   have HE:Hid (appM m y=za8 m y.data):=Lib.hid (by unfold appM;rw[if_neg (by omega),if_pos hk])
   have HCO:=Lib.hid (zhn HM.out HH.out HMO.out B (.slice ad y.data.length cd) y.data (hy.b16 hk) hy.wd HI.out)
   rw[hk] at HH HCO ⊢
   clear hf hk h3 hy
   go_enter Tryd.func58,Tryd.ntmps58
   go_wp2_with fail
   refine HCO.out.mono ?_
   rintro e w1 ⟨m1,x1,rfl,hg1,hm1,hc1,hor⟩
   have HG:=Lib.hid hg1
   have HM1:=Lib.hid hm1
   have HC1:=Lib.hid hc1
   have HOR:=Lib.hid hor
   clear hg1 hm1 hc1 hor
   go_wp2
   first|go_end0|refine bodyPost_ret (results_none rfl _ _ _) rfl ?_
   exact⟨m1,x1,rfl,HG.out,HM1.out,HC1.out,by rw[HE.out];exact HOR.out⟩
 ·
  have hfb:(m.fin != 0)=true:=by rw[bne_iff_ne];exact hf
  have HE:=Lib.hid (zfG hf y)
  clear hf h3 hy
  go_enter Tryd.func58,Tryd.ntmps58
  go_wp2
  first|go_end0|refine bodyPost_ret (results_none rfl _ _ _) rfl ?_
  exact⟨m,x,rfl,HH.out.gs,HMO.out,rfl,Or.inl ⟨rfl,HE.out.symm⟩⟩
theorem zeV(k:Int):∀(L:List Ev) (m m':Mach) (v v':Int),(popM k L m v).2.2=(popM k L m' v').2.2:=by
 intro L
 induction L with
 | nil=>intro m m' v v';rfl
 | cons x l ih=>
  intro m m' v v'
  rw[popM,popM]
  split
  ·
   split
   ·exact ih _ _ _ _
   ·exact ih _ _ _ _
  ·rfl
theorem ziI{B:Nat}{w:World}{y:Ev}{l:List Ev}{ad:Option Addr}{n c:Nat}(h:EvsR B w (.slice ad n c) (y::l)):n=l.length+1∧l.length+1≤3518437208780∧n≤c∧∃b off dd cd,ad=some ⟨b,off,none⟩∧b<B∧w.cell? ⟨b,off,none⟩=some (.int .i64 y.at_)∧w.cell? ⟨b,off+1,none⟩=some (.int .i64 y.kind)∧w.cell? ⟨b,off+2,none⟩=some (.slice dd y.data.length cd)∧I64 y.at_∧I64 y.kind∧Ints B w (.slice dd y.data.length cd) y.data:=by
 obtain⟨a,cap,hv,hl,hl2,hc⟩:=h
 injection hv with h1 h2 h3
 subst h1 h2 h3
 obtain⟨b,off,cs,ha,hb,hcs,hcell,ad,cd,hcs2,i1,i2,hint⟩:=hc 0 (by simp)
 subst hcs2
 have k0:=hcell 0 (by simp)
 have k1:=hcell 1 (by simp)
 have k2:=hcell 2 (by simp)
 simp only[Nat.zero_mul,Nat.add_zero] at k0 k1 k2
 exact⟨by simp,by simpa using hl,by simpa using hl2,b,off,ad,cd,ha,hb,k0,k1,k2,i1,i2,hint⟩
theorem ziJ{B:Nat}{w:World}{y:Ev}{l:List Ev}{b off n c:Nat}(h:EvsR B w (.slice (some ⟨b,off,none⟩) n c) (y::l)):EvsR B w (.slice (some ⟨b,off+3,none⟩) l.length (c-1)) l:=by
 obtain⟨a,cap,hv,hl,hl2,hc⟩:=h
 injection hv with h1 h2 h3
 subst h1 h2 h3
 simp only[List.length_cons] at hl hl2
 refine⟨_,_,rfl,by omega,by omega,fun i hi=>?_⟩
 obtain⟨b',off',cs,ha,hb,hcs,hcell,hr⟩:=hc (i+1) (by simp;omega)
 injection ha with ha
 injection ha with e1 e2
 subst e1 e2
 refine⟨_,_,cs,rfl,hb,hcs,fun j hj=>?_,by simpa using hr⟩
 rw[show off+3+i*3+j=off+(i+1)*3+j by omega]
 exact hcell j hj
theorem ziK{B:Nat}{w:World}{a:Option Addr}{c:Nat}:EvsR B w (.slice a 0 c) []:=⟨a,c,rfl,Nat.zero_le _,Nat.zero_le _,fun i h=>absurd h (Nat.not_lt_zero _)⟩
theorem zeW{B:Nat}{w:World}{ad:Option Addr}{n c:Nat}(h:EvsR B w (.slice ad n c) []):n=0:=by
 obtain⟨a,cap,hv,_⟩:=h
 injection hv with h1 h2 h3
theorem OutF.same{D:Nat→Prop}{E:Nat}{w w':World}(h:OutF D w w')(hE:E≤w.heap.size)(hD:∀g,g<E→¬D g):Same E w w':=
 fun b o hb=>World.cell?_of_block (h.block b (by omega) (hD b hb))
def zeX(Q:PBox)(St:World→(Nat→Prop)→List Int→Bool→Prop)(wE w0:World)(D:Nat→Prop)(E pb cb gr cr:Nat)(vm:Value)(m:Mach)(x:Bool)(r:(Mach×Int)×List Ev)(e:Ending)(w':World):Prop:=
 ∃m' wr' x' al nl cl,e=.returned (.tuple #[])∧PS Q St w0 D pb cb gr cr vm m' wr' x' (.slice al nl cl) w'∧EvsR E wE (.slice al nl cl) r.2∧MOk m'∧m.count≤m'.count∧m'.count≤m.count+1∧((x'=x∧m'=r.1.1∧wr'=r.1.2)∨x'=true)
theorem zeY{Q:PBox}{t fL fS:Nat}{v:Value}{St:World→(Nat→Prop)→List Int→Bool→Prop}(hM:MemI t fL fS v St){w0 w:World}{D:Nat→Prop}{E pb cb gr cr:Nat}{vm:Value}{m:Mach}{wrote:Int}{x:Bool}{al:Option Addr}{nl cl:Nat}{ao:Option Addr}{co:Nat}{F:Nat→Prop}(h:PSt Q St w0 D pb cb gr cr vm m wrote x (.slice al nl cl) ao co F w)(hm:MOk m)(hc:m.count<1099511627776)(hE:E≤w0.heap.size){wE:World}(hI:∀W,OutF D w0 W→Imp E wE W)(L:List Ev)(hL:EvL L)(hl:EvsR E wE (.slice al nl cl) L):Calls Tryd.prog 36 #[.pointer (some ⟨pb,Q.po,none⟩),.pointer (some ⟨cb,0,none⟩),.iface t v] w (zeX Q St wE w0 D E pb cb gr cr vm m x (fwdM m L)):=by
 have c6:w.cell? ⟨cb,6,none⟩=some (.int .i64 m.count):=zaa h.g.box 6
 have HM:=Lib.hid hM
 have HH:=Lib.hid h.ps
 have HMO:=Lib.hid hm
 have HLL:=Lib.hid hL
 have HSE:=Lib.hid hI
 have HEE:=Lib.hid hE
 have HL:=Lib.hid hl
 have hc0:=hm.count
 generalize hkk:m.count=k at *
 have HKK:=Lib.hid hkk
 have HK0:=Lib.hid (And.intro hc hc0)
 clear h hM hm hL hl hc hc0 hkk hI hE
 go_enter Tryd.func36,Tryd.ntmps36
 go_upto_block 0 with fail
 go_cut [7,8] from 9 (fun s7 s8 wx =>∃(m':Mach) (v':Int) (x':Bool) (al:Option Addr) (nl cl:Nat),s7=.int .i64 v'∧Hid (PS Q St w0 D pb cb gr cr vm m' wrote x' (.slice al nl cl) wx)∧Hid (EvsR E wE (.slice al nl cl) (popM k L m 0).2.2)∧Hid (MOk m'∧m'.count=k∧WordZ v')∧Hid ((x'=x∧(popM k L m 0).1=m'∧(popM k L m 0).2.1=v')∨x'=true))
 case first=>
  go_wp2_with fail
  go_loopg [7,8] L.length (fun gh s7 s8 wr =>∃(L':List Ev) (m':Mach) (v':Int) (x':Bool) (al:Option Addr) (nl cl:Nat),gh=L'.length∧s7=.int .i64 v'∧Hid (PS Q St w0 D pb cb gr cr vm m' wrote x' (.slice al nl cl) wr)∧Hid (EvsR E wE (.slice al nl cl) L')∧Hid (MOk m'∧m'.count=k∧WordZ v'∧EvL L')∧Hid ((x'=x∧popM k L m 0=popM k L' m' v')∨x'=true)∧Hid ((popM k L m 0).2.2=(popM k L' m' v').2.2))
  case atStart=>exact⟨L,m,0,x,al,nl,cl,rfl,rfl,HH,HL,Lib.hid ⟨HMO.out,HKK.out,by unfold WordZ;omega,HLL.out⟩,Lib.hid (Or.inl ⟨rfl,rfl⟩),Lib.hid rfl⟩
  case round=>
   clear HH HL HMO HLL c6
   obtain⟨L',m',v',x',al,nl,cl,hgh,rfl,HH,HL,HG,HP,HR⟩:=hrel
   obtain⟨ao,co,F,hps⟩:=HH.out
   have HS:=Lib.hid hps
   have hev:=HL.out
   have p0:wr.cell? ⟨pb,Q.po,none⟩=some (.slice al nl cl):=(zaa hps.box Q.po).trans (Q.get _)
   have fp:=zab hps.box Q.po
   have lp:=hps.plt
   have hwsz:=hps.g.old.size
   clear hps
   cases L' with
   | nil=>
    have hn:=zeW hev
    subst hn hgh
    have HFIN:=Lib.hid (show (x'=x∧(popM k L m 0).1=m'∧(popM k L m 0).2.1=v')∨x'=true from by
     rcases HP.out with⟨h1,h2⟩|h1
     ·exact Or.inl ⟨h1,by rw[h2];rfl,by rw[h2];rfl⟩
     ·exact Or.inr h1)
    have HL2:=Lib.hid (show EvsR E wE (.slice al 0 cl) (popM k L m 0).2.2 from by rw[HR.out];exact HL.out)
    clear hev hwsz fp
    go_wp2_with fail
    go_meet
    exact⟨m',v',x',al,0,cl,rfl,HH,HL2,Lib.hid ⟨HG.out.1,HG.out.2.1,HG.out.2.2.1⟩,HFIN⟩
   | cons y L2=>
    obtain⟨hn,hln,hncl,b,off,dd,cd,rfl,hb,k0,k1,k2,i1,i2,hint⟩:=ziI hev
    subst hn
    have hsm:=HSE.out wr HS.out.g.old
    replace k0:=hsm _ _ _ hb k0
    replace k1:=hsm _ _ _ hb k1
    replace k2:=hsm _ _ _ hb k2
    have hbw:b<wr.heap.size:=by have:=HEE.out;omega
    clear hsm
    have HY:=Lib.hid HG.out.2.2.2.head
    have HY2:=Lib.hid HG.out.2.2.2.tail
    have hnl:(0:Int)<((L2.length+1:Nat):Int):=by omega
    by_cases hat:y.at_=k
    ·
     have HPQ:=Lib.hid (show ∀(m2:Mach) (v2:Int),(∀(q:Mach) (r:Int),popM k (y::L2) m' v'=popM k L2 (if y.kind=3 then m' else appM m' y) (if y.kind=3 then y.data.headD 0 else v'))∧(popM k (y::L2) m' v').2.2=(popM k L2 m2 v2).2.2 from fun m2 v2=>by
      have e:popM k (y::L2) m' v'=popM k L2 (if y.kind=3 then m' else appM m' y) (if y.kind=3 then y.data.headD 0 else v'):=by
       rw[popM,if_pos hat]
       split<;>rfl
      exact⟨fun _ _=>e,by rw[e];exact zeV _ _ _ _ _ _⟩)
     have hab:(y.at_ == k)=true:=by rw[hat];exact beq_self_eq_true k
     have HAT:=Lib.hid hat
     have HINT:=Lib.hid hint
     have HEV:=Lib.hid hev
     clear hat hint hev i1 i2
     obtain⟨xb,hxb⟩:∃xb,xb=wr.heap.size:=⟨_,rfl⟩
     have HPA:=Lib.hid (HS.out.alloc HM.out (.cells #[.int .i64 y.at_,.int .i64 y.kind,.slice dd y.data.length cd] 75 (0,0)))
     have HXB:=Lib.hid (show (wr.alloc (.cells #[.int .i64 y.at_,.int .i64 y.kind,.slice dd y.data.length cd] 75 (0,0))).heap[xb]?=some (.cells #[.int .i64 y.at_,.int .i64 y.kind,.slice dd y.data.length cd] 75 (0,0)) from by rw[hxb];exact alloc_at rfl)
     have hpx:¬pb=wr.heap.size:=by omega
     go_upto_region 3 with fail
     rw[←hxb]
     rw[←hxb] at hpx
     have HXN:=Lib.hid hpx
     go_cut [] from 14 to 55 (fun wx =>∃(al':Option Addr) (cl':Nat),Hid (PS Q St w0 D pb cb gr cr vm m' wrote x' (.slice al' L2.length cl') wx)∧Hid (EvsR E wE (.slice al' L2.length cl') L2)∧Hid (wx.heap[xb]?=some (.cells #[.int .i64 y.at_,.int .i64 y.kind,.slice dd y.data.length cd] 75 (0,0))))
     case first=>
      have a0:=(zaa HPA.out.box Q.po).trans (Q.get _)
      have fa:=zab HPA.out.box Q.po
      have la:=HPA.out.plt
      generalize hWA:World.alloc wr _=wa at *
      clear hWA p0 fp lp
      by_cases hc1:cl=1
      ·
       subst hc1
       have e0:L2=[]:=List.eq_nil_of_length_eq_zero (by omega)
       subst e0
       go_wp2_with fail
       go_meet
       exact⟨_,_,Lib.hid (HPA.out.put HM.out _).ps,Lib.hid ziK,Lib.hid (zah HXB.out (fun e=>HXN.out e.symm) _)⟩
      ·
       have HT:=Lib.hid (ziJ HEV.out)
       have hc2:¬cl=1:=hc1
       go_wp2_with fail
       go_meet
       exact⟨_,_,Lib.hid (HPA.out.put HM.out _).ps,HT,Lib.hid (zah HXB.out (fun e=>HXN.out e.symm) _)⟩
     case rest=>
      subst hxb
      clear HPA HXB HS HH HL p0 fp lp hpx hbw k0 k1 k2 HEV
      obtain⟨al',cl',HPS2,HEV2,HXB2⟩:=hcut
      obtain⟨ao2,co2,F2,hps2⟩:=HPS2.out
      have HS2:=Lib.hid hps2
      have HI2:=Lib.hid (HINT.out.imp (HSE.out wc hps2.g.old))
      have b0:wc.cell? ⟨wr.heap.size,0,none⟩=some (.int .i64 y.at_):=zaa HXB2.out 0
      have b1:wc.cell? ⟨wr.heap.size,1,none⟩=some (.int .i64 y.kind):=zaa HXB2.out 1
      have b2:wc.cell? ⟨wr.heap.size,2,none⟩=some (.slice dd y.data.length cd):=zaa HXB2.out 2
      have lx:wr.heap.size<wc.heap.size:=(Array.getElem?_eq_some_iff.1 HXB2.out).1
      have HGD:=Lib.hid HG.out
      clear hps2
      by_cases h3:y.kind=3
      ·
       obtain⟨z,hz⟩:∃z,y.data=[z]:=List.length_eq_one_iff.1 (HY.out.v1 h3)
       have hzw:WordZ z:=HY.out.wd z (by rw[hz];exact List.mem_singleton.2 rfl)
       have hi2:=HI2.out
       rw[hz] at hi2 b2
       obtain⟨a',c',hv,_,_,hcl⟩:=hi2
       injection hv with e1 e2 e3
       subst e1 e3
       obtain⟨gd,od,vi,rfl,hgd,hci,hvi⟩:=hcl 0 (by simp)
       obtain⟨rfl,-⟩:=hvi
       rw[Nat.add_zero] at hci
       have HQ1:=Lib.hid (show popM k (y::L2) m' v'=popM k L2 m' z from by
        have e:=(HPQ.out m' v').1 m' v'
        rw[e,if_pos h3,if_pos h3,hz];rfl)
       have HQ2:=Lib.hid (show (popM k (y::L2) m' v').2.2=(popM k L2 m' z).2.2 from by rw[HQ1.out])
       have HZW:=Lib.hid hzw
       have hkb:(y.kind == 3)=true:=by rw[h3];rfl
       simp only[List.getElem_cons_zero] at hci
       simp only[List.length_singleton] at b2
       clear h3 hz hzw hcl HPQ HINT HI2
       go_wp2_with fail
       go_roundg L2.length
       case measure=>first|omega|(rw[hgh];simp)
       case rel=>exact⟨L2,m',z,x',al',L2.length,cl',rfl,rfl,HPS2,HEV2,Lib.hid ⟨HGD.out.1,HGD.out.2.1,HZW.out,HY2.out⟩,Lib.hid (by rcases HP.out with⟨q1,q2⟩|q1;exact Or.inl ⟨q1,q2.trans HQ1.out⟩;exact Or.inr q1),Lib.hid (HR.out.trans HQ2.out)⟩
      ·
       have hkb:(y.kind == 3)=false:=by rw[beq_eq_false_iff_ne];exact h3
       have HAP:=Lib.hid (zhr HM.out HS2.out.g.base HGD.out.1 E y HY.out h3 dd cd (fun w' ho=>HINT.out.imp (HSE.out w' (HS2.out.g.old.trans ho (fun g hd=>HS2.out.g.dn g hd)))))
       have HQ:=Lib.hid (show popM k (y::L2) m' v'=popM k L2 (appM m' y) v'∧∀m2,(popM k (y::L2) m' v').2.2=(popM k L2 m2 v').2.2 from by
        refine⟨?_,fun m2=>(HPQ.out m2 v').2⟩
        have e:=(HPQ.out m' v').1 m' v'
        rw[e,if_neg h3,if_neg h3])
       clear h3 HPQ HINT HI2
       go_wp2_with fail
       refine HAP.out.mono ?_
       rintro e w2 ⟨m2,x2,rfl,hg2,hm2,hc2,hor⟩
       have HP2:=Lib.hid (HS2.out.ran hg2)
       have HG2:=Lib.hid (show MOk m2∧m2.count=k∧WordZ v'∧EvL L2 from ⟨hm2,hc2.trans HGD.out.2.1,HGD.out.2.2.1,HY2.out⟩)
       have HOR:=Lib.hid (show (x2=x∧popM k L m 0=popM k L2 m2 v')∨x2=true from by
        rcases hor with⟨r1,r2⟩|r1
        ·
         rcases HP.out with⟨q1,q2⟩|q1
         ·exact Or.inl ⟨r1.trans q1,by rw[q2,HQ.out.1,r2]⟩
         ·exact Or.inr (r1.trans q1)
        ·exact Or.inr r1)
       have HR2:=Lib.hid (show (popM k L m 0).2.2=(popM k L2 m2 v').2.2 from HR.out.trans (HQ.out.2 m2))
       clear hg2 hm2 hc2 hor HAP b0 b1 b2 lx
       go_wp2_with fail
       go_roundg L2.length
       case measure=>first|omega|(rw[hgh];simp)
       case rel=>exact⟨L2,m2,v',x2,al',L2.length,cl',rfl,rfl,HP2,HEV2,HG2,HOR,HR2⟩
    ·
     have hab:(y.at_ == k)=false:=by rw[beq_eq_false_iff_ne];exact hat
     have HFIN:=Lib.hid (show (x'=x∧(popM k L m 0).1=m'∧(popM k L m 0).2.1=v')∨x'=true from by
      rcases HP.out with⟨h1,h2⟩|h1
      ·exact Or.inl ⟨h1,by rw[h2,popM,if_neg hat],by rw[h2,popM,if_neg hat]⟩
      ·exact Or.inr h1)
     have HL2:=Lib.hid (show EvsR E wE (.slice (some ⟨b,off,none⟩) (L2.length+1) cl) (popM k L m 0).2.2 from by rw[HR.out,popM,if_neg hat];exact HL.out)
     clear hev hwsz fp hint i1 i2 hat k1 k2
     generalize y.at_=ya at *
     go_wp2_with fail
     go_meet
     exact⟨m',v',x',_,_,cl,rfl,HH,HL2,Lib.hid ⟨HG.out.1,HG.out.2.1,HG.out.2.2.1⟩,HFIN⟩
 case rest=>
  clear HH HL HMO HLL c6
  obtain⟨m',v',x',al,nl,cl,rfl,HH,HL,HG,HP⟩:=hcut
  obtain⟨ao,co,F,hps⟩:=HH.out
  have HEN:=Lib.hid (zhl HM.out hps.g.base)
  have HS:=Lib.hid hps
  have hcnt:(zax m').count=k:=(zaV m').2.trans HG.out.2.1
  have HCN:=Lib.hid hcnt
  have HOKE:=Lib.hid (HG.out.1.enter)
  have HEX:=Lib.hid (fun (W:World) (hg:PS Q St w0 D pb cb gr cr vm (zax m') wrote x' (.slice al nl cl) W)=>(show Calls Tryd.prog 60 #[.pointer (some ⟨cb,0,none⟩),.iface t v,.int .i64 v'] W (fun e w' =>∃m2 wr2 x2,e=.returned (.tuple #[])∧PS Q St w0 D pb cb gr cr vm m2 wr2 x2 (.slice al nl cl) w'∧MOk m2∧k≤m2.count∧m2.count≤k+1∧((x2=x'∧m2=(za3 (zax m') v').1∧wr2=(za3 (zax m') v').2)∨x2=true)) from by
   obtain⟨a1,c1,F1,hg⟩:=hg
   refine(ziF HM.out hg.g.base HOKE.out (by rw[HCN.out];exact HK0.out.1) v' HG.out.2.2).mono ?_
   rintro e w' ⟨m2,wr2,x2,he,hgs,hm2,hc1,hc2,hor⟩
   rw[HCN.out] at hc1 hc2
   exact⟨m2,wr2,x2,he,hg.ran hgs,hm2,hc1,hc2,hor⟩))
  clear hps hcnt
  go_wp2_with fail
  refine HEN.out.mono ?_
  rintro e w1 ⟨rfl,hg1⟩
  have HP1:=Lib.hid (HS.out.ran hg1)
  clear hg1 HEN
  go_wp2_with fail
  refine(HEX.out _ HP1.out).mono ?_
  rintro e w2 ⟨m2,wr2,x2,rfl,hp2,hm2,hc1,hc2,hor⟩
  have HF:=Lib.hid (show zeX Q St wE w0 D E pb cb gr cr vm m x (fwdM m L) (.returned (.tuple #[])) w2 from by
   refine⟨m2,wr2,x2,al,nl,cl,rfl,hp2,?_,hm2,by rw[HKK.out];exact hc1,by rw[HKK.out];exact hc2,?_⟩
   ·
    show EvsR E wE (.slice al nl cl) (popM m.count L m 0).2.2
    rw[HKK.out];exact HL.out
   ·
    rcases hor with⟨h1,h2,h3⟩|h1
    ·
     rcases HP.out with⟨q1,q2,q3⟩|q1
     ·
      left
      refine⟨h1.trans q1,?_,?_⟩
      ·
       show m2=(za3 (zax (popM m.count L m 0).1) (popM m.count L m 0).2.1).1
       rw[HKK.out,q2,q3];exact h2
      ·
       show wr2=(za3 (zax (popM m.count L m 0).1) (popM m.count L m 0).2.1).2
       rw[HKK.out,q2,q3];exact h3
     ·exact Or.inr (h1.trans q1)
    ·exact Or.inr h1)
  clear hp2 hm2 hc1 hc2 hor HEX HP1 HS
  go_wp2
  first|go_end0|refine bodyPost_ret (results_none rfl _ _ _) rfl ?_
  exact HF.out
end Go.Proofs.YtflonfcemlfbdaaDoor
namespace Go.Proofs.YtflonfcemlfbdaaDoor
open Go Go.RowKit Go.ChangeShapes Go.WideShapes Go.Deep
set_option linter.unusedVariables false
theorem ziL{w2 w3:World}{m:Mach}{ar am ao:Option Addr}{cr cm co:Nat}(hok:MOk m)(hown:MachOwn w2.heap.size w3 m (.slice ar m.regs.length cr) (.slice am m.mem.length cm) (.slice ao m.out.length co))(hb:Below w2.heap.size w2 w3):∃gr mb,ar=some ⟨gr,0,none⟩∧am=some ⟨mb,0,none⟩∧ZA w2 (fun _=>False) gr cr mb cm m ao co w3:=by
 have hr8:=hok.regs
 have hm256:=hok.mem
 obtain⟨gr,rfl,gb⟩:=zbf hown.hr (by omega)
 obtain⟨mb,rfl,mbb⟩:=zbf hown.hm (by omega)
 refine⟨gr,mb,rfl,rfl,?_⟩
 obtain⟨h1,h2,h3,a1,a2,a3,a4,a5,a6⟩:=hown
 rw[hr8] at h1 a1 a2 a4 a5
 rw[hm256] at h2 a1 a3 a4 a6
 have hne:gr≠mb:=by
  rcases a1 with a|a
  ·exact absurd a (by simp[Value.ownBlock])
  ·intro e;exact a (by simp[Value.ownBlock,e])
 refine⟨zar h1 (Nat.zero_le _),zar h2 (Nat.zero_le _),zar h3 (Nat.zero_le _),hne,?_,?_,OutF.of hb _,Or.inr gb,Or.inr mbb,fun g hg=>Or.inr (h3.lt g hg).1⟩
 ·
  rcases a5 with a|a
  ·intro e;rw[a] at e;cases e
  ·intro e;exact a (by rw[e];rfl)
 ·
  rcases a6 with a|a
  ·intro e;rw[a] at e;cases e
  ·intro e;exact a (by rw[e];rfl)
end Go.Proofs.YtflonfcemlfbdaaDoor
