/- Several texts joined, each with its own heading in the notes: What a decoding of bytes answers, in plain Lean; events that lie in memory of the call's own. Bytes that are read are those that would be written; in plain Lean. The contract of evlog. The contract of evlog. 'string(b)' of bytes that are read. No condition beyond those of each row. -/
import Derived.Test.YtflonfcemlfbdaaDoorYRf
import Derived.Laws.IdiomStrings
import Derived.Laws.BytesArg
namespace Go.Proofs.YtflonfcemlfbdaaDoor
open Go Go.RowKit Go.ChangeShapes Go.WideShapes Go.Deep
set_option linter.unusedVariables false
def BodyR(p:List UInt8)(c:Int)(l:List Ev):Prop:=∃e1 m r1,numP 0 0 p=(e1,m,r1)∧((1000<m∧c=1∧l=[])∨(m≤1000∧e1≠0∧c=e1∧l=[])∨(m≤1000∧e1=0∧∃e ev r,evsP m 0 r1=(e,ev,r)∧((e≠0∧c=e∧l=[])∨(e=0∧r≠[]∧c=4∧l=[])∨(e=0∧r=[]∧EvRes ev c∧l=if c=0 then ev else []))))
def DecR(b:List UInt8)(c:Int)(l:List Ev):Prop:=(60000<b.length∧c=1∧l=[])∨(b.length<5∧c=5∧l=[])∨(5≤b.length∧b.length≤60000∧sumB (b.take (b.length-4))≠b.drop (b.length-4)∧c=10∧l=[])∨(5≤b.length∧b.length≤60000∧sumB (b.take (b.length-4))=b.drop (b.length-4)∧BodyR (b.take (b.length-4)) c l)
theorem BodyR.det{p:List UInt8}{c d:Int}{l m:List Ev}(h:BodyR p c l)(k:BodyR p d m):c=d∧l=m:=by
 obtain⟨e1,m1,r1,hn,h⟩:=h
 obtain⟨e1',m1',r1',hn',k⟩:=k
 rw[hn] at hn'
 injection hn' with x1 x2
 injection x2 with x2 x3
 subst x1 x2 x3
 rcases h with⟨h1,rfl,rfl⟩|⟨h1,h2,rfl,rfl⟩|⟨h1,h2,e,ev,r,he,h⟩<;>rcases k with⟨k1,rfl,rfl⟩|⟨k1,k2,rfl,rfl⟩|⟨k1,k2,e',ev',r',he',k⟩
 ·exact⟨rfl,rfl⟩
 ·omega
 ·omega
 ·omega
 ·exact⟨rfl,rfl⟩
 ·exact absurd k2 h2
 ·omega
 ·exact absurd h2 k2
 ·
  rw[he] at he'
  injection he' with x1 x2
  injection x2 with x2 x3
  subst x1 x2 x3
  rcases h with⟨h3,rfl,rfl⟩|⟨h3,h4,rfl,rfl⟩|⟨h3,h4,h5,rfl⟩<;>rcases k with⟨k3,rfl,rfl⟩|⟨k3,k4,rfl,rfl⟩|⟨k3,k4,k5,rfl⟩
  ·exact⟨rfl,rfl⟩
  ·exact absurd k3 h3
  ·exact absurd k3 h3
  ·exact absurd h3 k3
  ·exact⟨rfl,rfl⟩
  ·exact absurd k4 h4
  ·exact absurd h3 k3
  ·exact absurd h4 k4
  ·
   obtain rfl:=h5.det k5
   exact⟨rfl,rfl⟩
theorem DecR.det{b:List UInt8}{c d:Int}{l m:List Ev}(h:DecR b c l)(k:DecR b d m):c=d∧l=m:=by
 rcases h with⟨h1,rfl,rfl⟩|⟨h1,rfl,rfl⟩|⟨h1,h2,h3,rfl,rfl⟩|⟨h1,h2,h3,h4⟩<;>rcases k with⟨k1,rfl,rfl⟩|⟨k1,rfl,rfl⟩|⟨k1,k2,k3,rfl,rfl⟩|⟨k1,k2,k3,k4⟩
 ·exact⟨rfl,rfl⟩
 ·omega
 ·omega
 ·omega
 ·omega
 ·exact⟨rfl,rfl⟩
 ·omega
 ·omega
 ·omega
 ·omega
 ·exact⟨rfl,rfl⟩
 ·exact absurd k3 h3
 ·omega
 ·omega
 ·exact absurd h3 k3
 ·exact h4.det k4
/-! ### Events of the call's own -/
def zdy(ps:List (Ev×Value)):List Value:=ps.flatMap fun p=>[.int .i64 p.1.at_,.int .i64 p.1.kind,p.2]
theorem zg2(a b:List (Ev×Value)):zdy (a++b)=zdy a++zdy b:=by simp[zdy]
theorem zd1:∀(ps:List (Ev×Value)) (i j:Nat) (hi:i<ps.length) (hj:j<3),(zdy ps)[i*3+j]?=([.int .i64 ps[i].1.at_,.int .i64 ps[i].1.kind,ps[i].2]:List Value)[j]?:=by
 intro ps
 induction ps with
 | nil=>intro i j hi;simp at hi
 | cons p ps ih=>
  intro i j hi hj
  rw[show zdy (p::ps)=[.int .i64 p.1.at_,.int .i64 p.1.kind,p.2]++zdy ps from rfl]
  cases i with
  | zero=>rw[List.getElem?_append_left (by simp;omega)];simp
  | succ i=>
   rw[List.getElem?_append_right (by simp;omega),show (i+1)*3+j-([Value.int .i64 p.1.at_,.int .i64 p.1.kind,p.2]:List Value).length=i*3+j by simp;omega]
   exact ih i j (by simpa using hi) hj
theorem zg3:(Tryd.prog.info? 75).map (fun i=>(i.zero,i.size,i.bytes))=some (some (.agg #[.int .i64 0,.int .i64 0,.slice none 0 0]),3,40):=by kernel_rfl
def DOwn(B:Nat)(w:World)(p:Ev×Value):Prop:=w.ownsRow B 3 1 p.2 p.1.data.length (p.1.data.map (Value.int .i64))∧(∀z∈p.1.data,I64 z)∧p.1.data.length≤16∧I64 p.1.at_∧I64 p.1.kind
structure OutSt(B:Nat)(ps:List (Ev×Value))(a:Option Addr)(c:Nat)(w:World):Prop where
 row:w.ownsRow B 75 3 (.slice a ps.length c) ps.length (zdy ps)
 data:∀p∈ps,DOwn B w p
theorem DOwn.ev{B:Nat}{w:World}{p:Ev×Value}(h:DOwn B w p):EvC w.heap.size w [.int .i64 p.1.at_,.int .i64 p.1.kind,p.2] p.1:=by
 obtain⟨h1,h2,h3,h4,h5⟩:=h
 obtain⟨ad,cd,hv⟩:=zaY h1
 have hi:=zaq h1 (by omega) h2
 rw[hv] at hi ⊢
 exact⟨ad,cd,rfl,h4,h5,hi⟩
theorem OutSt.evs{B:Nat}{ps:List (Ev×Value)}{a:Option Addr}{c:Nat}{w:World}(h:OutSt B ps a c w)(hl:ps.length≤100000):EvsR w.heap.size w (.slice a ps.length c) (ps.map (·.1)):=by
 rcases h.row.2 with⟨hv,h0⟩|⟨g,cap,cur,hv,hb,hg,hnc,hcap,hcs,htk⟩
 ·
  have e0:ps=[]:=List.eq_nil_of_length_eq_zero h0
  subst e0
  injection hv with h1 h2 h3
  subst h1 h3
  exact SlN.nil _ _ _ _ _
 ·
  injection hv with h1 h2 h3
  subst h1 h3
  refine⟨_,_,by rw[List.length_map],by rw[List.length_map];omega,by rw[List.length_map];omega,fun i hi=>?_⟩
  rw[List.length_map] at hi
  refine⟨g,0,[.int .i64 ps[i].1.at_,.int .i64 ps[i].1.kind,ps[i].2],rfl,(Array.getElem?_eq_some_iff.1 hg).1,rfl,fun j hj=>?_,?_⟩
  ·
   have hj3:j<3:=by simpa using hj
   have:=h.row.cells (g:=g) rfl (i*3+j) _ ((zd1 ps i j hi hj3).trans (List.getElem?_eq_getElem (by simpa using hj)))
   rw[add_plain] at this
   rw[Nat.add_assoc]
   exact this
  ·
   rw[List.getElem_map]
   exact(h.data _ (List.getElem_mem hi)).ev
theorem zeQ{w W:World}{B:Nat}{v:Value}{zs:List Int}(h:w.ownsRow B 3 1 v zs.length (zs.map (Value.int .i64)))(hm:zs.length≤17592186043904)(hz:∀z∈zs,I64 z)(hW:∀g,B≤g→g<w.heap.size→W.heap[g]?=w.heap[g]?):Ints w.heap.size W v zs:=by
 obtain⟨a,cap,hv,h1,h2,h3⟩:=zaq h hm hz
 refine⟨a,cap,hv,h1,h2,fun i hi=>?_⟩
 obtain⟨b,off,u,ha,hb,hc,hr⟩:=h3 i hi
 refine⟨b,off,u,ha,hb,?_,hr⟩
 rw[←hc]
 refine World.cell?_of_block (hW b ?_ hb)
 exact(h.lt b (by rw[hv,ha];rfl)).1
def EvsN(lo:Nat)(w:World)(v:Value)(l:List Ev):Prop:=EvsR w.heap.size w v l∧∀W:World,(∀g,lo≤g→g<w.heap.size→W.heap[g]?=w.heap[g]?)→EvsR w.heap.size W v l
theorem EvsN.nil(lo:Nat)(w:World):EvsN lo w (.slice none 0 0) []:=⟨SlN.nil _ _ _ _ _,fun _ _=>SlN.nil _ _ _ _ _⟩
theorem EvsN.le{lo lo':Nat}{w:World}{v:Value}{l:List Ev}(h:EvsN lo w v l)(hle:lo'≤lo):EvsN lo' w v l:=⟨h.1,fun W hW=>h.2 W (fun g hg=>hW g (by omega))⟩
theorem EvsN.below{lo:Nat}{w w':World}{v:Value}{l:List Ev}(h:EvsN lo w v l)(hb:Below w.heap.size w w'):EvsN lo w' v l:=
 ⟨h.1.to hb.size (zae hb),fun W hW=>(h.2 W (fun g hg hl=>(hW g hg (Nat.lt_of_lt_of_le hl hb.size)).trans (hb.block g hl))).to hb.size (fun _ _ _=>rfl)⟩
theorem OutSt.evsN{B:Nat}{ps:List (Ev×Value)}{a:Option Addr}{c:Nat}{w:World}(h:OutSt B ps a c w)(hl:ps.length≤100000):EvsN B w (.slice a ps.length c) (ps.map (·.1)):=by
 refine⟨h.evs hl,fun W hW=>?_⟩
 rcases h.row.2 with⟨hv,h0⟩|⟨g,cap,cur,hv,hb,hg,hnc,hcap,hcs,htk⟩
 ·
  have e0:ps=[]:=List.eq_nil_of_length_eq_zero h0
  subst e0
  injection hv with h1 h2 h3
  subst h1 h3
  exact SlN.nil _ _ _ _ _
 ·
  injection hv with h1 h2 h3
  subst h1 h3
  refine⟨_,_,by rw[List.length_map],by rw[List.length_map];omega,by rw[List.length_map];omega,fun i hi=>?_⟩
  rw[List.length_map] at hi
  refine⟨g,0,[.int .i64 ps[i].1.at_,.int .i64 ps[i].1.kind,ps[i].2],rfl,(Array.getElem?_eq_some_iff.1 hg).1,rfl,fun j hj=>?_,?_⟩
  ·
   have hj3:j<3:=by simpa using hj
   have:=h.row.cells (g:=g) rfl (i*3+j) _ ((zd1 ps i j hi hj3).trans (List.getElem?_eq_getElem (by simpa using hj)))
   rw[add_plain] at this
   rw[Nat.add_assoc,World.cell?_of_block (hW g (h.row.lt g rfl).1 (Array.getElem?_eq_some_iff.1 hg).1)]
   exact this
  ·
   rw[List.getElem_map]
   obtain⟨k1,k2,k3,k4,k5⟩:=h.data _ (List.getElem_mem hi)
   obtain⟨ad,cd,hv⟩:=zaY k1
   have hi:=zeQ k1 (by omega) k2 hW
   rw[hv] at hi ⊢
   exact⟨ad,cd,rfl,k4,k5,hi⟩
theorem DOwn.kept{B:Nat}{w w':World}{p:Ev×Value}{r:Option Nat}(h:DOwn B w p)(hg:w.grownBy w' r)(hne:p.2.ownBlock=none∨p.2.ownBlock≠r):DOwn B w' p:=⟨h.1.kept hg hne,h.2⟩
theorem DOwn.kept_lt{B g:Nat}{w w':World}{p:Ev×Value}(h:DOwn B w p)(hg:w.grownBy w' (some g))(hlt:g<B):DOwn B w' p:=by
 refine h.kept hg ?_
 cases hob:p.2.ownBlock with
 | none=>exact Or.inl rfl
 | some k=>exact Or.inr (by have:=(h.1.lt k hob).1;simp;omega)
theorem OutSt.kept_lt{B g:Nat}{ps:List (Ev×Value)}{a:Option Addr}{c:Nat}{w w':World}(h:OutSt B ps a c w)(hg:w.grownBy w' (some g))(hlt:g<B):OutSt B ps a c w':=by
 refine⟨h.row.kept hg ?_,fun p hp=>(h.data p hp).kept_lt hg hlt⟩
 cases hob:(Value.slice a ps.length c).ownBlock with
 | none=>exact Or.inl rfl
 | some k=>exact Or.inr (by have:=(h.row.lt k hob).1;simp;omega)
theorem OutSt.alloc{B:Nat}{ps:List (Ev×Value)}{a:Option Addr}{c:Nat}{w:World}(h:OutSt B ps a c w)(O:Obj):OutSt B ps a c (w.alloc O):=
 ⟨h.row.alloc O,fun p hp=>⟨(h.data p hp).1.alloc O,(h.data p hp).2⟩⟩
theorem OutSt.drewN{B:Nat}{ps:List (Ev×Value)}{a:Option Addr}{c:Nat}{w:World}(h:OutSt B ps a c w)(n:Nat):OutSt B ps a c (w.drewN n):=⟨h.row,h.data⟩
theorem OutSt.nil(B:Nat)(w:World):OutSt B [] none 0 w:=⟨World.ownsRow_nil _ _ _ _,fun p hp=>by cases hp⟩
theorem OutSt.push{B:Nat}{ps:List (Ev×Value)}{a:Option Addr}{c:Nat}{w w':World}(h:OutSt B ps a c w){p:Ev×Value}(hp:DOwn B w p){g cap:Nat}(ho:w'.ownsRow B 75 3 (.slice (some ⟨g,0,none⟩) (ps.length+1) cap) (ps.length+1) (zdy ps++[.int .i64 p.1.at_,.int .i64 p.1.kind,p.2]))(hg:w.grownBy w' (Value.slice a ps.length c).ownBlock):OutSt B (ps++[p]) (some ⟨g,0,none⟩) cap w':=by
 have hk:∀q,DOwn B w q→DOwn B w' q:=fun q hq=>hq.kept hg (zkj hq.1 h.row (by decide))
 refine⟨?_,fun q hq=>?_⟩
 ·
  rw[List.length_append,zg2]
  exact ho
 ·
  rcases List.mem_append.1 hq with hq|hq
  ·exact hk q (h.data q hq)
  ·rw[List.mem_singleton.1 hq];exact hk p hp
theorem zch{B:Nat}{w:World}{a:Option Addr}{n cap:Nat}{bs:List UInt8}(h:BytesR B w (.slice a n cap) bs){k:Nat}(hk:k≤bs.length):BytesR B w (.slice a k cap) (bs.take k):=by
 obtain⟨a',c',hv,hl,hl2,hc⟩:=h
 injection hv with h1 h2 h3
 subst h1 h3
 refine⟨_,_,by rw[List.length_take,Nat.min_eq_left hk],by rw[List.length_take];omega,by rw[List.length_take];omega,fun i hi=>?_⟩
 rw[List.length_take] at hi
 obtain⟨b,off,vi,ha,hb,hcell,hvi⟩:=hc i (by omega)
 exact⟨b,off,vi,ha,hb,hcell,by rw[List.getElem_take];exact hvi⟩
end Go.Proofs.YtflonfcemlfbdaaDoor
namespace Go.Proofs.YtflonfcemlfbdaaDoor
set_option linter.unusedVariables false
theorem zg4{a:Int}{bs r:List UInt8}{x:Ev}(h:evP a bs=(0,x,r)):bs=evE a x++r∧a≤x.at_:=by
 obtain⟨e,n,r1,hn⟩:∃e n r1,numP 0 0 bs=(e,n,r1):=⟨_,_,_,rfl⟩
 by_cases he:e=0
 ·
  subst he
  have hc:=zbn hn
  rcases (show n%4=0∨n%4=1∨n%4=2∨n%4=3 by omega) with hk|hk|hk|hk
  ·
   rw[zjC hn hk] at h
   simp only[Prod.mk.injEq] at h
   exact absurd h.1 (by decide)
  ·
   rw[zjD hn hk] at h
   simp only[Prod.mk.injEq,true_and] at h
   obtain⟨rfl,rfl⟩:=h
   refine⟨?_,by simp only;omega⟩
   unfold evE zir
   rw[if_neg (by simp),if_neg (by simp),List.append_nil]
   simp only
   rw[show (4*(a+((n/4:Nat):Int)-a)+1).toNat=n by omega]
   exact hc
  ·
   obtain⟨e2,d,r2,hb⟩:∃e2 d r2,blkP 16 [] 0 r1=(e2,d,r2):=⟨_,_,_,rfl⟩
   rw[ziu hn hk hb] at h
   simp only[Prod.mk.injEq] at h
   obtain⟨rfl,rfl,rfl⟩:=h
   obtain⟨t,ht,_,hbs,_⟩:=zip _ _ _ _ _ _ hb (by simp) (by simp)
   simp only[List.nil_append] at ht
   subst ht
   refine⟨?_,by simp only;omega⟩
   unfold evE zir
   simp only[if_pos]
   rw[show (4*(a+((n/4:Nat):Int)-a)+2).toNat=n by omega,List.append_assoc,←hbs]
   exact hc
  ·
   obtain⟨e2,z,r2,hb⟩:∃e2 z r2,numP 0 0 r1=(e2,z,r2):=⟨_,_,_,rfl⟩
   rw[ziv hn hk hb] at h
   simp only[Prod.mk.injEq] at h
   obtain⟨rfl,rfl,rfl⟩:=h
   refine⟨?_,by simp only;omega⟩
   unfold evE zir
   rw[if_neg (by simp),if_pos rfl]
   simp only[List.getD_cons_zero]
   rw[show (4*(a+((n/4:Nat):Int)-a)+3).toNat=n by omega,zgJ,List.append_assoc,←zbn hb]
   exact hc
 ·
  rw[zjB hn he] at h
  simp only[Prod.mk.injEq] at h
  exact absurd h.1 he
theorem zf5:∀(m:Nat) (a:Int) (bs r:List UInt8) (l:List Ev),evsP m a bs=(0,l,r)→bs=evsE a l++r∧l.length=m:=by
 intro m
 induction m with
 | zero=>
  intro a bs r l h
  simp only[evsP,Prod.mk.injEq,true_and] at h
  obtain⟨rfl,rfl⟩:=h
  exact⟨rfl,rfl⟩
 | succ m ih=>
  intro a bs r l h
  obtain⟨e,x,r1,hx⟩:∃e x r1,evP a bs=(e,x,r1):=⟨_,_,_,rfl⟩
  by_cases he:e=0
  ·
   subst he
   rw[zg0 hx] at h
   obtain⟨q1,q2,q3,hq⟩:∃q1 q2 q3,evsP m x.at_ r1=(q1,q2,q3):=⟨_,_,_,rfl⟩
   rw[hq] at h
   simp only[Prod.mk.injEq] at h
   obtain⟨rfl,rfl,rfl⟩:=h
   obtain⟨h1,h2⟩:=ih _ _ _ _ hq
   refine⟨?_,by rw[List.length_cons,h2]⟩
   rw[(zg4 hx).1,h1,evsE,List.append_assoc]
  ·
   rw[zjf hx he] at h
   simp only[Prod.mk.injEq] at h
   exact absurd h.1 he
theorem zb2{b:List UInt8}{l:List Ev}(h:DecR b 0 l):b=encE l∧EvRes l 0:=by
 rcases h with⟨_,h,_⟩|⟨_,h,_⟩|⟨_,_,_,h,_⟩|⟨h1,h2,hs,hb⟩
 ·exact absurd h (by decide)
 ·exact absurd h (by decide)
 ·exact absurd h (by decide)
 ·
  obtain⟨e1,m,r1,hn,h⟩:=hb
  rcases h with⟨_,h,_⟩|⟨_,h,h',_⟩|⟨hm,rfl,e,ev,r,he,h⟩
  ·exact absurd h (by decide)
  ·exact absurd h'.symm h
  ·
   rcases h with⟨h,h',_⟩|⟨_,_,h,_⟩|⟨rfl,rfl,hr,hl⟩
   ·exact absurd h'.symm h
   ·exact absurd h (by decide)
   ·
    rw[if_pos rfl] at hl
    subst hl
    refine⟨?_,hr⟩
    obtain⟨k1,k2⟩:=zf5 _ _ _ _ _ he
    rw[List.append_nil] at k1
    have hp:b.take (b.length-4)=payE l:=by
     unfold payE
     rw[k2,zbn hn,←k1]
    unfold encE
    rw[←hp,hs,List.take_append_drop]
theorem zg5{b:List UInt8}{c:Int}{l:List Ev}(h:DecR b c l)(h0:c≠0):l=[]:=by
 rcases h with⟨_,_,h⟩|⟨_,_,h⟩|⟨_,_,_,_,h⟩|⟨_,_,_,e1,m,r1,_,h⟩
 ·exact h
 ·exact h
 ·exact h
 ·
  rcases h with⟨_,_,h⟩|⟨_,_,_,h⟩|⟨_,_,e,ev,r,_,h⟩
  ·exact h
  ·exact h
  ·
   rcases h with⟨_,_,h⟩|⟨_,_,_,h⟩|⟨_,_,_,h⟩
   ·exact h
   ·exact h
   ·rw[if_neg h0] at h;exact h
end Go.Proofs.YtflonfcemlfbdaaDoor
namespace Go.Proofs.YtflonfcemlfbdaaDoor
open Go Go.RowKit Go.ChangeShapes Go.WideShapes Go.Deep
set_option maxHeartbeats 8000000
set_option maxRecDepth 100000
set_option linter.unusedVariables false
def DecPost(b:List UInt8)(w:World)(en:Ending)(w':World):Prop:=∃c l vo,DecR b c l∧en=.returned (.tuple #[vo,.int .i64 c])∧EvsR w'.heap.size w' vo l∧Below w.heap.size w w'
theorem DecPost.no{b:List UInt8}{w w':World}{c:Int}(h:DecR b c [])(hb:Below w.heap.size w w'):DecPost b w (.returned (.tuple #[.slice none 0 0,.int .i64 c])) w':=⟨c,[],_,h,rfl,SlN.nil _ _ _ _ _,hb⟩
def DecNew(b:List UInt8)(w:World)(en:Ending)(w':World):Prop:=∃c l vo,DecR b c l∧en=.returned (.tuple #[vo,.int .i64 c])∧EvsN w.heap.size w' vo l∧Below w.heap.size w w'
theorem DecNew.no{b:List UInt8}{w w':World}{c:Int}(h:DecR b c [])(hb:Below w.heap.size w w'):DecNew b w (.returned (.tuple #[.slice none 0 0,.int .i64 c])) w':=⟨c,[],_,h,rfl,EvsN.nil _ _,hb⟩
theorem DecNew.post{b:List UInt8}{w w':World}{en:Ending}(h:DecNew b w en w'):DecPost b w en w':=by
 obtain⟨c,l,vo,h1,h2,h3,h4⟩:=h
 exact⟨c,l,vo,h1,h2,h3.1,h4⟩
theorem zf6(v:Value)(b:List UInt8)(w:World)(hf:BytesR w.heap.size w v b)(h:60000<b.length):Calls Tryd.prog 31 #[v] w (DecNew b w):=by
 have HR:=Lib.hid (show DecR b 1 [] from Or.inl ⟨h,rfl,rfl⟩)
 obtain⟨a,cap,rfl,hl,hl2,hc⟩:=hf
 clear hc
 have hi:(60000:Int)<(b.length:Int):=by omega
 go_enter Tryd.func31,Tryd.ntmps31
 go_wp2
 go_ret2
 exact DecNew.no HR.out (Below.refl _ _)
theorem zd2(v:Value)(b:List UInt8)(w:World)(hf:BytesR w.heap.size w v b)(h:b.length<5):Calls Tryd.prog 31 #[v] w (DecNew b w):=by
 have HR:=Lib.hid (show DecR b 5 [] from Or.inr (Or.inl ⟨h,rfl,rfl⟩))
 obtain⟨a,cap,rfl,hl,hl2,hc⟩:=hf
 clear hc
 have hi:(b.length:Int)<5:=by omega
 go_enter Tryd.func31,Tryd.ntmps31
 go_wp2
 go_ret2
 exact DecNew.no HR.out (Below.refl _ _)
theorem zbW{B:Nat}{w:World}{ad:Option Addr}{n cap:Nat}{p:List UInt8}{d0 d1 d2 d3:UInt8}(hf:BytesR B w (.slice ad (n+4) cap) (p++[d0,d1,d2,d3]))(hp:p.length=n):∃bb off,ad=some ⟨bb,off,none⟩∧bb<B∧n+4≤cap∧w.cell? ⟨bb,off+n,none⟩=some (.int .u8 (d0.toNat:Int))∧w.cell? ⟨bb,off+(n+1),none⟩=some (.int .u8 (d1.toNat:Int))∧w.cell? ⟨bb,off+(n+2),none⟩=some (.int .u8 (d2.toNat:Int))∧w.cell? ⟨bb,off+(n+3),none⟩=some (.int .u8 (d3.toNat:Int)):=by
 subst hp
 obtain⟨a',c',hv,hl,hl2,hc⟩:=hf
 injection hv with h1 h2 h3
 subst h1 h3
 rw[List.length_append] at hl2
 simp only[List.length_cons,List.length_nil] at hl2
 have key:∀j (hj:j<4),∃bb off,ad=some ⟨bb,off,none⟩∧bb<B∧w.cell? ⟨bb,off+(p.length+j),none⟩=some (.int .u8 ((([d0,d1,d2,d3]:List UInt8)[j]'(by simpa using hj)).toNat:Int)):=by
  intro j hj
  obtain⟨bb,off,vi,ha,hbb,q,hvi⟩:=hc (p.length+j) (by rw[List.length_append];simp;omega)
  unfold zc5 at hvi
  refine⟨bb,off,ha,hbb,?_⟩
  rw[q,hvi,List.getElem_append_right (by omega)]
  simp
 obtain⟨bb,off,ha,hbb,q0⟩:=key 0 (by decide)
 obtain⟨b1,o1,ha1,_,q1⟩:=key 1 (by decide)
 obtain⟨b2,o2,ha2,_,q2⟩:=key 2 (by decide)
 obtain⟨b3,o3,ha3,_,q3⟩:=key 3 (by decide)
 rw[ha] at ha1 ha2 ha3
 injection ha1 with ha1;injection ha1 with x1 y1;subst x1 y1
 injection ha2 with ha2;injection ha2 with x1 y1;subst x1 y1
 injection ha3 with ha3;injection ha3 with x1 y1;subst x1 y1
 exact⟨bb,off,ha,hbb,by omega,q0,q1,q2,q3⟩
theorem zg6(p:List UInt8)(d0 d1 d2 d3:UInt8):sumB p=[d0,d1,d2,d3]↔(sum2 p:Int)*65536+(sum1 p:Int)=(d0.toNat:Int)*16777216+(d1.toNat:Int)*65536+(d2.toNat:Int)*256+(d3.toNat:Int):=by
 obtain⟨hx,hy⟩:=zeL p 1 0 (by decide) (by decide)
 change sum1 p<65521 at hx
 change sum2 p<65521 at hy
 have u0:=zbA d0
 have u1:=zbA d1
 have u2:=zbA d2
 have u3:=zbA d3
 unfold sumB
 generalize sum1 p=x at *
 generalize sum2 p=y at *
 constructor
 ·
  intro h
  simp only[List.cons.injEq,and_true] at h
  obtain⟨h0,h1,h2,h3⟩:=h
  have k0:=congrArg UInt8.toNat h0
  have k1:=congrArg UInt8.toNat h1
  have k2:=congrArg UInt8.toNat h2
  have k3:=congrArg UInt8.toNat h3
  rw[zdT (by omega)] at k0 k1 k2 k3
  omega
 ·
  intro h
  have k0:y/256=d0.toNat:=by omega
  have k1:y%256=d1.toNat:=by omega
  have k2:x/256=d2.toNat:=by omega
  have k3:x%256=d3.toNat:=by omega
  rw[k0,k1,k2,k3,UInt8.ofNat_toNat,UInt8.ofNat_toNat,UInt8.ofNat_toNat,UInt8.ofNat_toNat]
theorem zjg{n:Nat}{p:List UInt8}{d0 d1 d2 d3:UInt8}(hp:p.length=n):(p++[d0,d1,d2,d3]).length=n+4∧(p++[d0,d1,d2,d3]).take ((p++[d0,d1,d2,d3]).length-4)=p∧(p++[d0,d1,d2,d3]).drop ((p++[d0,d1,d2,d3]).length-4)=[d0,d1,d2,d3]:=by
 subst hp
 refine⟨by simp,?_,?_⟩
 ·rw[show (p++[d0,d1,d2,d3]).length-4=p.length by simp];simp
 ·rw[show (p++[d0,d1,d2,d3]).length-4=p.length by simp];simp
theorem DecR.sum{n:Nat}{p:List UInt8}{d0 d1 d2 d3:UInt8}(hp:p.length=n)(h1:1≤n)(h2:n≤59996)(hs:sumB p≠[d0,d1,d2,d3]):DecR (p++[d0,d1,d2,d3]) 10 []:=by
 obtain⟨k1,k2,k3⟩:=zjg (d0:=d0) (d1:=d1) (d2:=d2) (d3:=d3) hp
 exact Or.inr (Or.inr (Or.inl ⟨by omega,by omega,by rw[k2,k3];exact hs,rfl,rfl⟩))
theorem DecR.body{n:Nat}{p:List UInt8}{d0 d1 d2 d3:UInt8}{c:Int}{l:List Ev}(hp:p.length=n)(h1:1≤n)(h2:n≤59996)(hs:sumB p=[d0,d1,d2,d3])(h:BodyR p c l):DecR (p++[d0,d1,d2,d3]) c l:=by
 obtain⟨k1,k2,k3⟩:=zjg (d0:=d0) (d1:=d1) (d2:=d2) (d3:=d3) hp
 exact Or.inr (Or.inr (Or.inr ⟨by omega,by omega,by rw[k2,k3];exact hs,by rw[k2];exact h⟩))
theorem zf7(ad:Option Addr)(N n cap:Nat)(p:List UInt8)(d0 d1 d2 d3:UInt8)(w:World)(ht:Tab w)(hf:BytesR w.heap.size w (.slice ad N cap) (p++[d0,d1,d2,d3]))(hp:p.length=n)(hN:N=n+4)(hn:1≤n)(hn2:n≤59996)(hs:sumB p≠[d0,d1,d2,d3]):Calls Tryd.prog 31 #[.slice ad N cap] w (DecNew (p++[d0,d1,d2,d3]) w):=by
 have HT:=Lib.hid ht
 clear ht
 have hb:=zch hf (k:=n) (by rw[List.length_append];omega)
 rw[show (p++[d0,d1,d2,d3]).take n=p by rw[←hp];simp] at hb
 rw[←hp] at hb
 have HSM:=Lib.hid (zgU _ p w hb)
 have HBP:=Lib.hid hb
 rw[hp] at HSM
 clear hb
 rw[hN] at hf
 obtain⟨bb,off,rfl,hbb,hcap,q0,q1,q2,q3⟩:=zbW hf hp
 have hiff:=zg6 p d0 d1 d2 d3
 obtain⟨S,hS⟩:∃S:Int,S=(d0.toNat:Int)*16777216+(d1.toNat:Int)*65536+(d2.toNat:Int)*256+(d3.toNat:Int):=⟨_,rfl⟩
 rw[←hS] at hiff
 obtain⟨hx,hy⟩:=zeL p 1 0 (by decide) (by decide)
 change sum1 p<65521 at hx
 change sum2 p<65521 at hy
 have u0:=zbA d0
 have u1:=zbA d1
 have u2:=zbA d2
 have u3:=zbA d3
 generalize sum1 p=x at *
 generalize sum2 p=y at *
 have HS:=Lib.hid hs
 have hbool:(((y:Int)*65536+(x:Int)) != S)=true:=by rw[bne_iff_ne];exact fun e=>hs (hiff.2 e)
 clear hs hiff
 generalize d0.toNat=c0 at *
 generalize d1.toNat=c1 at *
 generalize d2.toNat=c2 at *
 generalize d3.toNat=c3 at *
 have o1:bits .or .i64 ((c0:Int)*16777216) ((c1:Int)*65536)=(c0:Int)*16777216+(c1:Int)*65536:=zaC 24 (by decide) _ _ (by omega) (by unfold I64;omega) (by omega) (by omega)
 have o2:bits .or .i64 ((c0:Int)*16777216+(c1:Int)*65536) ((c2:Int)*256)=(c0:Int)*16777216+(c1:Int)*65536+(c2:Int)*256:=zaC 16 (by decide) _ _ (by omega) (by unfold I64;omega) (by omega) (by omega)
 have o3:bits .or .i64 ((c0:Int)*16777216+(c1:Int)*65536+(c2:Int)*256) (c3:Int)=S:=by rw[hS];exact zaC 8 (by decide) _ _ (by omega) (by unfold I64;omega) (by omega) (by omega)
 clear hf hS
 have HP:=Lib.hid hp
 clear hp
 have hN1:(N:Int)-4=(n:Int):=by omega
 have hN2:(N:Int)≤60000:=by omega
 have hN3:(5:Int)≤(N:Int):=by omega
 have hN4:n≤N:=by omega
 have hN5:N≤cap:=by omega
 have hN6:n≤cap:=by omega
 clear hN hcap
 go_enter Tryd.func31,Tryd.ntmps31
 go_wp2_with fail
 refine HSM.out.mono ?_
 rintro en w1 ⟨rfl,rfl⟩
 go_wp2_with fail
 go_quiet (fail)
 go_wp2
 go_ret2
 exact DecNew.no (DecR.sum HP.out hn hn2 HS.out) (below_drewN (Below.refl _ _) _)
theorem zd3{bs r:List UInt8}{e:Int}{m:Nat}(h:numP 0 0 bs=(e,m,r))(he:e≠0):m=0:=by
 rcases zcA bs 0 0 with k|⟨_,k⟩
 ·rw[h] at k;exact absurd k he
 ·rw[h] at k;exact k
theorem ziw(a:Int)(bs:List UInt8):0≤(evP a bs).2.1.kind∧(evP a bs).2.1.kind≤3:=by
 unfold evP
 simp only
 split
 ·simp
 ·
  split
  ·simp
  ·
   split
   ·simp
   ·split<;>simp
def EvsGo(m:Nat)(r1:List UInt8)(i:Nat)(at_:Int)(cs:List UInt8)(l:List Ev):Prop:=evsP m 0 r1=((evsP (m-i) at_ cs).1,l++(evsP (m-i) at_ cs).2.1,(evsP (m-i) at_ cs).2.2)
theorem EvsGo.start(m:Nat)(r1:List UInt8):EvsGo m r1 0 0 r1 []:=rfl
theorem EvsGo.step{m i:Nat}{r1 cs r:List UInt8}{at_:Int}{l:List Ev}{x:Ev}(h:EvsGo m r1 i at_ cs l)(hi:i<m)(he:evP at_ cs=(0,x,r)):EvsGo m r1 (i+1) x.at_ r (l++[x]):=by
 unfold EvsGo at h ⊢
 rw[h,show m-i=m-(i+1)+1 by omega,zg0 he]
 simp
theorem EvsGo.err{m i:Nat}{r1 cs r:List UInt8}{at_ e:Int}{l:List Ev}{x:Ev}(h:EvsGo m r1 i at_ cs l)(hi:i<m)(he:evP at_ cs=(e,x,r))(h0:e≠0):∃ev,evsP m 0 r1=(e,ev,r):=by
 unfold EvsGo at h
 rw[h,show m-i=m-(i+1)+1 by omega,zjf he h0]
 exact⟨_,rfl⟩
theorem EvsGo.fin{m:Nat}{r1 cs:List UInt8}{at_:Int}{l:List Ev}(h:EvsGo m r1 m at_ cs l):evsP m 0 r1=(0,l,cs):=by
 unfold EvsGo at h
 rw[h,Nat.sub_self]
 simp[evsP]
theorem zeR(ad:Option Addr)(N n cap:Nat)(p:List UInt8)(d0 d1 d2 d3:UInt8)(w:World)(ht:Tab w)(hf:BytesR w.heap.size w (.slice ad N cap) (p++[d0,d1,d2,d3]))(hp:p.length=n)(hN:N=n+4)(hn:1≤n)(hn2:n≤59996)(hs:sumB p=[d0,d1,d2,d3]):Calls Tryd.prog 31 #[.slice ad N cap] w (DecNew (p++[d0,d1,d2,d3]) w):=by
 have HT:=Lib.hid ht
 clear ht
 have hb:=zch hf (k:=n) (by rw[List.length_append];omega)
 rw[show (p++[d0,d1,d2,d3]).take n=p by rw[←hp];simp] at hb
 rw[←hp] at hb
 have HSM:=Lib.hid (zgU _ p w hb)
 have HBP:=Lib.hid hb
 rw[hp] at HSM
 clear hb
 rw[hN] at hf
 obtain⟨bb,off,rfl,hbb,hcap,q0,q1,q2,q3⟩:=zbW hf hp
 have hiff:=zg6 p d0 d1 d2 d3
 obtain⟨S,hS⟩:∃S:Int,S=(d0.toNat:Int)*16777216+(d1.toNat:Int)*65536+(d2.toNat:Int)*256+(d3.toNat:Int):=⟨_,rfl⟩
 rw[←hS] at hiff
 obtain⟨hx,hy⟩:=zeL p 1 0 (by decide) (by decide)
 change sum1 p<65521 at hx
 change sum2 p<65521 at hy
 have u0:=zbA d0
 have u1:=zbA d1
 have u2:=zbA d2
 have u3:=zbA d3
 generalize sum1 p=x at *
 generalize sum2 p=y at *
 have HS:=Lib.hid hs
 have hbool:(((y:Int)*65536+(x:Int)) != S)=false:=by rw[bne_eq_false_iff_eq];exact hiff.1 hs
 clear hs hiff
 generalize d0.toNat=c0 at *
 generalize d1.toNat=c1 at *
 generalize d2.toNat=c2 at *
 generalize d3.toNat=c3 at *
 have o1:bits .or .i64 ((c0:Int)*16777216) ((c1:Int)*65536)=(c0:Int)*16777216+(c1:Int)*65536:=zaC 24 (by decide) _ _ (by omega) (by unfold I64;omega) (by omega) (by omega)
 have o2:bits .or .i64 ((c0:Int)*16777216+(c1:Int)*65536) ((c2:Int)*256)=(c0:Int)*16777216+(c1:Int)*65536+(c2:Int)*256:=zaC 16 (by decide) _ _ (by omega) (by unfold I64;omega) (by omega) (by omega)
 have o3:bits .or .i64 ((c0:Int)*16777216+(c1:Int)*65536+(c2:Int)*256) (c3:Int)=S:=by rw[hS];exact zaC 8 (by decide) _ _ (by omega) (by unfold I64;omega) (by omega) (by omega)
 clear hf hS
 have HP:=Lib.hid hp
 clear hp
 have hN1:(N:Int)-4=(n:Int):=by omega
 have hN2:(N:Int)≤60000:=by omega
 have hN3:(5:Int)≤(N:Int):=by omega
 have hN4:n≤N:=by omega
 have hN5:N≤cap:=by omega
 have hN6:n≤cap:=by omega
 clear hN hcap
 go_enter Tryd.func31,Tryd.ntmps31
 go_wp2_with fail
 refine HSM.out.mono ?_
 rintro en w1 ⟨rfl,rfl⟩
 go_wp2_with fail
 go_quiet (fail)
 have HB2:=Lib.hid (show Rd w w.heap.size p 0 ((w.drewN nq).alloc (.cells #[.slice (some ⟨bb,off,none⟩) n cap,.int .i64 0] 106 (0,0))) from ⟨⟨_,cap,by rw[HP.out];exact alloc_at rfl,HBP.out⟩,Nat.le_refl _,(below_drewN (Below.refl _ _) _).alloc (Nat.le_refl _) _⟩)
 obtain⟨e1,m,r1,hnum⟩:∃e1 m r1,numP 0 0 p=(e1,m,r1):=⟨_,_,_,rfl⟩
 have HNUM:=Lib.hid hnum
 have HNN:=Lib.hid (za5 w w.heap.size p _ HB2.out (e0:=0) hnum)
 have hml:=zaX (e:=0) hnum
 have HDB:=Lib.hid (fun (c:Int) (l:List Ev) (h:BodyR p c l)=>DecR.body HP.out hn hn2 HS.out h)
 clear hnum o1 o2 o3 hbool u0 u1 u2 u3 hx hy q0 q1 q2 q3 HSM
 go_wp2_with fail
 refine HNN.out.mono ?_
 rintro en w2 ⟨rfl,hr2,hg2⟩
 have HR2:=Lib.hid hr2
 clear hr2 hg2 HNN HB2
 by_cases hm:1000<m
 ·
  have hm2:(1000:Int)<(m:Int):=by omega
  have HPO:=Lib.hid (HDB.out 1 [] ⟨e1,m,r1,HNUM.out,Or.inl ⟨hm,rfl,rfl⟩⟩)
  clear hm
  go_wp2
  go_ret2
  exact DecNew.no HPO.out HR2.out.b
 ·
  have hm2:(m:Int)≤1000:=by omega
  have HE0:=Lib.hid (show e1≠0→m=0 from zd3 HNUM.out)
  go_wp2_with fail
  go_loopg [8,9,66] m (fun gh s8 s9 s66 wr =>∃(i:Nat) (ps:List (Ev×Value)) (a:Option Addr) (c:Nat) (at_:Int) (cs:List UInt8),i≤m∧gh=m-i∧s66=.int .i64 i∧s9=.int .i64 at_∧0≤at_∧at_≤i*140737488355328∧ps.length=i∧s8=.slice a ps.length c∧Hid (Rd w w.heap.size cs e1 wr)∧Hid (OutSt (w.heap.size+1) ps a c wr)∧Hid (EvsGo m r1 i at_ cs (ps.map (·.1))))
  case atStart=>exact⟨0,[],none,0,0,r1,Nat.zero_le _,by omega,rfl,rfl,by omega,by omega,rfl,rfl,HR2,Lib.hid (OutSt.nil _ _),Lib.hid (EvsGo.start _ _)⟩
  case round=>
   obtain⟨i,ps,a,c,at_,cs,hi,rfl,rfl,rfl,hat0,hat1,hpl,rfl,HR,HO,HG⟩:=hrel
   clear HR2
   by_cases hil:i<m
   ·
    obtain rfl:e1=0:=by
     by_cases h:e1=0
     ·exact h
     ·have:=HE0.out h;omega
    have hb48:at_≤1000*140737488355328:=by omega
    have hlg:=HR.out.lt
    have hwr:=HR.out.b.size
    have HEV:=Lib.hid (zg1 w w.heap.size at_ cs wr HR.out HT.out ⟨by omega,by omega⟩)
    obtain⟨e,x,r,hev⟩:∃e x r,evP at_ cs=(e,x,r):=⟨_,_,_,rfl⟩
    obtain⟨xat,xkd,xda⟩:=x
    have HEQ:=Lib.hid hev
    clear hev
    go_wp2_with fail
    refine HEV.out.mono ?_
    rintro en w4 hpost
    unfold EvPostR at hpost
    rw[HEQ.out] at hpost
    obtain⟨x0,x1,da,dn,dc,rfl,hr4,hg4,hok⟩:=hpost
    simp only at hr4 hok
    have HR4:=Lib.hid (hr4.other (World.grownBy_alloc w4 (.cells #[.int .i64 x0,.int .i64 x1,.slice da dn dc] 75) none) (by simp) (by simp))
    have q1:=hr4.c1
    have q2:=HR4.out.c1
    have hs4:=hr4.lt
    have HO4:=Lib.hid (HO.out.kept_lt hg4 (by omega))
    have hsz4:=hg4.size
    by_cases he:e=0
    ·
     subst he
     obtain⟨rfl,rfl,hdo,hd64,hd16,hge,hle⟩:=hok rfl
     have HDO:=Lib.hid (show DOwn (w.heap.size+1) w4 (⟨x0,x1,xda⟩,.slice da dn dc) from ⟨zar hdo (by omega),hd64,hd16,by show I64 x0;unfold I64;omega,by have:=ziw at_ cs;rw[HEQ.out] at this;simp only at this;show I64 x1;unfold I64;omega⟩)
     have z0:(w4.alloc (.cells #[.int .i64 x0,.int .i64 x1,.slice da dn dc] 75)).cell? ⟨w4.heap.size,0,none⟩=some (.int .i64 x0):=zaa (alloc_at rfl) 0
     have z1:(w4.alloc (.cells #[.int .i64 x0,.int .i64 x1,.slice da dn dc] 75)).cell? ⟨w4.heap.size,1,none⟩=some (.int .i64 x1):=zaa (alloc_at rfl) 1
     have z2:(w4.alloc (.cells #[.int .i64 x0,.int .i64 x1,.slice da dn dc] 75)).cell? ⟨w4.heap.size,2,none⟩=some (.slice da dn dc):=zaa (alloc_at rfl) 2
     have HO5:=Lib.hid (HO4.out.alloc (.cells #[.int .i64 x0,.int .i64 x1,.slice da dn dc] 75))
     have HGN:=Lib.hid (HG.out.step hil HEQ.out)
     have hlt3:x0≤((i:Int)+1)*140737488355328:=by omega
     have hge0:0≤x0:=by omega
     have hpl2:ps.length≤1000:=by omega
     have hplz:=Lib.hid hpl
     clear hdo hd64 hd16 hok hr4 hg4 HEV HR hat0 hat1 hge hle hb48 HO4 HG HO HEQ hpl
     go_wp2_with (at_builtin;go_loud (refine za4 (w4.alloc (.cells #[.int .i64 x0,.int .i64 x1,.slice da dn dc] 75)) rfl (.tmp 82) (.tmp 84) 36 rfl (w.heap.size+1) 75 (.agg #[.int .i64 0,.int .i64 0,.slice none 0 0]) 3 40 Tryd.underlying36 zg3 rfl (by decide) [.int .i64 x0,.int .i64 x1,.slice da dn dc] rfl (by simp[Value.oneCell']) _ _ _ (by rfl) HO5.out.row (by rfl) (by simp) (by omega) (by omega) (by simp;omega) ?_);intro g5 cp5 w5 hown5 hgrow5;have HW5:=Lib.hid hown5;have HGR5:=Lib.hid hgrow5;clear hown5 hgrow5)
     have HO6:=Lib.hid (HO5.out.push (p:=(⟨x0,x1,xda⟩,.slice da dn dc)) ⟨HDO.out.1.alloc _,HDO.out.2⟩ HW5.out HGR5.out)
     have HR6:=Lib.hid (HR4.out.other HGR5.out (fun e=>by have:=HO5.out.row.lt _ e.symm;omega) (fun k hk=>by have:=HO5.out.row.lt _ hk;omega))
     go_roundg (m-(i+1))
     case measure=>omega
     case rel=>exact⟨i+1,ps++[(⟨x0,x1,xda⟩,.slice da dn dc)],_,_,x0,r,by omega,rfl,by go_num,rfl,hge0,by omega,by rw[List.length_append,hplz.out];rfl,by rw[List.length_append];rfl,HR6,HO6,Lib.hid (by rw[List.map_append];exact HGN.out)⟩
    ·
     have he0:(e != 0)=true:=by rw[bne_iff_ne];exact he
     have he1:(e == 0)=false:=by rw[beq_eq_false_iff_ne];exact he
     obtain⟨ev,hev⟩:=HG.out.err hil HEQ.out he
     have HPO:=Lib.hid (HDB.out e [] ⟨0,m,r1,HNUM.out,Or.inr (Or.inr ⟨by omega,rfl,e,ev,r,hev,Or.inl ⟨he,rfl,rfl⟩⟩)⟩)
     clear hev he hok hr4 hg4 HEV HR HG HO HO4 HEQ
     go_wp2_with fail
     go_quiet (fail)
     go_wp2
     go_ret2
     exact DecNew.no HPO.out (below_drewN HR4.out.b _)
   ·
    obtain rfl:i=m:=by omega
    obtain⟨ab,cb,hxb,hbb2⟩:=HR.out.box
    have q0:wr.cell? ⟨w.heap.size,0,none⟩=some (.slice ab cs.length cb):=zaa hxb 0
    have q1:wr.cell? ⟨w.heap.size,1,none⟩=some (.int .i64 e1):=zaa hxb 1
    have hlg:=HR.out.lt
    clear hxb hbb2
    by_cases he:e1=0
    ·
     subst he
     have hfin:=HG.out.fin
     by_cases hcs:cs=[]
     ·
      subst hcs
      have HEVN:=Lib.hid (show EvsN w.heap.size wr (.slice a i c) (ps.map (·.1)) by have:=(HO.out.evsN (by omega)).le (Nat.le_succ _);rw[hpl] at this;exact this)
      have HEVS:=Lib.hid HEVN.out.1
      have HFIN:=Lib.hid hfin
      simp only[List.length_nil] at q0
      have HCK:=Lib.hid (zeJ _ _ wr HEVS.out (HT.out.to HR.out.b))
      clear hfin hat0 hat1
      go_wp2_with fail
      refine HCK.out.mono ?_
      rintro en w5 ⟨d,hd,rfl,hb5⟩
      have hsz:=HR.out.b.size
      have HBB:=Lib.hid (HR.out.b.trans (hb5.mono hsz))
      by_cases hd0:d=0
      ·
       subst hd0
       have HPO:=Lib.hid (HDB.out 0 (ps.map (·.1)) ⟨0,i,r1,HNUM.out,Or.inr (Or.inr ⟨by omega,rfl,0,_,[],HFIN.out,Or.inr (Or.inr ⟨rfl,rfl,hd,rfl⟩)⟩)⟩)
       have HE5:=Lib.hid (HEVN.out.below hb5)
       clear hd hb5
       go_wp2
       go_ret2
       exact⟨0,_,_,HPO.out,rfl,HE5.out,HBB.out⟩
      ·
       have hd1:(d != 0)=true:=by rw[bne_iff_ne];exact hd0
       have HPO:=Lib.hid (HDB.out d [] ⟨0,i,r1,HNUM.out,Or.inr (Or.inr ⟨by omega,rfl,0,_,[],HFIN.out,Or.inr (Or.inr ⟨rfl,rfl,hd,by rw[if_neg hd0]⟩)⟩)⟩)
       clear hd hb5 hd0
       go_wp2
       go_ret2
       exact DecNew.no HPO.out HBB.out
     ·
      have hcl:0<cs.length:=List.length_pos_iff.2 hcs
      have hcl2:(0:Int)<(cs.length:Int):=by omega
      have HPO:=Lib.hid (HDB.out 4 [] ⟨0,i,r1,HNUM.out,Or.inr (Or.inr ⟨by omega,rfl,0,_,cs,hfin,Or.inr (Or.inl ⟨rfl,hcs,rfl,rfl⟩)⟩)⟩)
      have HW:=Lib.hid (zcg w w.heap.size cs 4 wr HR.out)
      clear hfin hcs
      go_wp2_with fail
      refine HW.out.mono ?_
      rintro en w5 ⟨rfl,hr5,hg5⟩
      have q5:=hr5.c1
      have hlg5:=hr5.lt
      go_wp2_with fail
      go_quiet (fail)
      go_wp2
      go_ret2
      exact DecNew.no HPO.out (below_drewN hr5.b _)
    ·
     have he0:(e1 != 0)=true:=by rw[bne_iff_ne];exact he
     have he1:(e1 == 0)=false:=by rw[beq_eq_false_iff_ne];exact he
     have HPO:=Lib.hid (HDB.out e1 [] ⟨e1,i,r1,HNUM.out,Or.inr (Or.inl ⟨by omega,he,rfl,rfl⟩)⟩)
     clear he
     go_wp2_with fail
     go_quiet (fail)
     go_wp2
     go_ret2
     exact DecNew.no HPO.out (below_drewN HR.out.b _)
theorem zd4(v:Value)(b:List UInt8)(w:World)(hf:BytesR w.heap.size w v b)(ht:Tab w):Calls Tryd.prog 31 #[v] w (DecNew b w):=by
 by_cases h1:60000<b.length
 ·exact zf6 v b w hf h1
 ·
  by_cases h2:b.length<5
  ·exact zd2 v b w hf h2
  ·
   obtain⟨ad,cap,hv,hrest⟩:=id hf
   clear hrest
   subst hv
   obtain⟨n,hn⟩:∃n,b.length=n+4:=⟨b.length-4,by omega⟩
   obtain⟨d0,d1,d2,d3,hd⟩:=len4 (show (b.drop n).length=4 by rw[List.length_drop];omega)
   have hb:b=b.take n++[d0,d1,d2,d3]:=by rw[←hd,List.take_append_drop]
   have hp:(b.take n).length=n:=by rw[List.length_take];omega
   generalize hN:b.length=N at *
   rw[hb] at hf ⊢
   by_cases hs:sumB (b.take n)=[d0,d1,d2,d3]
   ·exact zeR ad N n cap _ d0 d1 d2 d3 w ht hf hp hn (by omega) (by omega) hs
   ·exact zf7 ad N n cap _ d0 d1 d2 d3 w ht hf hp hn (by omega) (by omega) hs
theorem zci{w:World}{B:Nat}{a:Option Addr}{c n:Nat}{bs:List UInt8}(h:BytesR B w (.slice a n c) bs):(convert 25 9 (.slice a n c)).run Tryd.prog w=.ok (.string ⟨bs.toArray⟩) w:=by
 obtain⟨a',cap,hv,_,_,hc⟩:=h
 injection hv with h1 h2 h3
 subst h1 h2
 cases a with
 | none=>
  have h0:bs.length=0:=by
   rcases Nat.eq_zero_or_pos bs.length with h|h
   ·exact h
   ·obtain⟨_,_,_,hh,_⟩:=hc 0 h;cases hh
  have e0:bs=[]:=List.eq_nil_of_length_eq_zero h0
  subst e0
  exact run_convert_bytes_nil w 25 5 Tryd.underlying25 Tryd.underlying5 _ _ _ Tryd.underlying9
 | some ad=>
  refine run_convert_bytes_back w 25 9 5 ad c bs Tryd.underlying25 Tryd.underlying5 Tryd.underlying9 (fun j hj=>?_)
  obtain⟨b,off,vi,ha,_,hcell,hvi⟩:=hc j hj
  injection ha with ha
  subst ha
  rw[add_plain,hcell,hvi]
end Go.Proofs.YtflonfcemlfbdaaDoor
