/- Several texts joined, each with its own heading in the notes: A deck and its checkpoints in memory. The spaces of a host, each with its block, its pages and what it holds: one is dropped, forked, or new. A deck taken apart into its box, its core, its host's spaces and its checkpoints, and put together again. No condition beyond those of each row. -/
import Derived.Test.YtflonfcemlfbdaaDoorYSu
import Derived.Test.YtflonfcemlfbdaaDoorYNg
import Derived.Test.YtflonfcemlfbdaaDoorYHz
namespace Go.Proofs.YtflonfcemlfbdaaDoor
open Go Go.RowKit Go.ChangeShapes Go.WideShapes Go.Deep
set_option linter.unusedVariables false
theorem zaI{b size n:Nat}{e:TypeId}{v:Value}{xs:List Value}{w w':World}(h:w.ownsRow b e size v n xs)(hv:∀g,v.ownBlock=some g→w'.heap[g]?=w.heap[g]?):w'.ownsRow b e size v n xs:=by
 rcases h with⟨h1,h2|⟨g,cap,cur,rfl,hg,hh,r⟩⟩
 ·exact⟨h1,Or.inl h2⟩
 ·exact⟨h1,Or.inr ⟨g,cap,cur,rfl,hg,(hv g rfl).trans hh,r⟩⟩
section
variable {St:World→(Nat→Prop)→List Int→Bool→Prop} {w0 w:World} {D:Nat→Prop} {Q:PBox} {pb cb gr cr:Nat} {vm:Value} {m:Mach} {wrote:Int} {x:Bool} {vl:Value} {ao:Option Addr} {co:Nat} {F:Nat→Prop}
theorem GSt.mono{D':Nat→Prop}(h:GSt St w0 D cb gr cr vm m wrote x ao co F w)(hd:∀g,D g→D' g):GSt St w0 D' cb gr cr vm m wrote x ao co F w:=
 {h with old:=h.old.mono hd,dc:=h.dc.imp (hd _) id,dr:=h.dr.imp (hd _) id,df:=fun g hg=>(h.df g hg).imp (hd _) id,dq:=fun g hg=>(h.dq g hg).imp (hd _) id}
def Dq(pb cb gr:Nat)(ao:Option Addr)(n co:Nat)(F:Nat→Prop)(g:Nat):Prop:=g=pb∨Dn cb gr ao n co F g
theorem PSt.base(h:PSt Q St w0 D pb cb gr cr vm m wrote x vl ao co F w):PSt Q St w (Dq pb cb gr ao m.out.length co F) pb cb gr cr vm m wrote x vl ao co F w:=
 ⟨h.g.base.mono (fun g hg=>Or.inr hg),h.box,h.nf,Or.inl (Or.inl rfl)⟩
theorem PSt.dqs(h:PSt Q St w0 D pb cb gr cr vm m wrote x vl ao co F w):∀g,Dq pb cb gr ao m.out.length co F g→D g∨w0.heap.size≤g:=by
 rintro g (rfl|hg)
 ·exact h.db
 ·exact h.g.dn g hg
theorem PSt.back(h0:PSt Q St w0 D pb cb gr cr vm m wrote x vl ao co F w){Q':PBox}{cb' gr' cr':Nat}{m':Mach}{wr':Int}{x':Bool}{vl':Value}{ao':Option Addr}{co':Nat}{F':Nat→Prop}{w':World}(h:PSt Q' St w (Dq pb cb gr ao m.out.length co F) pb cb' gr' cr' vm m' wr' x' vl' ao' co' F' w'):PSt Q' St w0 D pb cb' gr' cr' vm m' wr' x' vl' ao' co' F' w':=by
 have hs:=h0.g.old.size
 have key:∀g,(Dq pb cb gr ao m.out.length co F g∨w.heap.size≤g)→D g∨w0.heap.size≤g:=fun g hg=>hg.elim (h0.dqs g) (fun hg=>Or.inr (by omega))
 exact⟨{h.g with old:=h0.g.old.trans h.g.old h0.dqs,dc:=key _ h.g.dc,dr:=key _ h.g.dr,df:=fun g hg=>key g (h.g.df g hg),dq:=fun g hg=>key g (h.g.dq g hg)},h.box,h.nf,key _ h.db⟩
end
structure Pt where
 m:Mach
 i:Nat
 L:List Ev
 sb:Nat
 pg:List Int
 gr:Nat
 cr:Nat
 ao:Option Addr
 co:Nat
 al:Option Addr
 nl:Nat
 cl:Nat
def Pt.cells(p:Pt):List Value:=[.slice (some ⟨p.gr,0,none⟩) 8 p.cr,.int .i64 p.m.pc,.int .i64 p.m.back,.bool p.m.ints,.bool p.m.wait,.int .i64 p.m.table,.int .i64 p.m.count,.int .i64 p.m.fin,.slice none 0 0,.slice p.ao p.m.out.length p.co,.int .i64 p.m.ready,.int .i64 p.m.want,.pointer (some ⟨p.sb,0,none⟩),.slice p.al p.nl p.cl]
def PB(p:Pt)(g:Nat):Prop:=g=p.sb∨g=p.gr∨(Value.slice p.ao p.m.out.length p.co).ownBlock=some g
structure DkC where
 pp:PX
 w1:World
 wE:World
 E:Nat
 db:Nat
 hb:Nat
 N:Nat
 ev:Int
 kp:Int
 vi:Value
 vb:Value
 cnt:Int
 al:Option Addr
 cl:Nat
 img:List Int
 L:List Ev
structure DkK(K:DkC):Prop where
 db:K.db<K.w1.heap.size
 hb:K.w1.heap.size≤K.hb
 E:K.E≤K.w1.heap.size
 imp:∀W,OutF (fun g=>g=K.db) K.w1 W→Imp K.E K.wE W
 evs:EvsR K.E K.wE (.slice K.al K.L.length K.cl) K.L
 evl:EvL K.L
 img:∀W,OutF (fun g=>g=K.db) K.w1 W→Ints W.heap.size W K.vi K.img
 nc:newC K.img=0
 c0:0≤K.cnt
 c1:K.cnt≤3000
 n1:K.N≤200
 e0:1≤K.ev
 e1:K.ev≤3000
 k0:1≤K.kp
 k1:K.kp≤8
@[reducible] def DkC.pb (K:DkC) (cb sb:Nat) (ap:Option Addr) (np cp:Nat):PBox:=⟨fun v=>#[.int .i64 K.N,.int .i64 K.ev,.int .i64 K.kp,K.vi,K.vb,.int .i64 K.cnt,.slice K.al K.L.length K.cl,.pointer (some ⟨K.hb,0,none⟩),.pointer (some ⟨cb,0,none⟩),.pointer (some ⟨sb,0,none⟩),v,.slice ap np cp],44,10,fun _=>rfl,fun _ _=>rfl,by decide,by decide⟩
structure PtR(K:DkC)(w:World)(p:Pt):Prop where
 regs:w.ownsRow K.w1.heap.size 3 1 (.slice (some ⟨p.gr,0,none⟩) 8 p.cr) 8 (p.m.regs.map (Value.int .i64))
 out:w.ownsRow K.w1.heap.size 3 1 (.slice p.ao p.m.out.length p.co) p.m.out.length (p.m.out.map (Value.int .i64))
 sp:SpcS p.sb K.hb p.pg 0 w
 spb:K.w1.heap.size≤p.sb
 evs:EvsR K.E K.wE (.slice p.al p.nl p.cl) p.L
 st:Stands K.L p.m p.i p.L
 run:Runs K.L (zas K.img) p.m p.i
 fin:p.m.fin=0
 le:(p.i:Int)≤K.cnt
theorem PtR.lt{K:DkC}{w:World}{p:Pt}(h:PtR K w p):∀g,PB p g→K.w1.heap.size≤g∧g<w.heap.size:=by
 rintro g (rfl|rfl|hg)
 ·exact⟨h.spb,zaG h.sp⟩
 ·exact h.regs.lt _ rfl
 ·exact h.out.lt g hg
theorem PtR.stay{K:DkC}{w w':World}{p:Pt}(h:PtR K w p)(hs:∀g,PB p g→w'.heap[g]?=w.heap[g]?):PtR K w' p:=
 {h with regs:=zaI h.regs (fun g hg=>hs g (Or.inr (Or.inl (by injection hg with e;exact e.symm)))),out:=zaI h.out (fun g hg=>hs g (Or.inr (Or.inr hg))),sp:=(hs _ (Or.inl rfl)).trans h.sp}
theorem PtR.ok{K:DkC}(hK:DkK K){w:World}{p:Pt}(h:PtR K w p):MOk p.m:=by
 rw[h.run.run]
 exact(zdC hK.evl (zcX hK.nc).1 rfl _ (by have:=h.le;have:=hK.c1;omega)).1
structure DkP(K:DkC)(m:Mach)(cb gr cr sb:Nat)(wrote:Int)(x:Bool)(vl:Value)(ao:Option Addr)(co:Nat)(F:Nat→Prop)(ap:Option Addr)(cp:Nat)(pts:List Pt)(w:World):Prop where
 ps:PSt (K.pb cb sb ap pts.length cp) (SpStP K.pp sb K.hb K.N (pts.map (·.pg)) (pts.map (·.m.mem))) K.w1 (fun g=>g=K.db) K.db cb gr cr (.slice none 0 0) m wrote x vl ao co F w
 row:w.ownsRow K.w1.heap.size 86 14 (.slice ap pts.length cp) pts.length (pts.flatMap Pt.cells)
 pt:∀p∈pts,PtR K w p
 sep:∀p∈pts,∀g,PB p g→¬Dn cb gr ao m.out.length co F g
 nd:(pts.map (·.sb)).Nodup
 len:(pts.length:Int)≤K.kp
structure Dk(K:DkC)(m:Mach)(i:Nat)(cb gr cr sb:Nat)(wrote:Int)(x:Bool)(al:Option Addr)(nl cl:Nat)(LL:List Ev)(ao:Option Addr)(co:Nat)(F:Nat→Prop)(ap:Option Addr)(cp:Nat)(pts:List Pt)(w:World):Prop where
 p:DkP K m cb gr cr sb wrote x (.slice al nl cl) ao co F ap cp pts w
 run:Runs K.L (zas K.img) m i
 st:Stands K.L m i LL
 evs:EvsR K.E K.wE (.slice al nl cl) LL
 le:(i:Int)≤K.cnt
def DkS(K:DkC)(m:Mach)(i:Nat)(wrote:Int)(w:World):Prop:=∃cb gr cr sb al nl cl LL ao co F ap cp pts,Dk K m i cb gr cr sb wrote false al nl cl LL ao co F ap cp pts w
theorem zbH(p:Pt):p.cells.length=14:=rfl
section
variable {K:DkC} {m:Mach} {i:Nat} {cb gr cr sb:Nat} {wrote:Int} {x:Bool} {vl:Value} {al:Option Addr} {nl cl:Nat} {LL:List Ev} {ao:Option Addr} {co:Nat} {F:Nat→Prop} {ap:Option Addr} {cp:Nat} {pts:List Pt} {w:World}
theorem Dk.ok(hK:DkK K)(h:Dk K m i cb gr cr sb wrote x al nl cl LL ao co F ap cp pts w):MOk m:=by
 rw[h.run.run]
 exact(zdC hK.evl (zcX hK.nc).1 rfl _ (by have:=h.le;have:=hK.c1;omega)).1
theorem Dk.ll(hK:DkK K)(h:Dk K m i cb gr cr sb wrote x al nl cl LL ao co F ap cp pts w):EvL LL:=by
 obtain⟨pre,e,_⟩:=h.st.pre
 have:=hK.evl
 rw[e] at this
 exact this.drop
theorem DkP.below(h:DkP K m cb gr cr sb wrote x vl ao co F ap cp pts w){w':World}(hb:Below w.heap.size w w'):DkP K m cb gr cr sb wrote x vl ao co F ap cp pts w':=
 { h with
   ps:=⟨h.ps.g.below (zcb _ _ _ _ _ _) hb,zac hb h.ps.box h.ps.plt,h.ps.nf,h.ps.db⟩
   row:=own_below h.row hb (Nat.le_refl _)
   pt:=fun p hp=>(h.pt p hp).stay (fun g hg=>hb.block g ((h.pt p hp).lt g hg).2)}
theorem Dk.below(h:Dk K m i cb gr cr sb wrote x al nl cl LL ao co F ap cp pts w){w':World}(hb:Below w.heap.size w w'):Dk K m i cb gr cr sb wrote x al nl cl LL ao co F ap cp pts w':={h with p:=h.p.below hb}
theorem DkS.below{w':World}(h:DkS K m i wrote w)(hb:Below w.heap.size w w'):DkS K m i wrote w':=by
 obtain⟨cb,gr,cr,sb,al,nl,cl,LL,ao,co,F,ap,cp,pts,h⟩:=h
 exact⟨cb,gr,cr,sb,al,nl,cl,LL,ao,co,F,ap,cp,pts,h.below hb⟩
theorem DkS.out(h:DkS K m i wrote w):OutF (fun g=>g=K.db) K.w1 w:=by
 obtain⟨cb,gr,cr,sb,al,nl,cl,LL,ao,co,F,ap,cp,pts,h⟩:=h
 exact h.p.ps.g.old
theorem DkP.rowne(h:DkP K m cb gr cr sb wrote x vl ao co F ap cp pts w):∀g,(Value.slice ap pts.length cp).ownBlock=some g→¬Dq K.db cb gr ao m.out.length co F g:=by
 intro g hg hd
 obtain⟨F0,⟨rs,zs,ad,ar,cd,cr2,vs,pg,hs⟩,hpx,-,hF0⟩:=h.ps.g.mem
 have hne:∀{cs:Array Value} {t:TypeId} {fr:Nat×Nat},w.heap[g]?=some (.cells cs t fr)→86≠t→False:=fun hx ht=>zad h.row hx ht hg.symm
 have hint:∀{v:Value} {n:Nat} {xs:List Value} {b:Nat},w.ownsRow b 3 1 v n xs→v.ownBlock=some g→False:=fun ho hv=>by
  rcases ho.2 with⟨h1,h2⟩|⟨g2,cap,cur,h1,h2,h3,r⟩
  ·rw[h1] at hv;cases hv
  ·
   rw[h1] at hv;injection hv with hv;subst hv
   exact hne h3 (by decide)
 have hint2:∀{v:Value} {n:Nat} {xs:List Value} {b:Nat},w.ownsRow b 24 1 v n xs→v.ownBlock=some g→False:=fun ho hv=>by
  rcases ho.2 with⟨h1,h2⟩|⟨g2,cap,cur,h1,h2,h3,r⟩
  ·rw[h1] at hv;cases hv
  ·
   rw[h1] at hv;injection hv with hv;subst hv
   exact hne h3 (by decide)
 rcases hd with rfl|rfl|rfl|hF|hO
 ·exact hne h.ps.box (show 86≠44 by decide)
 ·exact hne h.ps.g.box (by decide)
 ·exact hint h.ps.g.regs rfl
 ·
  rw[hF0] at hF
  have hF:=hF.resolve_right (fun q=>hpx.not (zaD h.row hg) (by decide) (by decide) q)
  rw[hs.blk] at hF
  rcases hF with rfl|rfl|hv|hv|⟨v,hv,hg2⟩
  ·exact hne hs.sp (by decide)
  ·exact hne hs.host.box (by decide)
  ·exact hint2 hs.host.own.d hv
  ·exact hint hs.host.own.r hv
  ·
   obtain⟨j,hj,rfl⟩:=List.getElem_of_mem hv
   have:=(hs.host.own.rows j (by rw[←hs.host.own.len];exact hj)).1
   rw[zau hj] at this
   exact hint this hg2
 ·exact hint h.ps.g.out hO
theorem DkP.dbne(hK:DkK K)(h:DkP K m cb gr cr sb wrote x vl ao co F ap cp pts w){p:Pt}(hp:p∈pts):∀g,PB p g→¬Dq K.db cb gr ao m.out.length co F g:=by
 rintro g hg (rfl|hd)
 ·have:=((h.pt p hp).lt _ hg).1;have:=hK.db;omega
 ·exact h.sep p hp g hg hd
theorem DkP.ran(hK:DkK K)(h:DkP K m cb gr cr sb wrote x vl ao co F ap cp pts w){m':Mach}{wr':Int}{x':Bool}{vl':Value}{ao':Option Addr}{co':Nat}{F':Nat→Prop}{w':World}(k:PSt (K.pb cb sb ap pts.length cp) (SpStP K.pp sb K.hb K.N (pts.map (·.pg)) (pts.map (·.m.mem))) w (Dq K.db cb gr ao m.out.length co F) K.db cb gr cr (.slice none 0 0) m' wr' x' vl' ao' co' F' w'):DkP K m' cb gr cr sb wr' x' vl' ao' co' F' ap cp pts w':=by
 refine⟨h.ps.back k,?_,fun p hp=>(h.pt p hp).stay (fun g hg=>k.g.old.block g ((h.pt p hp).lt g hg).2 (h.dbne hK hp g hg)),?_,h.nd,h.len⟩
 ·exact zaI h.row (fun g hg=>k.g.old.block g (h.row.lt g hg).2 (h.rowne g hg))
 ·
  intro p hp g hg hd
  have hn:=h.dbne hK hp g hg
  have hl:=((h.pt p hp).lt g hg).2
  have:Dq K.db cb gr ao m.out.length co F g∨w.heap.size≤g:=by
   rcases hd with rfl|rfl|hF|hO
   ·exact k.g.dc
   ·exact k.g.dr
   ·exact k.g.df g hF
   ·exact k.g.dq g hO
  rcases this with q|q
  ·exact hn q
  ·omega
theorem PSt.stored{Q:PBox}{St:World→(Nat→Prop)→List Int→Bool→Prop}{w0:World}{D:Nat→Prop}{pb:Nat}{vm:Value}(h:PSt Q St w0 D pb cb gr cr vm m wrote x vl ao co F w){w':World}{F':Nat→Prop}{mem':List Int}{x':Bool}(ho:OutF F w w')(hF:∀g,F' g→F g∨w.heap.size≤g)(hs:St w' F' mem' x'):PSt Q St w0 D pb cb gr cr vm {m with mem:=mem'} wrote x' vl ao co F' w':=
 ⟨h.g.stored ho hF hs,ho.at h.box h.nf,fun hf=>by
  rcases hF pb hf with q|q
  ·exact h.nf q
  ·have:=h.plt;omega,h.db⟩
end
structure Spc where
 sb:Nat
 pg:List Int
 mem:List Int
structure HSt(pp:PX)(lo hb N:Nat)(sps:List Spc)(rs:List (List Int))(zs:List Int)(ad ar:Option Addr)(cd cr:Nat)(vs:List Value)(w:World):Prop where
 hos:HoSP pp hb N (sps.map (·.pg)) w rs zs ad ar cd cr vs
 mem:∀s∈sps,memP rs s.pg=s.mem
 spc:∀s∈sps,SpcS s.sb hb s.pg 0 w
 slo:∀s∈sps,lo≤s.sb
 nd:(sps.map (·.sb)).Nodup
 hof:∀g,HoFP pp hb rs zs ad ar cd cr vs g→lo≤g
section
variable {pp:PX} {lo hb N:Nat} {sps rest:List Spc} {s:Spc} {rs:List (List Int)} {zs:List Int} {ad ar:Option Addr} {cd cr:Nat} {vs:List Value} {w w':World}
theorem ziV{hb:Nat}{pg:List Int}{fl:Int}{sb:Nat}{sl:List (List Int)}(h:HoS hb N sl w rs zs ad ar cd cr vs)(hs:SpcS sb hb pg fl w):¬HoF hb rs zs ad ar cd cr vs sb:=by
 have hne:∀{cs:Array Value} {t:TypeId} {fr:Nat×Nat},w.heap[sb]?=some (.cells cs t fr)→84≠t→False:=fun hx ht=>by
  have h1:w.heap[sb]?=_:=hs
  rw[h1] at hx
  injection hx with hx;injection hx with hx1 hx2 hx3
  exact ht hx2
 have hrow:∀{e:TypeId} {v:Value} {n:Nat} {xs:List Value} {b:Nat},w.ownsRow b e 1 v n xs→84≠e→v.ownBlock=some sb→False:=fun ho he hv=>by
  rcases ho.2 with⟨h1,h2⟩|⟨g2,cap,cur,h1,h2,h3,r⟩
  ·rw[h1] at hv;cases hv
  ·
   rw[h1] at hv;injection hv with hv;subst hv
   exact hne h3 he
 rintro (rfl|hv|hv|⟨v,hv,hg2⟩)
 ·exact hne h.host.box (by decide)
 ·exact hrow h.host.own.d (by decide) hv
 ·exact hrow h.host.own.r (by decide) hv
 ·
  obtain⟨j,hj,rfl⟩:=List.getElem_of_mem hv
  have:=(h.host.own.rows j (by rw[←h.host.own.len];exact hj)).1
  rw[zau hj] at this
  exact hrow this (by decide) hg2
theorem zhQ{hb:Nat}{pg:List Int}{fl:Int}{sb:Nat}{sl:List (List Int)}(h:HoSP pp hb N sl w rs zs ad ar cd cr vs)(hs:SpcS sb hb pg fl w):¬HoFP pp hb rs zs ad ar cd cr vs sb:=by
 rintro (q|q)
 ·exact ziV h.s hs q
 ·exact h.px.not ⟨_,_,hs⟩ (by decide) (by decide) q
theorem HSt.nhof(h:HSt pp lo hb N sps rs zs ad ar cd cr vs w)(hs:s∈sps):¬HoFP pp hb rs zs ad ar cd cr vs s.sb:=zhQ h.hos (h.spc s hs)
theorem HSt.perm{sps':List Spc}(h:HSt pp lo hb N sps rs zs ad ar cd cr vs w)(hp:sps.Perm sps'):HSt pp lo hb N sps' rs zs ad ar cd cr vs w:=
 { h with
   hos:=⟨⟨h.hos.s.host,h.hos.s.ok.perm (hp.map _),h.hos.s.n⟩,h.hos.px,h.hos.d⟩
   mem:=fun s hs=>h.mem s (hp.mem_iff.2 hs)
   spc:=fun s hs=>h.spc s (hp.mem_iff.2 hs)
   slo:=fun s hs=>h.slo s (hp.mem_iff.2 hs)
   nd:=(hp.map _).nodup_iff.1 h.nd}
theorem HSt.stay(h:HSt pp lo hb N sps rs zs ad ar cd cr vs w)(hs:∀g,(HoFP pp hb rs zs ad ar cd cr vs g∨∃s∈sps,g=s.sb)→w'.heap[g]?=w.heap[g]?):HSt pp lo hb N sps rs zs ad ar cd cr vs w':=
 { h with
   hos:=h.hos.stay (fun g hg=>hs g (Or.inl hg))
   spc:=fun s hm=>(hs s.sb (Or.inr ⟨s,hm,rfl⟩)).trans (h.spc s hm)}
theorem HSt.lt(h:HSt pp lo hb N sps rs zs ad ar cd cr vs w):∀g,(HoFP pp hb rs zs ad ar cd cr vs g∨∃s∈sps,g=s.sb)→lo≤g∧g<w.heap.size:=by
 rintro g (hg|⟨s,hs,rfl⟩)
 ·exact⟨h.hof g hg,h.hos.lt g hg⟩
 ·exact⟨h.slo s hs,zaG (h.spc s hs)⟩
theorem HSt.below(h:HSt pp lo hb N sps rs zs ad ar cd cr vs w)(hb':Below w.heap.size w w'):HSt pp lo hb N sps rs zs ad ar cd cr vs w':=
 h.stay (fun g hg=>hb'.block g (h.lt g hg).2)
theorem HSt.moved(h:HSt pp lo hb N sps rs zs ad ar cd cr vs w){sps':List Spc}(hsub:∀s∈sps',s∈sps)(hnd:(sps'.map (·.sb)).Nodup){rs':List (List Int)}{zs':List Int}{ad' ar':Option Addr}{cd' cr':Nat}{vs':List Value}{D:Nat→Prop}(hlo:lo≤w.heap.size)(h':HoS hb N (sps'.map (·.pg)) w' rs' zs' ad' ar' cd' cr' vs')(hm:∀s∈sps',memP rs' s.pg=memP rs s.pg)(ho:OutF D w w')(hD:∀s∈sps',¬D s.sb)(hDP:∀g,pp.P g→¬D g)(hsi:Since w (HoF hb rs zs ad ar cd cr vs) rs' zs' ad' ar' cd' cr' vs'):HSt pp lo hb N sps' rs' zs' ad' ar' cd' cr' vs' w':=
 ⟨⟨h', h.hos.px.out ho hDP, fun g hg hf => by
   rcases hf with rfl|hf
   ·exact h.hos.d _ hg (Or.inl rfl)
   ·
    rcases hsi g hf with q|q
    ·exact h.hos.d g hg q
    ·have:=h.hos.px.lt hg;omega⟩,fun s hs=>(hm s hs).trans (h.mem s (hsub s hs)),fun s hs=>ho.at (h.spc s (hsub s hs)) (hD s hs),fun s hs=>h.slo s (hsub s hs),hnd,fun g hg=>by
   rcases hg with(rfl|hg)|hg
   ·exact h.hof _ (Or.inl (Or.inl rfl))
   ·
    rcases hsi g hg with q|q
    ·exact h.hof g (Or.inl q)
    ·omega
   ·exact h.hof g (Or.inr hg)⟩
theorem zcm{α β:Type}{f g:α→β}:∀{l:List α},l.map f=l.map g→∀s∈l,f s=g s
 | [],_,s,hs=>by cases hs
 | a::l,h,s,hs=>by
  simp only[List.map_cons,List.cons.injEq] at h
  rcases List.mem_cons.1 hs with rfl|hs
  ·exact h.1
  ·exact zcm h.2 s hs
theorem HSt.drop(h:HSt pp lo hb N (s::rest) rs zs ad ar cd cr vs w)(hlo:lo≤w.heap.size):Calls Tryd.prog 32 #[.pointer (some ⟨s.sb,0,none⟩)] w fun e w'=>e=.returned (.tuple #[])∧∃rs' zs' ad' ar' cd' cr' vs',HSt pp lo hb N rest rs' zs' ad' ar' cd' cr' vs' w'∧OutF (fun g=>g=s.sb∨HoFP pp hb rs zs ad ar cd cr vs g) w w'∧(∀g,HoFP pp hb rs' zs' ad' ar' cd' cr' vs' g→HoFP pp hb rs zs ad ar cd cr vs g∨w.heap.size≤g):=by
 refine(zgu (rest:=rest.map (·.pg)) h.hos.s (h.spc s (List.mem_cons_self ..))).mono ?_
 rintro e w' ⟨he,rs',zs',ad',ar',cd',cr',vs',h1,h2,h3,h4,h5⟩
 have hnd:=h.nd
 rw[List.map_cons,List.nodup_cons] at hnd
 have hsn:=h.nhof (List.mem_cons_self ..)
 refine⟨he,rs',zs',ad',ar',cd',cr',vs',h.moved (fun s hs=>List.mem_cons_of_mem _ hs) hnd.2 hlo h1 (fun t ht=>?_) h3 (fun t ht=>?_) (fun g hg=>?_) h4,h3.mono (fun g hg=>hg.imp id Or.inl),fun g hg=>?_⟩
 ·
  rw[List.map_map,List.map_map] at h2
  exact zcm h2 t ht
 ·
  rintro (q|q)
  ·exact hnd.1 (by rw[←q];exact List.mem_map_of_mem ht)
  ·exact h.nhof (List.mem_cons_of_mem _ ht) (Or.inl q)
 ·
  rintro (q|q)
  ·subst q;exact hsn (Or.inr hg)
  ·exact h.hos.d g hg q
 ·
  rcases hg with(rfl|hg)|hg
  ·exact Or.inl (Or.inl (Or.inl rfl))
  ·exact(h4 g hg).imp Or.inl id
  ·exact Or.inl (Or.inr hg)
theorem HSt.fork(h:HSt pp lo hb N sps rs zs ad ar cd cr vs w)(hs:s∈sps)(hl:sps.length≤11)(hlo:lo≤w.heap.size):Calls Tryd.prog 35 #[.pointer (some ⟨s.sb,0,none⟩)] w fun e w' =>∃nb,e=.returned (.tuple #[.pointer (some ⟨nb,0,none⟩),.int .i64 0])∧w.heap.size≤nb∧∃zs' ad' ar' cd' cr' vs',HSt pp lo hb N (⟨nb,s.pg,s.mem⟩::sps) rs zs' ad' ar' cd' cr' vs' w'∧OutF (HoFP pp hb rs zs ad ar cd cr vs) w w'∧(∀g,HoFP pp hb rs zs' ad' ar' cd' cr' vs' g→HoFP pp hb rs zs ad ar cd cr vs g∨w.heap.size≤g):=by
 refine(zgv h.hos.s (List.mem_map_of_mem hs) (by simpa using hl) (h.spc s hs)).mono ?_
 rintro e w' ⟨nb,he,zs',ad',ar',cd',cr',vs',h1,h2,h3,h4,h5⟩
 have hof:∀g,HoFP pp hb rs zs' ad' ar' cd' cr' vs' g→HoFP pp hb rs zs ad ar cd cr vs g∨w.heap.size≤g:=fun g hg=>by
  rcases hg with(rfl|hg)|hg
  ·exact Or.inl (Or.inl (Or.inl rfl))
  ·exact(h3 g hg).imp Or.inl id
  ·exact Or.inl (Or.inr hg)
 have hd':∀g,pp.P g→¬HoF hb rs zs' ad' ar' cd' cr' vs' g:=fun g hg hf=>by
  rcases hf with rfl|hf
  ·exact h.hos.d _ hg (Or.inl rfl)
  ·
   rcases h3 g hf with q|q
   ·exact h.hos.d g hg q
   ·have:=h.hos.px.lt hg;omega
 refine⟨nb,he,h5,zs',ad',ar',cd',cr',vs',⟨⟨h1,h.hos.px.out h2 h.hos.d,hd'⟩,?_,?_,?_,?_,?_⟩,h2.mono (fun g hg=>Or.inl hg),hof⟩
 ·
  intro t ht
  rcases List.mem_cons.1 ht with rfl|ht
  ·exact h.mem s hs
  ·exact h.mem t ht
 ·
  intro t ht
  rcases List.mem_cons.1 ht with rfl|ht
  ·exact h4
  ·exact h2.at (h.spc t ht) (fun q=>h.nhof ht (Or.inl q))
 ·
  intro t ht
  rcases List.mem_cons.1 ht with rfl|ht
  ·exact Nat.le_trans hlo h5
  ·exact h.slo t ht
 ·
  rw[List.map_cons,List.nodup_cons]
  refine⟨fun hm=>?_,h.nd⟩
  obtain⟨t,ht,e⟩:=List.mem_map.1 hm
  have:=zaG (h.spc t ht)
  have e:t.sb=nb:=e
  omega
 ·
  intro g hg
  rcases hof g hg with q|q
  ·exact h.hof g q
  ·omega
theorem HSt.new(h:HSt pp lo hb N sps rs zs ad ar cd cr vs w)(hlo:lo≤w.heap.size):Calls Tryd.prog 33 #[.pointer (some ⟨hb,0,none⟩)] w fun e w' =>∃nb,e=.returned (.pointer (some ⟨nb,0,none⟩))∧w.heap.size≤nb∧Below w.heap.size w w'∧HSt pp lo hb N (⟨nb,List.replicate 16 (-1),List.replicate 256 0⟩::sps) rs zs ad ar cd cr vs w':=by
 refine(zhP hb w).mono ?_
 rintro e w' ⟨nb,he,hb1,hs,hn⟩
 have h':=h.below hb1
 refine⟨nb,he,hn,hb1,⟨⟨⟨h'.hos.s.host,h'.hos.s.ok.fresh,h'.hos.s.n⟩,h'.hos.px,h'.hos.d⟩,?_,?_,?_,?_,h'.hof⟩⟩
 ·
  intro t ht
  rcases List.mem_cons.1 ht with rfl|ht
  ·exact zhM rs
  ·exact h'.mem t ht
 ·
  intro t ht
  rcases List.mem_cons.1 ht with rfl|ht
  ·exact hs
  ·exact h'.spc t ht
 ·
  intro t ht
  rcases List.mem_cons.1 ht with rfl|ht
  ·exact Nat.le_trans hlo hn
  ·exact h'.slo t ht
 ·
  rw[List.map_cons,List.nodup_cons]
  refine⟨fun hm=>?_,h.nd⟩
  obtain⟨t,ht,e⟩:=List.mem_map.1 hm
  have:=zaG (h.spc t ht)
  have e:t.sb=nb:=e
  omega
theorem HSt.sp(h:HSt pp lo hb N (s::rest) rs zs ad ar cd cr vs w):SpStP pp s.sb hb N (rest.map (·.pg)) (rest.map (·.mem)) w (fun g=>g=s.sb∨HoFP pp hb rs zs ad ar cd cr vs g) s.mem false:=by
 have h1:=HoS.sp (oth:=rest.map (·.pg)) h.hos.s (h.spc s (List.mem_cons_self ..))
 rw[h.mem s (List.mem_cons_self ..),List.map_map] at h1
 rw[show rest.map (·.mem)=rest.map (memP rs ∘ (·.pg)) from List.map_congr_left (fun t ht=>(h.mem t (List.mem_cons_of_mem _ ht)).symm)]
 have hsn:=h.nhof (List.mem_cons_self ..)
 refine⟨_,⟨rs,zs,ad,ar,cd,cr,vs,s.pg,h1⟩,h.hos.px,?_,?_⟩
 ·
  rintro g hg (rfl|q)
  ·exact hsn (Or.inr hg)
  ·exact h.hos.d g hg q
 ·
  funext g
  exact propext or_assoc.symm
theorem HSt.of_sp{sb:Nat}{F:Nat→Prop}{mem:List Int}(h:SpStP pp sb hb N (rest.map (·.pg)) (rest.map (·.mem)) w F mem false)(hF:∀g,F g→lo≤g)(hs:∀s∈rest,SpcS s.sb hb s.pg 0 w)(hl:∀s∈rest,lo≤s.sb)(hn:(sb::rest.map (·.sb)).Nodup):∃rs zs ad ar cd cr vs pg,HSt pp lo hb N (⟨sb,pg,mem⟩::rest) rs zs ad ar cd cr vs w∧F=fun g=>g=sb∨HoFP pp hb rs zs ad ar cd cr vs g:=by
 obtain⟨F0,⟨rs,zs,ad,ar,cd,cr,vs,pg,h⟩,hpx,hd,hF1⟩:=h
 have hF0:F0=fun g=>g=sb∨HoF hb rs zs ad ar cd cr vs g:=h.blk
 have hF2:F=fun g=>g=sb∨HoFP pp hb rs zs ad ar cd cr vs g:=by
  rw[hF1,hF0]
  funext g
  exact propext or_assoc
 have hm:=h.omm
 rw[List.map_map] at hm
 have hsp:SpcS sb hb pg 0 w:=by have:=h.sp;rw[if_neg (by decide)] at this;exact this
 refine⟨rs,zs,ad,ar,cd,cr,vs,pg,⟨⟨h.hos,hpx,fun g hg hf=>hd g hg (by rw[hF0];exact Or.inr hf)⟩,?_,?_,?_,hn,fun g hg=>hF g (by rw[hF2];exact Or.inr hg)⟩,hF2⟩
 ·
  intro t ht
  rcases List.mem_cons.1 ht with rfl|ht
  ·exact h.mem.symm
  ·exact(zcm hm t ht).symm
 ·
  intro t ht
  rcases List.mem_cons.1 ht with rfl|ht
  ·exact hsp
  ·exact hs t ht
 ·
  intro t ht
  rcases List.mem_cons.1 ht with rfl|ht
  ·exact hF _ (by rw[hF2];exact Or.inl rfl)
  ·exact hl t ht
end
theorem zkF{pp:PX}{hb N g:Nat}{sl:List (List Int)}{rs:List (List Int)}{zs:List Int}{ad ar:Option Addr}{cd cr:Nat}{vs:List Value}{w:World}(h:HoSP pp hb N sl w rs zs ad ar cd cr vs)(hg:HoFP pp hb rs zs ad ar cd cr vs g):Ty w g 64∨Ty w g 3∨Ty w g 24∨Ty w g 48:=by
 rcases hg with(rfl|hv|hv|⟨v,hv,hg2⟩)|hp
 ·exact Or.inl ⟨_,_,h.s.host.box⟩
 ·exact Or.inr (Or.inr (Or.inl (zaD h.s.host.own.d hv)))
 ·exact Or.inr (Or.inl (zaD h.s.host.own.r hv))
 ·
  obtain⟨j,hj,rfl⟩:=List.getElem_of_mem hv
  have:=(h.s.host.own.rows j (by rw[←h.s.host.own.len];exact hj)).1
  rw[zau hj] at this
  exact Or.inr (Or.inl (zaD this hg2))
 ·
  rcases h.px.ty hp with q|q
  ·exact Or.inr (Or.inl q)
  ·exact Or.inr (Or.inr (Or.inr q))
theorem zc3{pp:PX}{hb N g:Nat}{sl:List (List Int)}{rs:List (List Int)}{zs:List Int}{ad ar:Option Addr}{cd cr:Nat}{vs:List Value}{w:World}{t:TypeId}(h:HoSP pp hb N sl w rs zs ad ar cd cr vs)(ht:Ty w g t)(h1:t≠64)(h2:t≠3)(h3:t≠24)(h4:t≠48):¬HoFP pp hb rs zs ad ar cd cr vs g:=by
 intro hg
 rcases zkF h hg with q|q|q|q
 ·exact h1 (zaL ht q)
 ·exact h2 (zaL ht q)
 ·exact h3 (zaL ht q)
 ·exact h4 (zaL ht q)
def Pt.spc(p:Pt):Spc:=⟨p.sb,p.pg,p.m.mem⟩
def CB(cb gr:Nat)(ao:Option Addr)(n co:Nat)(g:Nat):Prop:=g=cb∨g=gr∨(Value.slice ao n co).ownBlock=some g
structure CorS(K:DkC)(cb gr cr:Nat)(m:Mach)(wrote:Int)(ao:Option Addr)(co:Nat)(w:World):Prop where
 box:w.heap[cb]?=some (.cells #[.slice (some ⟨gr,0,none⟩) 8 cr,.int .i64 m.pc,.int .i64 m.back,.bool m.ints,.bool m.wait,.int .i64 m.table,.int .i64 m.count,.int .i64 m.fin,.slice none 0 0,.slice ao m.out.length co,.int .i64 m.ready,.int .i64 m.want,.int .i64 wrote] 67 (0,0))
 regs:w.ownsRow 0 3 1 (.slice (some ⟨gr,0,none⟩) 8 cr) 8 (m.regs.map (Value.int .i64))
 out:w.ownsRow 0 3 1 (.slice ao m.out.length co) m.out.length (m.out.map (Value.int .i64))
 ro:(Value.slice ao m.out.length co).ownBlock≠some gr
 lo:∀g,CB cb gr ao m.out.length co g→K.w1.heap.size≤g
structure DkN(K:DkC)(v8 v9 v10 v11:Value)(ss:List Spc)(rs:List (List Int))(zs:List Int)(ad ar:Option Addr)(cd cr2:Nat)(vs:List Value)(pts:List Pt)(w:World):Prop where
 box:w.heap[K.db]?=some (.cells #[.int .i64 K.N,.int .i64 K.ev,.int .i64 K.kp,K.vi,K.vb,.int .i64 K.cnt,.slice K.al K.L.length K.cl,.pointer (some ⟨K.hb,0,none⟩),v8,v9,v10,v11] 44 (0,0))
 hs:HSt K.pp K.w1.heap.size K.hb K.N (ss++pts.map Pt.spc) rs zs ad ar cd cr2 vs w
 pt:∀p∈pts,PtR K w p
 sep:∀p∈pts,∀g,PB p g→¬HoFP K.pp K.hb rs zs ad ar cd cr2 vs g
 out:OutF (fun g=>g=K.db) K.w1 w
def RowP(K:DkC)(ap:Option Addr)(cp:Nat)(pts:List Pt)(w:World):Prop:=w.ownsRow K.w1.heap.size 86 14 (.slice ap pts.length cp) pts.length (pts.flatMap Pt.cells)
section
variable {K:DkC} {m:Mach} {i:Nat} {cb gr cr sb:Nat} {wrote:Int} {x:Bool} {vl:Value} {ao:Option Addr} {co:Nat} {F:Nat→Prop} {ap:Option Addr} {cp:Nat} {pts:List Pt} {w w':World} {v8 v9 v10 v11:Value} {ss:List Spc} {rs:List (List Int)} {zs:List Int} {ad ar:Option Addr} {cd cr2:Nat} {vs:List Value}
theorem CorS.lt(h:CorS K cb gr cr m wrote ao co w):∀g,CB cb gr ao m.out.length co g→g<w.heap.size:=by
 rintro g (rfl|rfl|hg)
 ·exact(Array.getElem?_eq_some_iff.1 h.box).1
 ·exact(h.regs.lt _ rfl).2
 ·exact(h.out.lt g hg).2
theorem CorS.ty(h:CorS K cb gr cr m wrote ao co w){g:Nat}(hg:CB cb gr ao m.out.length co g):Ty w g 67∨Ty w g 3:=by
 rcases hg with rfl|rfl|hg
 ·exact Or.inl ⟨_,_,h.box⟩
 ·exact Or.inr (zaD h.regs rfl)
 ·exact Or.inr (zaD h.out hg)
theorem CorS.stay(h:CorS K cb gr cr m wrote ao co w)(hs:∀g,CB cb gr ao m.out.length co g→w'.heap[g]?=w.heap[g]?):CorS K cb gr cr m wrote ao co w':=
 {h with box:=(hs cb (Or.inl rfl)).trans h.box,regs:=zaI h.regs (fun g hg=>hs g (Or.inr (Or.inl (by injection hg with e;exact e.symm)))),out:=zaI h.out (fun g hg=>hs g (Or.inr (Or.inr hg)))}
theorem CorS.not_sp(h:CorS K cb gr cr m wrote ao co w){g:Nat}{t:TypeId}(ht:Ty w g t)(h1:t≠67)(h2:t≠3):¬CB cb gr ao m.out.length co g:=by
 intro hg
 rcases h.ty hg with q|q
 ·exact h1 (zaL ht q)
 ·exact h2 (zaL ht q)
theorem RowP.stay(h:RowP K ap cp pts w)(hs:∀g,Ty w g 86→w'.heap[g]?=w.heap[g]?):RowP K ap cp pts w':=zaI h (fun g hg=>hs g (zaD h hg))
theorem RowP.below(h:RowP K ap cp pts w)(hb:Below w.heap.size w w'):RowP K ap cp pts w':=h.stay (fun g ⟨cs,fr,hg⟩=>hb.block g (Array.getElem?_eq_some_iff.1 hg).1)
theorem DkN.dlo(hK:DkK K)(h:DkN K v8 v9 v10 v11 ss rs zs ad ar cd cr2 vs pts w):K.db<w.heap.size∧K.w1.heap.size≤w.heap.size:=⟨(Array.getElem?_eq_some_iff.1 h.box).1,h.out.size⟩
theorem DkN.below(hK:DkK K)(h:DkN K v8 v9 v10 v11 ss rs zs ad ar cd cr2 vs pts w)(hb:Below w.heap.size w w'):DkN K v8 v9 v10 v11 ss rs zs ad ar cd cr2 vs pts w':=
 ⟨zac hb h.box (h.dlo hK).1,h.hs.below hb,fun p hp=>(h.pt p hp).stay (fun g hg=>hb.block g ((h.pt p hp).lt g hg).2),h.sep,h.out.trans (OutF.of hb (fun _=>False)) (fun g hg=>hg.elim)⟩
theorem DkN.moved(hK:DkK K)(h:DkN K v8 v9 v10 v11 ss rs zs ad ar cd cr2 vs pts w){D:Nat→Prop}{ss':List Spc}{rs':List (List Int)}{zs':List Int}{ad' ar':Option Addr}{cd' cr':Nat}{vs':List Value}{pts':List Pt}(hsub:∀p∈pts',p∈pts)(hs':HSt K.pp K.w1.heap.size K.hb K.N (ss'++pts'.map Pt.spc) rs' zs' ad' ar' cd' cr' vs' w')(ho:OutF D w w')(hD:∀g,D g→K.w1.heap.size≤g)(hp:∀p∈pts',∀g,PB p g→¬D g)(hof:∀g,HoFP K.pp K.hb rs' zs' ad' ar' cd' cr' vs' g→HoFP K.pp K.hb rs zs ad ar cd cr2 vs g∨w.heap.size≤g):DkN K v8 v9 v10 v11 ss' rs' zs' ad' ar' cd' cr' vs' pts' w':=
 ⟨ho.at h.box (fun hd=>by have:=hD _ hd;have:=hK.db;omega),hs',fun p hm=>(h.pt p (hsub p hm)).stay (fun g hg=>ho.block g ((h.pt p (hsub p hm)).lt g hg).2 (hp p hm g hg)),fun p hm g hg hf=>by
  rcases hof g hf with q|q
  ·exact h.sep p (hsub p hm) g hg q
  ·have:=((h.pt p (hsub p hm)).lt g hg).2;omega,h.out.trans ho (fun g hg=>Or.inr (hD g hg))⟩
theorem DkN.box_ne(hK:DkK K)(h:DkN K v8 v9 v10 v11 ss rs zs ad ar cd cr2 vs pts w):Ty w K.db 44:=⟨_,_,h.box⟩
theorem DkN.set(hK:DkK K)(h:DkN K v8 v9 v10 v11 ss rs zs ad ar cd cr2 vs pts w){j:Nat}{u u8 u9 u10 u11:Value}(hb:(#[.int .i64 K.N,.int .i64 K.ev,.int .i64 K.kp,K.vi,K.vb,.int .i64 K.cnt,.slice K.al K.L.length K.cl,.pointer (some ⟨K.hb,0,none⟩),v8,v9,v10,v11]:Array Value).setIfInBounds j u=#[.int .i64 K.N,.int .i64 K.ev,.int .i64 K.kp,K.vi,K.vb,.int .i64 K.cnt,.slice K.al K.L.length K.cl,.pointer (some ⟨K.hb,0,none⟩),u8,u9,u10,u11]):DkN K u8 u9 u10 u11 ss rs zs ad ar cd cr2 vs pts (w.setCell ⟨K.db,j,none⟩ u):=by
 have key:∀g,g≠K.db→(w.setCell ⟨K.db,j,none⟩ u).heap[g]?=w.heap[g]?:=fun g hg=>Below.heap_setCell w ⟨K.db,j,none⟩ u g hg
 have lo:=hK.db
 refine⟨by have:=zaf (i:=j) h.box u;rw[hb] at this;exact this,h.hs.stay (fun g hg=>key g (by have:=(h.hs.lt g hg).1;omega)),fun p hp=>(h.pt p hp).stay (fun g hg=>key g (by have:=((h.pt p hp).lt g hg).1;omega)),h.sep,h.out.setCell (Or.inl rfl) u⟩
theorem RowP.set(h:RowP K ap cp pts w)(hb:Ty w K.db 44)(j:Nat)(u:Value):RowP K ap cp pts (w.setCell ⟨K.db,j,none⟩ u):=
 h.stay (fun g hg=>Below.heap_setCell w ⟨K.db,j,none⟩ u g (fun e=>by have e2:g=K.db:=e;subst e2;exact absurd (zaL hg hb) (by decide)))
theorem CorS.set(hK:DkK K)(h:CorS K cb gr cr m wrote ao co w)(j:Nat)(u:Value):CorS K cb gr cr m wrote ao co (w.setCell ⟨K.db,j,none⟩ u):=
 h.stay (fun g hg=>Below.heap_setCell w ⟨K.db,j,none⟩ u g (fun e=>by have e2:g=K.db:=e;have:=h.lo g hg;have:=hK.db;omega))
theorem DkP.open(hK:DkK K)(h:DkP K m cb gr cr sb wrote false vl ao co F ap cp pts w):∃rs zs ad ar cd cr2 vs pg,DkN K (.pointer (some ⟨cb,0,none⟩)) (.pointer (some ⟨sb,0,none⟩)) vl (.slice ap pts.length cp) [⟨sb,pg,m.mem⟩] rs zs ad ar cd cr2 vs pts w∧CorS K cb gr cr m wrote ao co w∧RowP K ap cp pts w∧(∀g,CB cb gr ao m.out.length co g→¬HoFP K.pp K.hb rs zs ad ar cd cr2 vs g)∧(∀p∈pts,∀g,PB p g→¬CB cb gr ao m.out.length co g):=by
 have hnot:∀g,g≠K.db→(g=K.db∨K.w1.heap.size≤g)→K.w1.heap.size≤g:=fun g h1 h2=>h2.resolve_left h1
 have hbt:Ty w K.db 44:=⟨_,_,h.ps.box⟩
 have hFlo:∀g,F g→K.w1.heap.size≤g:=fun g hg=>hnot g (fun e=>h.ps.nf (e▸hg)) (h.ps.g.df g hg)
 have hss:∀s∈pts.map Pt.spc,∃p∈pts,s=p.spc:=fun s hs=>by obtain⟨p,hp,rfl⟩:=List.mem_map.1 hs;exact⟨p,hp,rfl⟩
 have hmem:=h.ps.g.mem
 have hm1:pts.map (·.pg)=(pts.map Pt.spc).map (·.pg):=by rw[List.map_map];rfl
 have hm2:pts.map (·.m.mem)=(pts.map Pt.spc).map (·.mem):=by rw[List.map_map];rfl
 rw[hm1,hm2] at hmem
 have hsb:F sb:=by
  obtain⟨F0,⟨rs,zs,ad,ar,cd,cr2,vs,pg,hs⟩,-,-,hF0⟩:=hmem
  rw[hF0];exact Or.inl (by rw[hs.blk];exact Or.inl rfl)
 obtain⟨rs,zs,ad,ar,cd,cr2,vs,pg,hH,hF⟩:=HSt.of_sp (lo:=K.w1.heap.size) hmem hFlo (fun s hs=>by obtain⟨p,hp,rfl⟩:=hss s hs;exact(h.pt p hp).sp) (fun s hs=>by obtain⟨p,hp,rfl⟩:=hss s hs;exact(h.pt p hp).spb) (by
  rw[List.nodup_cons,List.map_map]
  refine⟨fun hm=>?_,h.nd⟩
  obtain⟨p,hp,e⟩:=List.mem_map.1 hm
  have e:p.sb=sb:=e
  exact h.sep p hp p.sb (Or.inl rfl) (Or.inr (Or.inr (Or.inl (by rw[e];exact hsb)))))
 have hCF:∀g,CB cb gr ao m.out.length co g→¬F g:=by
  rintro g (rfl|rfl|hg)
  ·exact h.ps.g.fc
  ·exact h.ps.g.fr
  ·exact h.ps.g.fo g hg
 refine⟨rs,zs,ad,ar,cd,cr2,vs,pg,⟨h.ps.box,hH,h.pt,fun p hp g hg hf=>h.sep p hp g hg (Or.inr (Or.inr (Or.inl (by rw[hF];exact Or.inr hf)))),h.ps.g.old⟩,⟨h.ps.g.box,h.ps.g.regs,h.ps.g.out,h.ps.g.ro,?_⟩,h.row,fun g hg hf=>hCF g hg (by rw[hF];exact Or.inr hf),fun p hp g hg hc=>h.sep p hp g hg ?_⟩
 ·
  rintro g (rfl|rfl|hg)
  ·exact hnot _ (fun e=>h.ps.nc e.symm) h.ps.g.dc
  ·exact hnot _ (fun e=>absurd (zaL (zaD h.ps.g.regs rfl) (by rw[e];exact hbt)) (by decide)) h.ps.g.dr
  ·exact hnot _ (fun e=>absurd (zaL (zaD h.ps.g.out hg) (by rw[e];exact hbt)) (by decide)) (h.ps.g.dq g hg)
 ·
  rcases hc with q|q|q
  ·exact Or.inl q
  ·exact Or.inr (Or.inl q)
  ·exact Or.inr (Or.inr (Or.inr q))
theorem DkP.close(hK:DkK K){pg:List Int}(h:DkN K (.pointer (some ⟨cb,0,none⟩)) (.pointer (some ⟨sb,0,none⟩)) vl (.slice ap pts.length cp) [⟨sb,pg,m.mem⟩] rs zs ad ar cd cr2 vs pts w)(hc:CorS K cb gr cr m wrote ao co w)(hr:RowP K ap cp pts w)(h1:∀g,CB cb gr ao m.out.length co g→¬HoFP K.pp K.hb rs zs ad ar cd cr2 vs g)(h2:∀p∈pts,∀g,PB p g→¬CB cb gr ao m.out.length co g)(hl:(pts.length:Int)≤K.kp):DkP K m cb gr cr sb wrote false vl ao co (fun g=>g=sb∨HoFP K.pp K.hb rs zs ad ar cd cr2 vs g) ap cp pts w:=by
 have hsp:=HSt.sp (s:=⟨sb,pg,m.mem⟩) (rest:=pts.map Pt.spc) h.hs
 have hst:Ty w sb 84:=⟨_,_,h.hs.spc ⟨sb,pg,m.mem⟩ (List.mem_cons_self ..)⟩
 have hslo:K.w1.heap.size≤sb:=h.hs.slo ⟨sb,pg,m.mem⟩ (List.mem_cons_self ..)
 have hm1:pts.map (·.pg)=(pts.map Pt.spc).map (·.pg):=by rw[List.map_map];rfl
 have hm2:pts.map (·.m.mem)=(pts.map Pt.spc).map (·.mem):=by rw[List.map_map];rfl
 rw[←hm1,←hm2] at hsp
 have hF:∀g,CB cb gr ao m.out.length co g→¬(g=sb∨HoFP K.pp K.hb rs zs ad ar cd cr2 vs g):=fun g hg hf=>by
  rcases hf with rfl|hf
  ·exact hc.not_sp hst (by decide) (by decide) hg
  ·exact h1 g hg hf
 have hFlo:∀g,(g=sb∨HoFP K.pp K.hb rs zs ad ar cd cr2 vs g)→K.w1.heap.size≤g:=fun g hg=>by
  rcases hg with rfl|hg
  ·exact hslo
  ·exact h.hs.hof g hg
 have hdb:=hK.db
 have hnd:=h.hs.nd
 rw[List.map_append,List.map_map] at hnd
 have hnd:(sb::pts.map (·.sb)).Nodup:=hnd
 rw[List.nodup_cons] at hnd
 refine⟨⟨⟨hc.box,hc.regs,hc.out,hsp,hc.ro,hF cb (Or.inl rfl),hF gr (Or.inr (Or.inl rfl)),fun g hg=>hF g (Or.inr (Or.inr hg)),h.out,Or.inr (hc.lo cb (Or.inl rfl)),Or.inr (hc.lo gr (Or.inr (Or.inl rfl))),fun g hg=>Or.inr (hFlo g hg),fun g hg=>Or.inr (hc.lo g (Or.inr (Or.inr hg)))⟩,h.box,fun hf=>by have:=hFlo _ hf;omega,Or.inl rfl⟩,hr,h.pt,?_,hnd.2,hl⟩
 intro p hp g hg hd
 rcases hd with q|q|(q|q)|q
 ·exact h2 p hp g hg (Or.inl q)
 ·exact h2 p hp g hg (Or.inr (Or.inl q))
 ·
  subst q
  rcases hg with q2|q2|q2
  ·exact hnd.1 (by rw[q2];exact List.mem_map_of_mem hp)
  ·exact absurd (zaL hst (by rw[q2];exact zaD (h.pt p hp).regs rfl)) (by decide)
  ·exact absurd (zaL hst (zaD (h.pt p hp).out q2)) (by decide)
 ·exact h.sep p hp g hg q
 ·exact h2 p hp g hg (Or.inr (Or.inr q))
theorem DkN.rowmoved(hK:DkK K)(h:DkN K v8 v9 v10 v11 ss rs zs ad ar cd cr2 vs pts w){D:Nat→Prop}(ho:OutF D w w')(hD:∀g,D g→Ty w g 86∧K.w1.heap.size≤g):DkN K v8 v9 v10 v11 ss rs zs ad ar cd cr2 vs pts w':=by
 have hs:∀g,g<w.heap.size→¬Ty w g 86→w'.heap[g]?=w.heap[g]?:=fun g hg ht=>ho.block g hg (fun hd=>ht (hD g hd).1)
 have hPB:∀p∈pts,∀g,PB p g→¬Ty w g 86:=fun p hp g hg ht=>by
  rcases hg with rfl|rfl|hg
  ·exact absurd (zaL ht ⟨_,_,(h.pt p hp).sp⟩) (by decide)
  ·exact absurd (zaL ht (zaD (h.pt p hp).regs rfl)) (by decide)
  ·exact absurd (zaL ht (zaD (h.pt p hp).out hg)) (by decide)
 refine h.moved hK (fun p hp=>hp) (h.hs.stay (fun g hg=>hs g (h.hs.lt g hg).2 (fun ht=>?_))) ho (fun g hd=>(hD g hd).2) (fun p hp g hg hd=>hPB p hp g hg (hD g hd).1) (fun g hg=>Or.inl hg)
 rcases hg with hg|⟨s,hs,rfl⟩
 ·exact zc3 h.hs.hos ht (by decide) (by decide) (by decide) (by decide) hg
 ·exact absurd (zaL ht ⟨_,_,h.hs.spc s hs⟩) (by decide)
theorem CorS.rowmoved(h:CorS K cb gr cr m wrote ao co w){D:Nat→Prop}(ho:OutF D w w')(hD:∀g,D g→Ty w g 86):CorS K cb gr cr m wrote ao co w':=
 h.stay (fun g hg=>ho.block g (h.lt g hg) (fun hd=>h.not_sp (hD g hd) (by decide) (by decide) hg))
theorem RowP.ty(h:RowP K ap cp pts w):∀g,(Value.slice ap pts.length cp).ownBlock=some g→Ty w g 86∧K.w1.heap.size≤g:=fun g hg=>⟨zaD h hg,(h.lt g hg).1⟩
theorem DkN.drop0(hK:DkK K){s:Spc}{p:Pt}(h:DkN K v8 v9 v10 v11 [s] rs zs ad ar cd cr2 vs (p::pts) w):Calls Tryd.prog 32 #[.pointer (some ⟨p.sb,0,none⟩)] w fun e w'=>e=.returned (.tuple #[])∧∃rs' zs' ad' ar' cd' cr' vs',DkN K v8 v9 v10 v11 [s] rs' zs' ad' ar' cd' cr' vs' pts w'∧OutF (fun g=>g=p.sb∨HoFP K.pp K.hb rs zs ad ar cd cr2 vs g) w w'∧(∀g,HoFP K.pp K.hb rs' zs' ad' ar' cd' cr' vs' g→HoFP K.pp K.hb rs zs ad ar cd cr2 vs g∨w.heap.size≤g):=by
 have hp:([s]++(p::pts).map Pt.spc).Perm (p.spc::([s]++pts.map Pt.spc)):=List.Perm.swap _ _ _
 have h1:=h.hs.perm hp
 refine(h1.drop (h.dlo hK).2).mono ?_
 rintro e w' ⟨he,rs',zs',ad',ar',cd',cr',vs',h2,h3,h4⟩
 refine⟨he,rs',zs',ad',ar',cd',cr',vs',h.moved hK (fun q hq=>List.mem_cons_of_mem _ hq) h2 h3 ?_ ?_ h4,h3,h4⟩
 ·
  rintro g (rfl|hg)
  ·exact h1.slo p.spc (List.mem_cons_self ..)
  ·exact h.hs.hof g hg
 ·
  rintro q hq g hg (rfl|hd)
  ·
   have hst:Ty w p.spc.sb 84:=⟨_,_,h1.spc p.spc (List.mem_cons_self ..)⟩
   have hnd:=h1.nd
   rcases hg with q2|q2|q2
   ·
    rw[List.map_cons,List.nodup_cons] at hnd
    refine hnd.1 (List.mem_map.2 ⟨q.spc,List.mem_append_right _ (List.mem_map_of_mem hq),q2.symm⟩)
   ·exact absurd (zaL hst (by rw[q2];exact zaD (h.pt q (List.mem_cons_of_mem _ hq)).regs rfl)) (by decide)
   ·exact absurd (zaL hst (zaD (h.pt q (List.mem_cons_of_mem _ hq)).out q2)) (by decide)
  ·exact h.sep q (List.mem_cons_of_mem _ hq) g hg hd
theorem DkN.fork0(hK:DkK K){s:Spc}(h:DkN K v8 v9 v10 v11 [s] rs zs ad ar cd cr2 vs pts w){t:Spc}(ht:t∈[s]++pts.map Pt.spc)(hl:pts.length≤10):Calls Tryd.prog 35 #[.pointer (some ⟨t.sb,0,none⟩)] w fun e w' =>∃nb,e=.returned (.tuple #[.pointer (some ⟨nb,0,none⟩),.int .i64 0])∧w.heap.size≤nb∧∃zs' ad' ar' cd' cr' vs',DkN K v8 v9 v10 v11 [⟨nb,t.pg,t.mem⟩,s] rs zs' ad' ar' cd' cr' vs' pts w'∧OutF (HoFP K.pp K.hb rs zs ad ar cd cr2 vs) w w'∧(∀g,HoFP K.pp K.hb rs zs' ad' ar' cd' cr' vs' g→HoFP K.pp K.hb rs zs ad ar cd cr2 vs g∨w.heap.size≤g):=by
 refine(h.hs.fork ht (by simp;omega) (h.dlo hK).2).mono ?_
 rintro e w' ⟨nb,he,hn,zs',ad',ar',cd',cr',vs',h2,h3,h4⟩
 exact⟨nb,he,hn,zs',ad',ar',cd',cr',vs',h.moved hK (fun q hq=>hq) h2 h3 (fun g hg=>h.hs.hof g hg) (fun q hq g hg hd=>h.sep q hq g hg hd) h4,h3,h4⟩
theorem CorS.hmoved(h:CorS K cb gr cr m wrote ao co w){D:Nat→Prop}(ho:OutF D w w')(hD:∀g,CB cb gr ao m.out.length co g→¬D g):CorS K cb gr cr m wrote ao co w':=
 h.stay (fun g hg=>ho.block g (h.lt g hg) (hD g hg))
theorem RowP.hmoved(h:RowP K ap cp pts w){D:Nat→Prop}(ho:OutF D w w')(hD:∀g,Ty w g 86→¬D g):RowP K ap cp pts w':=
 h.stay (fun g hg=>by obtain⟨cs,fr,hx⟩:=hg;exact ho.block g (Array.getElem?_eq_some_iff.1 hx).1 (hD g ⟨cs,fr,hx⟩))
end
end Go.Proofs.YtflonfcemlfbdaaDoor
