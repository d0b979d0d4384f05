/- Several texts joined, each with its own heading in the notes: append of one element, with the block that the row lies in then: the old one or a newer one. A world as the keep puts it together. No condition beyond those of each row. -/
import Derived.Test.YtflonfcemlfbdaaDoorYMem
import Derived.Maps.AppendAt
import Derived.Deep.AppendLies
import Derived.Deep.RegionLaw
import Derived.Test.YtflonfcemlfbdaaDoorYRl
import Derived.Test.YtflonfcemlfbdaaDoorYCpu1
import Derived.Test.YtflonfcemlfbdaaDoorYCl
import Derived.Handy
import Derived.StillTailTactics
import Derived.Deep.RegionWith
import Derived.Deep.CutBlock
import Derived.Deep.CutRange
import Derived.Deep.RegionHeld3
import Derived.Deep.LoopGhost
namespace Go.Proofs.YtflonfcemlfbdaaDoor
open Go Go.RowKit Go.ChangeShapes Go.WideShapes Go.Deep
set_option linter.unusedVariables false
theorem zew {P : Program} (wr : World) {ops : Array Oper} {o : Oper} {a : Act} {K : Act → World → Prop} {Q : Exit → Act → World → Prop} {E : Prop} (hgd : o.guard = none) (s x : Operand) (t : TypeId)
  (ho:o.op=.call {callee:=.builtin .append,args:=#[s,x],argTypes:=#[t,t]})
  (base:Nat) (e:TypeId) (z:Value) (size bytes:Nat) (ht:P.underlying t=some (.slice e)) (hi:(P.info? e).map (fun i=>(i.zero,i.size,i.bytes))=some (some z,size,bytes))
  (hzs:z.cells.size=size) (hsz:0<size) (news:List Value) (hl:news.length=size) (h1:∀u∈news,u.oneCell'=true)
  (v:Value) (n:Nat) (xs:List Value) (hs:a.eval s=v) (hown:wr.ownsRow base e size v n xs) {H:Nat} (hx:a.eval x=.slice (some ⟨H,0,none⟩) 1 1) (hH:wr.heap.size=H)
  (hbytes:(n+1)*bytes≤140737488355328) (hn:n<9223372036854775807) (hbase:base≤wr.heap.size)
  (h:∀g cap w',w'.ownsRow base e size (.slice (some ⟨g,0,none⟩) (n+1) cap) (n+1) (xs++news)→wr.grownBy w' v.ownBlock→(v.ownBlock=some g∨wr.heap.size<g)→K (a.put o.dst (.slice (some ⟨g,0,none⟩) (n+1) cap)) w'):
  if Region.wanted o (yielded ops a.tmps)=true then Oper.wp P o a (wr.alloc (.cells news.toArray e)) K Q else E:=by
 subst hH
 rw[if_pos (by simp[Region.wanted,hgd])]
 obtain⟨i0,hi0,hz0,hz1,hz2⟩:=info_parts hi
 obtain⟨v',w',hr,k1,k2,_,k5⟩:=run_append_own_at (P:=P) (wr.alloc (.cells news.toArray e)) base t o.type e i0 z size bytes ht hi0 hz0 hz1 hz2 hzs hsz v n xs (hown.alloc _) ⟨wr.heap.size,0,none⟩ 1 1 news (by omega) (by
  intro j u hj
  have e1:(⟨wr.heap.size,0,none⟩:Addr).add j=⟨wr.heap.size,j,none⟩:=by rw[add_plain];simp
  rw[e1]
  simp only[World.cell?,heap_alloc_new]
  simpa using hj) h1 (by unfold maxLen;omega) hbytes (by simp;omega)
 obtain⟨g,cap,hv⟩:∃g cap,v'=.slice (some ⟨g,0,none⟩) (n+1) cap:=by
  rcases k1.2 with⟨_,h0⟩|⟨g,cap,_,hv,_⟩
  ·omega
  ·exact⟨g,cap,hv⟩
 subst hv
 unfold Oper.wp
 simp[execOp,ho,resolve,invoke,builtin,hs,hx,hr,Result.andThen]
 refine h g cap w' k1 ⟨k2.os,k2.tape,k2.output,by have:=k2.size;simp at this;omega,fun k hk hne=>?_⟩ ?_
 ·
  rw[k2.block k (by simp;omega) hne]
  exact zaj hk
 ·
  rcases k5 with e|e
  ·exact Or.inl e.symm
  ·
   refine Or.inr ?_
   simp[Value.ownBlock] at e
   omega
theorem za7 {P : Program} (wr : World) {ops : Array Oper} {rest : List Oper} {o : Oper} {a : Act} {Q : Exit → Act → World → Prop} (hgd : o.guard = none) (s x : Operand) (t : TypeId)
  (ho:o.op=.call {callee:=.builtin .append,args:=#[s,x],argTypes:=#[t,t]})
  (base:Nat) (e:TypeId) (z:Value) (size bytes:Nat) (ht:P.underlying t=some (.slice e)) (hi:(P.info? e).map (fun i=>(i.zero,i.size,i.bytes))=some (some z,size,bytes))
  (hzs:z.cells.size=size) (hsz:0<size) (news:List Value) (hl:news.length=size) (h1:∀u∈news,u.oneCell'=true)
  (v:Value) (n:Nat) (xs:List Value) (hs:a.eval s=v) (hown:wr.ownsRow base e size v n xs) {H:Nat} (hx:a.eval x=.slice (some ⟨H,0,none⟩) 1 1) (hH:wr.heap.size=H)
  (hbytes:(n+1)*bytes≤140737488355328) (hn:n<9223372036854775807) (hbase:base≤wr.heap.size)
  (h:∀g cap w',w'.ownsRow base e size (.slice (some ⟨g,0,none⟩) (n+1) cap) (n+1) (xs++news)→wr.grownBy w' v.ownBlock→(v.ownBlock=some g∨wr.heap.size<g)→wpList P ops Q rest (a.put o.dst (.slice (some ⟨g,0,none⟩) (n+1) cap)) w'):
  wpList P ops Q (o::rest) a (wr.alloc (.cells news.toArray e)):=by
 refine wpList_plain hgd fun K hK=>?_
 have:=zew (P:=P) wr (ops:=#[o]) (o:=o) (a:=a) (K:=K) (Q:=Q) (E:=True) hgd s x t ho base e z size bytes ht hi hzs hsz news hl h1 v n xs hs hown hx hH hbytes hn hbase (fun g cap w' k1 k2 k3=>hK _ _ (h g cap w' k1 k2 k3))
 rw[if_pos (by simp[Region.wanted,hgd])] at this
 exact this
end Go.Proofs.YtflonfcemlfbdaaDoor
namespace Go.Proofs.YtflonfcemlfbdaaDoor
open Go Go.RowKit Go.ChangeShapes Go.WideShapes Go.Deep
set_option linter.unusedVariables false
attribute [local go_sem ↓] Go.wp_at_zero Go.wp_at_succ
def NB(v v':Value):Prop:=∀g,v.ownBlock=some g→v'.ownBlock≠some g
theorem NB.symm{v v':Value}(h:NB v v'):NB v' v:=fun g e k=>h g k e
structure W20(is vs:List Int)(bs:List (List Int))(ds:List Int):Prop where
 li:is.length≤20
 lv:vs.length≤20
 lb:bs.length≤20
 ld:ds.length≤20
 wi:∀z∈is,0≤z∧z<300
 wv:∀z∈vs,-50≤z∧z<50
 wd:∀z∈ds,0≤z∧z<20
 wb:∀b∈bs,b.length=16∧∀z∈b,0≤z∧z<9
section
variable {w0 w w':World} {wb:Nat} {is vs:List Int} {ps:List (List Int × Value)} {ds:List Int} {a0 a1 a2 a3:Option Addr} {c0 c1 c2 c3:Nat}
end
theorem W20.add{is vs ds:List Int}{bs:List (List Int)}{z0 z1 z3:Int}(k:W20 is vs bs ds)(h0:is.length<20)(h1:vs.length<20)(h3:ds.length<20)(q0:0≤z0∧z0<300)(q1:-50≤z1∧z1<50)(q3:0≤z3∧z3<20):W20 (is++[z0]) (vs++[z1]) bs (ds++[z3]):=
 ⟨by simp;omega,by simp;omega,k.lb,by simp;omega,fun z hz=>(List.mem_append.1 hz).elim (k.wi z) (fun e=>by rw[List.mem_singleton.1 e];exact q0),fun z hz=>(List.mem_append.1 hz).elim (k.wv z) (fun e=>by rw[List.mem_singleton.1 e];exact q1),fun z hz=>(List.mem_append.1 hz).elim (k.wd z) (fun e=>by rw[List.mem_singleton.1 e];exact q3),k.wb⟩
end Go.Proofs.YtflonfcemlfbdaaDoor
