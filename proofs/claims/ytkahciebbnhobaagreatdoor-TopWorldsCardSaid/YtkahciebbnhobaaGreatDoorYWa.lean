/- Several texts joined, each with its own heading in the notes: append of one element, with the block that the row lies in then: the old one or a newer one. A world as the keep puts it together. The keep's World. No condition beyond those of each row. -/
import Derived.Test.YtkahciebbnhobaaGreatDoorYMem
import Derived.Maps.AppendAt
import Derived.Deep.AppendLies
import Derived.Deep.RegionLaw
import Derived.Test.YtkahciebbnhobaaGreatDoorYPk
import Derived.Test.YtkahciebbnhobaaGreatDoorYCpu1
import Derived.Test.YtkahciebbnhobaaGreatDoorYCl
import Derived.Handy
import Derived.StillTailTactics
import Derived.Deep.RegionWith
import Derived.Deep.CutBlock
import Derived.Deep.CutRange
import Derived.Deep.RegionHeld3
import Derived.Deep.LoopGhost
namespace Go.Proofs.YtkahciebbnhobaaGreatDoor
open Go Go.RowKit Go.ChangeShapes Go.WideShapes Go.Deep
set_option linter.unusedVariables false
theorem step_push_at {P : Program} (wr : World) {ops : Array Oper} {o : Oper} {a : Act} {K : Act → World → Prop} {Q : Exit → Act → World → Prop} {E : Prop} (hgd : o.guard = none) (s x : Operand) (t : TypeId)
  (ho:o.op=.call { callee:=.builtin .append,args:=#[s,x],argTypes:=#[t,t] })
  (base:Nat) (e:TypeId) (z:Value) (size bytes:Nat) (ht:P.underlying t=some (.slice e)) (hi:(P.info? e).map (fun i=>(i.zero,i.size,i.bytes))=some (some z,size,bytes))
  (hzs:z.cells.size=size) (hsz:0 < size) (news:List Value) (hl:news.length=size) (h1:∀ u∈news,u.oneCell'=true)
  (v:Value) (n:Nat) (xs:List Value) (hs:a.eval s=v) (hown:wr.ownsRow base e size v n xs) {H:Nat} (hx:a.eval x=.slice (some ⟨H,0,none⟩) 1 1) (hH:wr.heap.size=H)
  (hbytes:(n+1) * bytes≤140737488355328) (hn:n < 9223372036854775807) (hbase:base≤wr.heap.size)
  (h:∀ g cap w',w'.ownsRow base e size (.slice (some ⟨g,0,none⟩) (n+1) cap) (n+1) (xs ++ news)→wr.grownBy w' v.ownBlock→(v.ownBlock=some g∨wr.heap.size < g)→K (a.put o.dst (.slice (some ⟨g,0,none⟩) (n+1) cap)) w') :
  if Region.wanted o (yielded ops a.tmps)=true then Oper.wp P o a (wr.alloc (.cells news.toArray e)) K Q else E:=by
 subst hH
 rw [if_pos (by simp [Region.wanted,hgd])]
 obtain⟨i0,hi0,hz0,hz1,hz2⟩:=info_parts hi
 obtain⟨v',w',hr,k1,k2,_,k5⟩:=run_append_own_at (P:=P) (wr.alloc (.cells news.toArray e)) base t o.type e i0 z size bytes ht hi0 hz0 hz1 hz2 hzs hsz v n xs (hown.alloc _) ⟨wr.heap.size,0,none⟩ 1 1 news (by omega) (by
  intro j u hj
  have e1:(⟨wr.heap.size,0,none⟩:Addr).add j=⟨wr.heap.size,j,none⟩:=by rw [add_plain];simp
  rw [e1]
  simp only [World.cell?,heap_alloc_new]
  simpa using hj) h1 (by unfold maxLen;omega) hbytes (by simp;omega)
 obtain⟨g,cap,hv⟩:∃ g cap,v'=.slice (some ⟨g,0,none⟩) (n+1) cap:=by
  rcases k1.2 with ⟨_,h0⟩ | ⟨g,cap,_,hv,_⟩
  · omega
  · exact⟨g,cap,hv⟩
 subst hv
 unfold Oper.wp
 simp [execOp,ho,resolve,invoke,builtin,hs,hx,hr,Result.andThen]
 refine h g cap w' k1 ⟨k2.os,k2.tape,k2.output,by have:=k2.size;simp at this;omega,fun k hk hne=>?_⟩ ?_
 ·
  rw [k2.block k (by simp;omega) hne]
  exact alloc_lt hk
 ·
  rcases k5 with e | e
  · exact Or.inl e.symm
  ·
   refine Or.inr ?_
   simp [Value.ownBlock] at e
   omega
theorem wpList_push_at {P : Program} (wr : World) {ops : Array Oper} {rest : List Oper} {o : Oper} {a : Act} {Q : Exit → Act → World → Prop} (hgd : o.guard = none) (s x : Operand) (t : TypeId)
  (ho:o.op=.call { callee:=.builtin .append,args:=#[s,x],argTypes:=#[t,t] })
  (base:Nat) (e:TypeId) (z:Value) (size bytes:Nat) (ht:P.underlying t=some (.slice e)) (hi:(P.info? e).map (fun i=>(i.zero,i.size,i.bytes))=some (some z,size,bytes))
  (hzs:z.cells.size=size) (hsz:0 < size) (news:List Value) (hl:news.length=size) (h1:∀ u∈news,u.oneCell'=true)
  (v:Value) (n:Nat) (xs:List Value) (hs:a.eval s=v) (hown:wr.ownsRow base e size v n xs) {H:Nat} (hx:a.eval x=.slice (some ⟨H,0,none⟩) 1 1) (hH:wr.heap.size=H)
  (hbytes:(n+1) * bytes≤140737488355328) (hn:n < 9223372036854775807) (hbase:base≤wr.heap.size)
  (h:∀ g cap w',w'.ownsRow base e size (.slice (some ⟨g,0,none⟩) (n+1) cap) (n+1) (xs ++ news)→wr.grownBy w' v.ownBlock→(v.ownBlock=some g∨wr.heap.size < g)→wpList P ops Q rest (a.put o.dst (.slice (some ⟨g,0,none⟩) (n+1) cap)) w') :
  wpList P ops Q (o :: rest) a (wr.alloc (.cells news.toArray e)):=by
 refine wpList_plain hgd fun K hK=>?_
 have:=step_push_at (P:=P) wr (ops:=#[o]) (o:=o) (a:=a) (K:=K) (Q:=Q) (E:=True) hgd s x t ho base e z size bytes ht hi hzs hsz news hl h1 v n xs hs hown hx hH hbytes hn hbase (fun g cap w' k1 k2 k3=>hK _ _ (h g cap w' k1 k2 k3))
 rw [if_pos (by simp [Region.wanted,hgd])] at this
 exact this
end Go.Proofs.YtkahciebbnhobaaGreatDoor
namespace Go.Proofs.YtkahciebbnhobaaGreatDoor
open Go Go.RowKit Go.ChangeShapes Go.WideShapes Go.Deep
set_option linter.unusedVariables false
attribute [local go_sem ↓] Go.wp_at_zero Go.wp_at_succ
def NB (v v':Value):Prop:=∀ g,v.ownBlock=some g→v'.ownBlock≠some g
theorem NB.symm {v v':Value} (h:NB v v'):NB v' v:=fun g e k=>h g k e
structure W20 (is vs:List Int) (bs:List (List Int)) (ds:List Int):Prop where
 li:is.length≤20
 lv:vs.length≤20
 lb:bs.length≤20
 ld:ds.length≤20
 wi:∀ z∈is,0≤z∧z < 300
 wv:∀ z∈vs,-50≤z∧z < 50
 wd:∀ z∈ds,0≤z∧z < 20
 wb:∀ b∈bs,b.length=16∧∀ z∈b,0≤z∧z < 9
structure WkS (w0:World) (wb:Nat) (is vs:List Int) (ps:List (List Int × Value)) (ds:List Int) (a0 a1 a2 a3:Option Addr) (c0 c1 c2 c3:Nat) (w:World):Prop where
 box:w.heap[wb]? = some (.cells #[.slice a0 is.length c0,.slice a1 vs.length c1,.slice a2 ps.length c2,.slice a3 ds.length c3] 27 (0,0))
 r0:w.ownsRow w0.heap.size 3 1 (.slice a0 is.length c0) is.length (is.map (Value.int .i64))
 r1:w.ownsRow w0.heap.size 3 1 (.slice a1 vs.length c1) vs.length (vs.map (Value.int .i64))
 r2:w.ownsRow w0.heap.size 24 1 (.slice a2 ps.length c2) ps.length (ps.map (·.2))
 r3:w.ownsRow w0.heap.size 3 1 (.slice a3 ds.length c3) ds.length (ds.map (Value.int .i64))
 rb:∀ p∈ps,w.ownsRow w0.heap.size 3 1 p.2 p.1.length (p.1.map (Value.int .i64))∧p.2.oneCell'=true
 n01:NB (.slice a0 is.length c0) (.slice a1 vs.length c1)
 n03:NB (.slice a0 is.length c0) (.slice a3 ds.length c3)
 n13:NB (.slice a1 vs.length c1) (.slice a3 ds.length c3)
 nb:∀ p∈ps,NB (.slice a0 is.length c0) p.2∧NB (.slice a1 vs.length c1) p.2∧NB (.slice a3 ds.length c3) p.2
 ge:w0.heap.size≤wb
 below:Below w0.heap.size w0 w
section
variable {w0 w w':World} {wb:Nat} {is vs:List Int} {ps:List (List Int × Value)} {ds:List Int} {a0 a1 a2 a3:Option Addr} {c0 c1 c2 c3:Nat}
theorem WkS.lt (h:WkS w0 wb is vs ps ds a0 a1 a2 a3 c0 c1 c2 c3 w):wb < w.heap.size:=(Array.getElem?_eq_some_iff.1 h.box).1
theorem WkS.on (h:WkS w0 wb is vs ps ds a0 a1 a2 a3 c0 c1 c2 c3 w) (hb:Below w.heap.size w w'):WkS w0 wb is vs ps ds a0 a1 a2 a3 c0 c1 c2 c3 w':=
 ⟨block_below hb h.box h.lt,own_below h.r0 hb (Nat.le_refl _),own_below h.r1 hb (Nat.le_refl _),own_below h.r2 hb (Nat.le_refl _),own_below h.r3 hb (Nat.le_refl _),fun p hp=>⟨own_below (h.rb p hp).1 hb (Nat.le_refl _),(h.rb p hp).2⟩,h.n01,h.n03,h.n13,h.nb,h.ge,h.below.trans (hb.mono h.below.size)⟩
theorem nb_kept {e:TypeId} {b:Nat} {v v':Value} {n:Nat} {xs:List Value} (h:w.ownsRow b e 1 v n xs) (hg:w.grownBy w' v'.ownBlock) (hn:NB v v'):w'.ownsRow b e 1 v n xs:=h.kept hg (by
 cases e1:v.ownBlock with
 | none=>exact Or.inl rfl
 | some g=>exact Or.inr (fun e2=>hn g e1 e2.symm))
theorem nb_of_ne {b b':Nat} {e e':TypeId} {s s' n n':Nat} {v v':Value} {xs xs':List Value} (h:w.ownsRow b e s v n xs) (h':w.ownsRow b' e' s' v' n' xs') (he:e≠e'):NB v v':=by
 intro g e1 e2
 rcases own_ne h h' he with q | q
 · rw [e1] at q;cases q
 · exact q (e1.trans e2.symm)
theorem nb_new {v u:Value} {g n c:Nat} {b s m:Nat} {e:TypeId} {xs:List Value} (hu:w.ownsRow b e s u m xs) (h0:NB v u) (hg:v.ownBlock=some g∨w.heap.size < g):NB (.slice (some ⟨g,0,none⟩) n c) u:=by
 intro k e1 e2
 simp only [Value.ownBlock,Option.some.injEq] at e1
 subst e1
 rcases hg with q | q
 · exact h0 _ q e2
 · have:=(hu.lt _ e2).2;omega
theorem WkS.push0 (h:WkS w0 wb is vs ps ds a0 a1 a2 a3 c0 c1 c2 c3 w) {g cap:Nat} {z:Int} (ho:w'.ownsRow w0.heap.size 3 1 (.slice (some ⟨g,0,none⟩) (is.length+1) cap) (is.length+1) (is.map (Value.int .i64) ++ [.int .i64 z])) (hg:w.grownBy w' (Value.slice a0 is.length c0).ownBlock) (hn:(Value.slice a0 is.length c0).ownBlock=some g∨w.heap.size < g):WkS w0 wb (is ++ [z]) vs ps ds (some ⟨g,0,none⟩) a1 a2 a3 cap c1 c2 c3 (w'.setCell ⟨wb,0,none⟩ (.slice (some ⟨g,0,none⟩) (is.length+1) cap)):=by
 have hlen:(is ++ [z]).length=is.length+1:=by simp
 have hxb:w'.heap[wb]? = some (.cells #[.slice a0 is.length c0,.slice a1 vs.length c1,.slice a2 ps.length c2,.slice a3 ds.length c3] 27 (0,0)):=block_grown hg h.box (own_ne_block h.r0 h.box (by decide))
 have m2:=nb_of_ne h.r0 h.r2 (by decide)
 have q1:=nb_kept h.r1 hg (h.n01).symm
 have n1:=nb_new (n:=is.length+1) (c:=cap) h.r1 (h.n01) hn
 have q3:=nb_kept h.r3 hg (h.n03).symm
 have n3:=nb_new (n:=is.length+1) (c:=cap) h.r3 (h.n03) hn
 have q2:=nb_kept h.r2 hg m2.symm
 have hb2:∀ p∈ps,NB (.slice (some ⟨g,0,none⟩) (is.length+1) cap) p.2:=fun p hp=>nb_new (h.rb p hp).1 (h.nb p hp).1 hn
 have hbl:Below w0.heap.size w0 w':=below_grown h.below h.r0 hg h.below.size (Nat.le_refl _)
 have own:∀ {b:Nat} {e:TypeId} {s n:Nat} {v:Value} {xs:List Value},w'.ownsRow b e s v n xs→e≠27→(w'.setCell ⟨wb,0,none⟩ (.slice (some ⟨g,0,none⟩) (is.length+1) cap)).ownsRow b e s v n xs:=fun hr he=>own_set hr (own_ne_block hr hxb he) _
 have hmine:(w'.setCell ⟨wb,0,none⟩ (.slice (some ⟨g,0,none⟩) (is.length+1) cap)).ownsRow w0.heap.size 3 1 (.slice (some ⟨g,0,none⟩) (is ++ [z]).length cap) (is ++ [z]).length ((is ++ [z]).map (Value.int .i64)):=by rw [hlen,List.map_append];exact own ho (by decide)
 refine⟨?_,hmine,own q1 (by decide),own q2 (by decide),own q3 (by decide),fun p hp=>⟨own (nb_kept (h.rb p hp).1 hg (h.nb p hp).1.symm) (by decide),(h.rb p hp).2⟩,(by rw [hlen];exact n1),(by rw [hlen];exact n3),h.n13,fun p hp=>⟨(by rw [hlen];exact hb2 p hp),(h.nb p hp).2.1,(h.nb p hp).2.2⟩,h.ge,hbl.setCell h.ge _⟩
 rw [hlen]
 exact set_block hxb _
theorem WkS.push1 (h:WkS w0 wb is vs ps ds a0 a1 a2 a3 c0 c1 c2 c3 w) {g cap:Nat} {z:Int} (ho:w'.ownsRow w0.heap.size 3 1 (.slice (some ⟨g,0,none⟩) (vs.length+1) cap) (vs.length+1) (vs.map (Value.int .i64) ++ [.int .i64 z])) (hg:w.grownBy w' (Value.slice a1 vs.length c1).ownBlock) (hn:(Value.slice a1 vs.length c1).ownBlock=some g∨w.heap.size < g):WkS w0 wb is (vs ++ [z]) ps ds a0 (some ⟨g,0,none⟩) a2 a3 c0 cap c2 c3 (w'.setCell ⟨wb,1,none⟩ (.slice (some ⟨g,0,none⟩) (vs.length+1) cap)):=by
 have hlen:(vs ++ [z]).length=vs.length+1:=by simp
 have hxb:w'.heap[wb]? = some (.cells #[.slice a0 is.length c0,.slice a1 vs.length c1,.slice a2 ps.length c2,.slice a3 ds.length c3] 27 (0,0)):=block_grown hg h.box (own_ne_block h.r1 h.box (by decide))
 have m2:=nb_of_ne h.r1 h.r2 (by decide)
 have q0:=nb_kept h.r0 hg (h.n01.symm).symm
 have n0:=nb_new (n:=vs.length+1) (c:=cap) h.r0 (h.n01.symm) hn
 have q3:=nb_kept h.r3 hg (h.n13).symm
 have n3:=nb_new (n:=vs.length+1) (c:=cap) h.r3 (h.n13) hn
 have q2:=nb_kept h.r2 hg m2.symm
 have hb2:∀ p∈ps,NB (.slice (some ⟨g,0,none⟩) (vs.length+1) cap) p.2:=fun p hp=>nb_new (h.rb p hp).1 (h.nb p hp).2.1 hn
 have hbl:Below w0.heap.size w0 w':=below_grown h.below h.r1 hg h.below.size (Nat.le_refl _)
 have own:∀ {b:Nat} {e:TypeId} {s n:Nat} {v:Value} {xs:List Value},w'.ownsRow b e s v n xs→e≠27→(w'.setCell ⟨wb,1,none⟩ (.slice (some ⟨g,0,none⟩) (vs.length+1) cap)).ownsRow b e s v n xs:=fun hr he=>own_set hr (own_ne_block hr hxb he) _
 have hmine:(w'.setCell ⟨wb,1,none⟩ (.slice (some ⟨g,0,none⟩) (vs.length+1) cap)).ownsRow w0.heap.size 3 1 (.slice (some ⟨g,0,none⟩) (vs ++ [z]).length cap) (vs ++ [z]).length ((vs ++ [z]).map (Value.int .i64)):=by rw [hlen,List.map_append];exact own ho (by decide)
 refine⟨?_,own q0 (by decide),hmine,own q2 (by decide),own q3 (by decide),fun p hp=>⟨own (nb_kept (h.rb p hp).1 hg (h.nb p hp).2.1.symm) (by decide),(h.rb p hp).2⟩,(by rw [hlen];exact n0.symm),h.n03,(by rw [hlen];exact n3),fun p hp=>⟨(h.nb p hp).1,(by rw [hlen];exact hb2 p hp),(h.nb p hp).2.2⟩,h.ge,hbl.setCell h.ge _⟩
 rw [hlen]
 exact set_block hxb _
theorem WkS.push3 (h:WkS w0 wb is vs ps ds a0 a1 a2 a3 c0 c1 c2 c3 w) {g cap:Nat} {z:Int} (ho:w'.ownsRow w0.heap.size 3 1 (.slice (some ⟨g,0,none⟩) (ds.length+1) cap) (ds.length+1) (ds.map (Value.int .i64) ++ [.int .i64 z])) (hg:w.grownBy w' (Value.slice a3 ds.length c3).ownBlock) (hn:(Value.slice a3 ds.length c3).ownBlock=some g∨w.heap.size < g):WkS w0 wb is vs ps (ds ++ [z]) a0 a1 a2 (some ⟨g,0,none⟩) c0 c1 c2 cap (w'.setCell ⟨wb,3,none⟩ (.slice (some ⟨g,0,none⟩) (ds.length+1) cap)):=by
 have hlen:(ds ++ [z]).length=ds.length+1:=by simp
 have hxb:w'.heap[wb]? = some (.cells #[.slice a0 is.length c0,.slice a1 vs.length c1,.slice a2 ps.length c2,.slice a3 ds.length c3] 27 (0,0)):=block_grown hg h.box (own_ne_block h.r3 h.box (by decide))
 have m2:=nb_of_ne h.r3 h.r2 (by decide)
 have q0:=nb_kept h.r0 hg (h.n03.symm).symm
 have n0:=nb_new (n:=ds.length+1) (c:=cap) h.r0 (h.n03.symm) hn
 have q1:=nb_kept h.r1 hg (h.n13.symm).symm
 have n1:=nb_new (n:=ds.length+1) (c:=cap) h.r1 (h.n13.symm) hn
 have q2:=nb_kept h.r2 hg m2.symm
 have hb2:∀ p∈ps,NB (.slice (some ⟨g,0,none⟩) (ds.length+1) cap) p.2:=fun p hp=>nb_new (h.rb p hp).1 (h.nb p hp).2.2 hn
 have hbl:Below w0.heap.size w0 w':=below_grown h.below h.r3 hg h.below.size (Nat.le_refl _)
 have own:∀ {b:Nat} {e:TypeId} {s n:Nat} {v:Value} {xs:List Value},w'.ownsRow b e s v n xs→e≠27→(w'.setCell ⟨wb,3,none⟩ (.slice (some ⟨g,0,none⟩) (ds.length+1) cap)).ownsRow b e s v n xs:=fun hr he=>own_set hr (own_ne_block hr hxb he) _
 have hmine:(w'.setCell ⟨wb,3,none⟩ (.slice (some ⟨g,0,none⟩) (ds.length+1) cap)).ownsRow w0.heap.size 3 1 (.slice (some ⟨g,0,none⟩) (ds ++ [z]).length cap) (ds ++ [z]).length ((ds ++ [z]).map (Value.int .i64)):=by rw [hlen,List.map_append];exact own ho (by decide)
 refine⟨?_,own q0 (by decide),own q1 (by decide),own q2 (by decide),hmine,fun p hp=>⟨own (nb_kept (h.rb p hp).1 hg (h.nb p hp).2.2.symm) (by decide),(h.rb p hp).2⟩,h.n01,(by rw [hlen];exact n0.symm),(by rw [hlen];exact n1.symm),fun p hp=>⟨(h.nb p hp).1,(h.nb p hp).2.1,(by rw [hlen];exact hb2 p hp)⟩,h.ge,hbl.setCell h.ge _⟩
 rw [hlen]
 exact set_block hxb _
theorem WkS.pushB (h:WkS w0 wb is vs ps ds a0 a1 a2 a3 c0 c1 c2 c3 w) {g cap:Nat} {b:List Int} {v:Value} (hv:w.ownsRow w0.heap.size 3 1 v b.length (b.map (Value.int .i64))) (hv1:v.oneCell'=true) (m0:NB (.slice a0 is.length c0) v) (m1:NB (.slice a1 vs.length c1) v) (m3:NB (.slice a3 ds.length c3) v) (ho:w'.ownsRow w0.heap.size 24 1 (.slice (some ⟨g,0,none⟩) (ps.length+1) cap) (ps.length+1) (ps.map (·.2) ++ [v])) (hg:w.grownBy w' (Value.slice a2 ps.length c2).ownBlock):WkS w0 wb is vs (ps ++ [(b,v)]) ds a0 a1 (some ⟨g,0,none⟩) a3 c0 c1 cap c3 (w'.setCell ⟨wb,2,none⟩ (.slice (some ⟨g,0,none⟩) (ps.length+1) cap)):=by
 have hlen:(ps ++ [(b,v)]).length=ps.length+1:=by simp
 have hxb:w'.heap[wb]? = some (.cells #[.slice a0 is.length c0,.slice a1 vs.length c1,.slice a2 ps.length c2,.slice a3 ds.length c3] 27 (0,0)):=block_grown hg h.box (own_ne_block h.r2 h.box (by decide))
 have hbl:Below w0.heap.size w0 w':=below_grown h.below h.r2 hg h.below.size (Nat.le_refl _)
 have own:∀ {b:Nat} {e:TypeId} {s n:Nat} {v:Value} {xs:List Value},w'.ownsRow b e s v n xs→e≠27→(w'.setCell ⟨wb,2,none⟩ (.slice (some ⟨g,0,none⟩) (ps.length+1) cap)).ownsRow b e s v n xs:=fun hr he=>own_set hr (own_ne_block hr hxb he) _
 have kp:∀ {v:Value} {n:Nat} {xs:List Value},w.ownsRow w0.heap.size 3 1 v n xs→w'.ownsRow w0.heap.size 3 1 v n xs:=fun hr=>nb_kept hr hg (nb_of_ne hr h.r2 (by decide))
 refine⟨?_,own (kp h.r0) (by decide),own (kp h.r1) (by decide),?_,own (kp h.r3) (by decide),fun p hp=>?_,h.n01,h.n03,h.n13,fun p hp=>?_,h.ge,hbl.setCell h.ge _⟩
 · rw [hlen];exact set_block hxb _
 · rw [hlen,List.map_append];exact own ho (by decide)
 ·
  rcases List.mem_append.1 hp with hp | hp
  · exact⟨own (kp (h.rb p hp).1) (by decide),(h.rb p hp).2⟩
  · rw [List.mem_singleton.1 hp];exact⟨own (kp hv) (by decide),hv1⟩
 ·
  rcases List.mem_append.1 hp with hp | hp
  · exact h.nb p hp
  · rw [List.mem_singleton.1 hp];exact⟨m0,m1,m3⟩
end
theorem WkS.box2 {w0 w:World} {wb rb j:Nat} {is vs:List Int} {ps:List (List Int × Value)} {ds:List Int} {a0 a1 a2 a3:Option Addr} {c0 c1 c2 c3:Nat} {cs:Array Value} (h:WkS w0 wb is vs ps ds a0 a1 a2 a3 c0 c1 c2 c3 w) (hr:w.heap[rb]? = some (.cells cs 27 (0,0))) (hne:wb≠rb) (hge:w0.heap.size≤rb) (u:Value):WkS w0 wb is vs ps ds a0 a1 a2 a3 c0 c1 c2 c3 (w.setCell ⟨rb,j,none⟩ u):=by
 have own:∀ {b:Nat} {e:TypeId} {s n:Nat} {v:Value} {xs:List Value},w.ownsRow b e s v n xs→e≠27→(w.setCell ⟨rb,j,none⟩ u).ownsRow b e s v n xs:=fun ho he=>own_set ho (own_ne_block ho hr he) _
 exact⟨set_block_ne h.box hne _,own h.r0 (by decide),own h.r1 (by decide),own h.r2 (by decide),own h.r3 (by decide),fun p hp=>⟨own (h.rb p hp).1 (by decide),(h.rb p hp).2⟩,h.n01,h.n03,h.n13,h.nb,h.ge,h.below.setCell hge _⟩
theorem W20.add {is vs ds:List Int} {bs:List (List Int)} {z0 z1 z3:Int} (k:W20 is vs bs ds) (h0:is.length < 20) (h1:vs.length < 20) (h3:ds.length < 20) (q0:0≤z0∧z0 < 300) (q1:-50≤z1∧z1 < 50) (q3:0≤z3∧z3 < 20):W20 (is ++ [z0]) (vs ++ [z1]) bs (ds ++ [z3]):=
 ⟨by simp;omega,by simp;omega,k.lb,by simp;omega,fun z hz=>(List.mem_append.1 hz).elim (k.wi z) (fun e=>by rw [List.mem_singleton.1 e];exact q0),fun z hz=>(List.mem_append.1 hz).elim (k.wv z) (fun e=>by rw [List.mem_singleton.1 e];exact q1),fun z hz=>(List.mem_append.1 hz).elim (k.wd z) (fun e=>by rw [List.mem_singleton.1 e];exact q3),k.wb⟩
theorem W20.addB {is vs ds b:List Int} {bs:List (List Int)} (k:W20 is vs bs ds) (hl:bs.length < 20) (hb:b.length=16) (hz:∀ z∈b,0≤z∧z < 9):W20 is vs (bs ++ [b]) ds:=
 ⟨k.li,k.lv,by simp;omega,k.ld,k.wi,k.wv,k.wd,fun x hx=>(List.mem_append.1 hx).elim (k.wb x) (fun e=>by rw [List.mem_singleton.1 e];exact⟨hb,hz⟩)⟩
theorem tdiv_rng (c d:Int) (hd:0 < d) (h1:-9223372036854775808≤c) (h2:c≤9223372036854775807):-9223372036854775808≤c.tdiv d∧c.tdiv d≤9223372036854775807:=by
 by_cases h:0≤c
 · rw [Int.tdiv_eq_ediv_of_nonneg h];have:=Int.ediv_nonneg h (Int.le_of_lt hd);have:=Int.ediv_le_self d h;omega
 ·
  have e:c.tdiv d = -((-c) / d):=by rw [← Int.tdiv_eq_ediv_of_nonneg (by omega:0≤-c),Int.neg_tdiv,Int.neg_neg]
  rw [e];have:=Int.ediv_nonneg (show 0≤-c by omega) (Int.le_of_lt hd);have:=Int.ediv_le_self d (show 0≤-c by omega);omega
theorem fill_next {bl:List Int} {q:Nat} {z:Int} (hl:bl.length=q) (hq:q < 16):(bl ++ List.replicate (16 - q) 0).set q z=(bl ++ [z]) ++ List.replicate (16 - (q+1)) 0:=by
 obtain⟨m,hm⟩:∃ m,16 - q=m+1:=⟨15 - q,by omega⟩
 rw [hm,show 16 - (q+1)=m by omega,List.replicate_succ,List.set_append_right _ _ (by omega),hl,Nat.sub_self,List.set_cons_zero,List.append_assoc]
 rfl
theorem own_cellW {w:World} {b g c n:Nat} {zs:List Int} (h:w.ownsRow b 3 1 (.slice (some ⟨g,0,none⟩) n c) n (zs.map (Value.int .i64))) (hl:zs.length=n) {k:Nat} (hk:k < n):∃ z,w.cell? ⟨g,k,none⟩=some (.int .i64 z):=by
 rw [h.cellAt k (by omega),List.getElem?_map,List.getElem?_eq_getElem (by omega)]
 exact⟨_,rfl⟩
theorem nb_far {w:World} {base e s n g:Nat} {v:Value} {m c:Nat} {xs:List Value} (h:w.ownsRow base e s v n xs) (hg:w.heap.size≤g):NB v (.slice (some ⟨g,0,none⟩) m c):=by
 intro k e1 e2
 simp only [Value.ownBlock,Option.some.injEq] at e2
 subst e2
 have:=(h.lt _ e1).2
 omega
theorem WkS.reads {w0 w:World} {wb:Nat} {is vs:List Int} {ps:List (List Int × Value)} {ds:List Int} {a0 a1 a2 a3:Option Addr} {c0 c1 c2 c3:Nat} (h:WkS w0 wb is vs ps ds a0 a1 a2 a3 c0 c1 c2 c3 w) (k:W20 is vs (ps.map (·.1)) ds):Ints w.heap.size w (.slice a0 is.length c0) is∧Ints w.heap.size w (.slice a1 vs.length c1) vs∧RowsR w.heap.size w (.slice a2 (ps.map (·.1)).length c2) (ps.map (·.1))∧Ints w.heap.size w (.slice a3 ds.length c3) ds:=by
 have li:=k.li
 have lv:=k.lv
 have ld:=k.ld
 have lb:=k.lb
 refine⟨ints_of_owns h.r0 (by omega) (fun z hz=>by have:=k.wi z hz;unfold I64;omega),ints_of_owns h.r1 (by omega) (fun z hz=>by have:=k.wv z hz;unfold I64;omega),?_,ints_of_owns h.r3 (by omega) (fun z hz=>by have:=k.wd z hz;unfold I64;omega)⟩
 have hr:=h.r2
 rw [List.length_map] at lb ⊢
 have e:(ps.map (·.1)).length=ps.length:=List.length_map ..
 refine sl1_of_owns (m:=5864062014634) (xs:=ps.map (·.1)) (by rw [e];exact hr) (by rw [e];omega) (fun i hi hv=>?_)
 have hip:i < ps.length:=by rw [e] at hi;exact hi
 have:=(h.rb ps[i] (List.getElem_mem hip)).1
 rw [List.getElem_map,List.getElem_map]
 have hb:=k.wb ps[i].1 (List.mem_map_of_mem (List.getElem_mem hip))
 exact ints_of_owns this (by omega) (fun z hz=>by have:=hb.2 z hz;unfold I64;omega)
end Go.Proofs.YtkahciebbnhobaaGreatDoor
