/- Several texts joined, each with its own heading in the notes: Reading predicates: what a Go value holds in memory, as plain Lean lists; how they are carried over worlds; how they come out of the reading of an argument. The readings of this program's argument types, as plain Lean data. Contracts of the small functions that many laws use: In, sameInts. Bit operations on 64-bit signed numbers as sums and remainders. No condition beyond those of each row. -/
import Derived.WalkKit
import Derived.ProofKit
import Derived.WalkLawsBesides
import Derived.WalkSpells
import Derived.LoopTactic
import Derived.Outline
import Derived.Lib.Hide
import Derived.Deep.Slices
import Derived.SizedLaws
import Derived.Lib.SmallJoins
import Derived.Test.YtflonfcemlfbdaaDoorChecked
import Derived.KernelRfl
import Derived.Deep.QuietTactic
import Derived.BigQuiet
import Derived.Deep.DeepMust
import Derived.Deep.DeepFit
import Derived.Deep.RegionHeld3
import Derived.StillTailTactics
import Derived.Deep.RegionLaw
import Derived.Deep.DrawnRows
import Derived.Deep.DeepCutAuto
namespace Go.Proofs.YtflonfcemlfbdaaDoor
open Go Go.RowKit Go.ChangeShapes Go.WideShapes Go.Deep
set_option maxHeartbeats 400000
set_option maxRecDepth 100000
set_option linter.unusedVariables false
def I64(z:Int):Prop:=-9223372036854775808≤z∧z≤9223372036854775807
def Sl1{α:Type}(m B:Nat)(w:World)(R:Value→α→Prop)(v:Value)(xs:List α):Prop:=
 ∃a cap,v=.slice a xs.length cap∧xs.length≤m∧xs.length≤cap ∧
  ∀i (h:i<xs.length),∃b off vi,a=some ⟨b,off,none⟩∧b<B∧w.cell? ⟨b,off+i,none⟩=some vi∧R vi xs[i]
def SlN{α:Type}(n m B:Nat)(w:World)(R:List Value→α→Prop)(v:Value)(xs:List α):Prop:=
 ∃a cap,v=.slice a xs.length cap∧xs.length≤m∧xs.length≤cap ∧
  ∀i (h:i<xs.length),∃b off cs,a=some ⟨b,off,none⟩∧b<B∧cs.length=n∧(∀j (hj:j<cs.length),w.cell? ⟨b,off+i*n+j,none⟩=some cs[j])∧R cs xs[i]
def IntV(v:Value)(z:Int):Prop:=v=.int .i64 z∧I64 z
def zc5(v:Value)(z:UInt8):Prop:=v=.int .u8 z.toNat
def Ints(B:Nat)(w:World)(v:Value)(zs:List Int):Prop:=Sl1 17592186043904 B w IntV v zs
def RowsR(B:Nat)(w:World)(v:Value)(rs:List (List Int)):Prop:=Sl1 5864062014634 B w (Ints B w) v rs
def BytesR(B:Nat)(w:World)(v:Value)(zs:List UInt8):Prop:=Sl1 140737488351232 B w zc5 v zs
def Same(B:Nat)(w w':World):Prop:=∀b o,b<B→w'.cell? ⟨b,o,none⟩=w.cell? ⟨b,o,none⟩
theorem Same.refl(B:Nat)(w:World):Same B w w:=fun _ _ _=>rfl
theorem Same.trans{B:Nat}{w w' w'':World}(h:Same B w w')(k:Same B w' w''):Same B w w'':=fun b o hb=>(k b o hb).trans (h b o hb)
theorem Same.mono{B B':Nat}{w w':World}(h:Same B w w')(hB:B'≤B):Same B' w w':=fun b o hb=>h b o (Nat.lt_of_lt_of_le hb hB)
theorem zae{B:Nat}{w w':World}(h:Below B w w'):Same B w w':=fun b o hb=>h.cell (p:=⟨b,o,none⟩) hb
theorem zaw(w:World)(O:Obj):Same w.heap.size w (w.alloc O):=fun b _ hb=>World.cell?_of_block (Below.heap_alloc w O b hb)
theorem zai(w:World)(O:Obj):Below w.heap.size w (w.alloc O):=(Below.refl _ _).alloc (Nat.le_refl _) O
theorem below_alloc2(w:World)(O O':Obj):Below w.heap.size w ((w.alloc O).alloc O'):=(zai w O).alloc (by simp) O'
theorem below_alloc3(w:World)(O O' O'':Obj):Below w.heap.size w (((w.alloc O).alloc O').alloc O''):=(below_alloc2 w O O').alloc (by simp;omega) O''
theorem below_drewN{B:Nat}{a w:World}(h:Below B a w)(n:Nat):Below B a (w.drewN n):=⟨h.os,h.tape,h.output,h.size,h.block⟩
theorem Sl1.to{α:Type}{m m' B B':Nat}{w w':World}{R R':Value→α→Prop}{v:Value}{xs:List α}(hm:m≤m')(hB:B≤B')(hw:Same B w w')(hR:∀v x,R v x→R' v x)(h:Sl1 m B w R v xs):Sl1 m' B' w' R' v xs:=by
 obtain⟨a,cap,hv,hl,hl2,hc⟩:=h
 refine⟨a,cap,hv,by omega,hl2,fun i hi=>?_⟩
 obtain⟨b,off,vi,ha,hb,hcell,hr⟩:=hc i hi
 exact⟨b,off,vi,ha,by omega,by rw[hw _ _ hb];exact hcell,hR _ _ hr⟩
theorem SlN.to{α:Type}{n m m' B B':Nat}{w w':World}{R R':List Value→α→Prop}{v:Value}{xs:List α}(hm:m≤m')(hB:B≤B')(hw:Same B w w')(hR:∀v x,R v x→R' v x)(h:SlN n m B w R v xs):SlN n m' B' w' R' v xs:=by
 obtain⟨a,cap,hv,hl,hl2,hc⟩:=h
 refine⟨a,cap,hv,by omega,hl2,fun i hi=>?_⟩
 obtain⟨b,off,cs,ha,hb,hcs,hcell,hr⟩:=hc i hi
 exact⟨b,off,cs,ha,by omega,hcs,fun j hj=>by rw[hw _ _ hb];exact hcell j hj,hR _ _ hr⟩
def Imp(E:Nat)(w w':World):Prop:=∀b o x,b<E→w.cell? ⟨b,o,none⟩=some x→w'.cell? ⟨b,o,none⟩=some x
theorem Same.imp{E:Nat}{w w':World}(h:Same E w w'):Imp E w w':=fun b o x hb hx=>by rw[h b o hb];exact hx
theorem SlN.imp{α:Type}{n m B:Nat}{w w':World}{R R':List Value→α→Prop}{v:Value}{xs:List α}(hw:Imp B w w')(hR:∀v x,R v x→R' v x)(h:SlN n m B w R v xs):SlN n m B w' R' v xs:=by
 obtain⟨a,cap,hv,hl,hl2,hc⟩:=h
 refine⟨a,cap,hv,hl,hl2,fun i hi=>?_⟩
 obtain⟨b,off,cs,ha,hb,hcs,hcell,hr⟩:=hc i hi
 exact⟨b,off,cs,ha,hb,hcs,fun j hj=>hw _ _ _ hb (hcell j hj),hR _ _ hr⟩
theorem Ints.imp{B:Nat}{w w':World}{v:Value}{xs:List Int}(hw:Imp B w w')(h:Ints B w v xs):Ints B w' v xs:=by
 obtain⟨a,cap,hv,hl,hl2,hc⟩:=h
 refine⟨a,cap,hv,hl,hl2,fun i hi=>?_⟩
 obtain⟨b,off,u,ha,hb,hcell,hr⟩:=hc i hi
 exact⟨b,off,u,ha,hb,hw _ _ _ hb hcell,hr⟩
theorem Ints.to{B B':Nat}{w w':World}{v:Value}{xs:List Int}(hB:B≤B')(hw:Same B w w')(h:Ints B w v xs):Ints B' w' v xs:=Sl1.to (Nat.le_refl _) hB hw (fun _ _ h=>h) h
theorem RowsR.to{B B':Nat}{w w':World}{v:Value}{xs:List (List Int)}(hB:B≤B')(hw:Same B w w')(h:RowsR B w v xs):RowsR B' w' v xs:=Sl1.to (Nat.le_refl _) hB hw (fun _ _ h=>Ints.to hB hw h) h
theorem BytesR.to{B B':Nat}{w w':World}{v:Value}{xs:List UInt8}(hB:B≤B')(hw:Same B w w')(h:BytesR B w v xs):BytesR B' w' v xs:=Sl1.to (Nat.le_refl _) hB hw (fun _ _ h=>h) h
theorem Sl1.nil{α:Type}(m B:Nat)(w:World)(R:Value→α→Prop):Sl1 m B w R (.slice none 0 0) ([]:List α):=⟨none,0,rfl,Nat.zero_le _,Nat.zero_le _,fun i h=>absurd h (Nat.not_lt_zero _)⟩
theorem Ints.nil(B:Nat)(w:World):Ints B w (.slice none 0 0) []:=Sl1.nil _ _ _ _
theorem RowsR.nil(B:Nat)(w:World):RowsR B w (.slice none 0 0) []:=Sl1.nil _ _ _ _
theorem SlN.nil{α:Type}(n m B:Nat)(w:World)(R:List Value→α→Prop):SlN n m B w R (.slice none 0 0) ([]:List α):=⟨none,0,rfl,Nat.zero_le _,Nat.zero_le _,fun i h=>absurd h (Nat.not_lt_zero _)⟩
theorem zbq{α:Type}{w:World}{base:Nat}{e:TypeId}{v:Value}{xs:List α}{vs:List Value}{m:Nat}{R:Value→α→Prop}(h:w.ownsRow base e 1 v xs.length vs)(hm:xs.length≤m)(hR:∀i (hi:i<xs.length) (hv:i<vs.length),R vs[i] xs[i]):Sl1 m w.heap.size w R v xs:=by
 obtain⟨h0,h1⟩:=h
 rcases h1 with⟨rfl,hz⟩|⟨g,cap,cur,rfl,hg,hh,hn,hc,hs,ht⟩
 ·exact⟨none,0,by rw[hz],hm,by omega,fun i hi=>by omega⟩
 ·
  refine⟨some ⟨g,0,none⟩,cap,rfl,hm,hn,fun i hi=>?_⟩
  have hvl:i<vs.length:=by omega
  refine⟨g,0,vs[i],rfl,(Array.getElem?_eq_some_iff.1 hh).1,?_,hR i hi hvl⟩
  have hcs:i<cur.size:=by omega
  simp only[World.cell?,hh,Nat.zero_add]
  have e1:vs[i]?=cur[i]?:=by
   rw[←ht,List.getElem?_take,if_pos (by omega),Array.getElem?_toList]
  rw[List.getElem?_eq_getElem hvl] at e1
  simp[←e1]
theorem zaq{w:World}{base:Nat}{e:TypeId}{v:Value}{zs:List Int}(h:w.ownsRow base e 1 v zs.length (zs.map (Value.int .i64)))(hm:zs.length≤17592186043904)(hz:∀z∈zs,I64 z):Ints w.heap.size w v zs:=
 zbq h hm (fun i hi hv=>⟨by simp,hz _ (List.getElem_mem hi)⟩)
theorem Ints.i64{B:Nat}{w:World}{v:Value}{zs:List Int}(h:Ints B w v zs):∀z∈zs,I64 z:=by
 intro z hz
 obtain⟨i,hi,rfl⟩:=List.mem_iff_getElem.1 hz
 obtain⟨_,_,_,_,_,hc⟩:=h
 obtain⟨_,_,_,_,_,_,hr⟩:=hc i hi
 exact hr.2
theorem Ints.len{B:Nat}{w:World}{v:Value}{zs:List Int}(h:Ints B w v zs):zs.length≤17592186043904:=by
 obtain⟨_,_,_,h,_⟩:=h
 exact h
theorem Sl1.det{α:Type}{m B m' B':Nat}{w:World}{R:Value→α→Prop}{R':Value→α→Prop}{v:Value}{xs ys:List α}(hR:∀v x y,R v x→R' v y→x=y)(h:Sl1 m B w R v xs)(k:Sl1 m' B' w R' v ys):xs=ys:=by
 obtain⟨a,cap,rfl,hl,hl2,hc⟩:=h
 obtain⟨a',cap',hv,_,_,hc'⟩:=k
 injection hv with h1 h2 h3
 refine List.ext_getElem h2 (fun i hi hi'=>?_)
 obtain⟨b,off,vi,ha,hb,hcell,hr⟩:=hc i hi
 obtain⟨b',off',vi',ha',hb',hcell',hr'⟩:=hc' i hi'
 rw[h1,ha'] at ha
 injection ha with ha
 injection ha with e1 e2
 subst e1 e2
 rw[hcell] at hcell'
 injection hcell' with e
 subst e
 exact hR _ _ _ hr hr'
theorem Ints.det{B B':Nat}{w:World}{v:Value}{xs ys:List Int}(h:Ints B w v xs)(k:Ints B' w v ys):xs=ys:=
 Sl1.det (fun v x y h k=>by have:=h.1.symm.trans k.1;injection this) h k
theorem alloc_at{w:World}{o:Obj}{k:Nat}(h:k=w.heap.size):(w.alloc o).heap[k]?=some o:=by subst h;exact heap_alloc_new w o
theorem zaj{w:World}{o:Obj}{k:Nat}(h:k<w.heap.size):(w.alloc o).heap[k]?=w.heap[k]?:=Below.heap_alloc w o k h
theorem zc8{P:Program}{t e:TypeId}(ht:P.underlying t=some (.slice e))(a:Addr)(n c:Nat)(w:World):(binOp .eql t (.slice (some a) n c) (.slice none 0 0)).run P w=.ok (.bool false) w:=by
 simp only[binOp]
 simp[Op.equal,Op.maxDepth,Lib.run_equalIn_slice_nil w 9999 t e (some a) n c 0 0 ht]
theorem zc9{P:Program}{t e:TypeId}(ht:P.underlying t=some (.slice e))(n c:Nat)(w:World):(binOp .eql t (.slice none n c) (.slice none 0 0)).run P w=.ok (.bool true) w:=by
 simp only[binOp]
 simp[Op.equal,Op.maxDepth,Lib.run_equalIn_slice_nil w 9999 t e none n c 0 0 ht]
/-! ### What the call itself makes -/
theorem za4 {P : Program} (wr : World) {ops : Array Oper} {rest : List Oper} {o : Oper} {a : Act} {Q : Exit → Act → World → Prop} (hgd : o.guard = none) (s x : Operand) (t : TypeId)
  (ho:o.op=.call {callee:=.builtin .append,args:=#[s,x],argTypes:=#[t,t]})
  (base:Nat) (e:TypeId) (z:Value) (size bytes:Nat) (ht:P.underlying t=some (.slice e)) (hi:(P.info? e).map (fun i=>(i.zero,i.size,i.bytes))=some (some z,size,bytes))
  (hzs:z.cells.size=size) (hsz:0<size) (news:List Value) (hl:news.length=size) (h1:∀u∈news,u.oneCell'=true)
  (v:Value) (n:Nat) (xs:List Value) (hs:a.eval s=v) (hown:wr.ownsRow base e size v n xs) {H:Nat} (hx:a.eval x=.slice (some ⟨H,0,none⟩) 1 1) (hH:wr.heap.size=H)
  (hbytes:(n+1)*bytes≤140737488355328) (hn:n<9223372036854775807) (hbase:base≤wr.heap.size)
  (h:∀g cap w',w'.ownsRow base e size (.slice (some ⟨g,0,none⟩) (n+1) cap) (n+1) (xs++news)→wr.grownBy w' v.ownBlock→wpList P ops Q rest (a.put o.dst (.slice (some ⟨g,0,none⟩) (n+1) cap)) w'):
  wpList P ops Q (o::rest) a (wr.alloc (.cells news.toArray e)):=by
 subst hH
 obtain⟨i0,hi0,hz0,hz1,hz2⟩:=info_parts hi
 refine wpList_append_own (w:=wr.alloc (.cells news.toArray e)) hgd s x t ho base e i0 z size bytes ht hi0 hz0 hz1 hz2 hzs hsz v n xs hs (hown.alloc _) ⟨wr.heap.size,0,none⟩ 1 1 news hx (by omega) ?_ h1 (by unfold maxLen;omega) hbytes (by simp;omega) ?_
 ·
  intro j u hj
  have e1:(⟨wr.heap.size,0,none⟩:Addr).add j=⟨wr.heap.size,j,none⟩:=by rw[add_plain];simp
  rw[e1]
  simp only[World.cell?,heap_alloc_new]
  simpa using hj
 ·
  intro v' w' k1 k2 _
  obtain⟨g,cap,hv⟩:∃g cap,v'=.slice (some ⟨g,0,none⟩) (n+1) cap:=by
   rcases k1.2 with⟨_,h0⟩|⟨g,cap,_,hv,_⟩
   ·omega
   ·exact⟨g,cap,hv⟩
  rw[hv] at k1 ⊢
  refine h g cap w' k1 ⟨k2.os,k2.tape,k2.output,by have:=k2.size;simp at this;omega,fun k hk hne=>?_⟩
  rw[k2.block k (by simp;omega) hne]
  exact zaj hk
theorem zcD {P : Program} (wr : World) {ops : Array Oper} {o : Oper} {a : Act} {K : Act → World → Prop} {Q : Exit → Act → World → Prop} {E : Prop} (hgd : o.guard = none) (s x : Operand) (t : TypeId)
  (ho:o.op=.call {callee:=.builtin .append,args:=#[s,x],argTypes:=#[t,t]})
  (base:Nat) (e:TypeId) (z:Value) (size bytes:Nat) (ht:P.underlying t=some (.slice e)) (hi:(P.info? e).map (fun i=>(i.zero,i.size,i.bytes))=some (some z,size,bytes))
  (hzs:z.cells.size=size) (hsz:0<size) (news:List Value) (hl:news.length=size) (h1:∀u∈news,u.oneCell'=true)
  (v:Value) (n:Nat) (xs:List Value) (hs:a.eval s=v) (hown:wr.ownsRow base e size v n xs) {H:Nat} (hx:a.eval x=.slice (some ⟨H,0,none⟩) 1 1) (hH:wr.heap.size=H)
  (hbytes:(n+1)*bytes≤140737488355328) (hn:n<9223372036854775807) (hbase:base≤wr.heap.size)
  (h:∀g cap w',w'.ownsRow base e size (.slice (some ⟨g,0,none⟩) (n+1) cap) (n+1) (xs++news)→wr.grownBy w' v.ownBlock→K (a.put o.dst (.slice (some ⟨g,0,none⟩) (n+1) cap)) w'):
  if Region.wanted o (yielded ops a.tmps)=true then Oper.wp P o a (wr.alloc (.cells news.toArray e)) K Q else E:=by
 subst hH
 rw[if_pos (by simp[Region.wanted,hgd])]
 obtain⟨i0,hi0,hz0,hz1,hz2⟩:=info_parts hi
 refine wp_append_own (w:=wr.alloc (.cells news.toArray e)) s x t ho base e i0 z size bytes ht hi0 hz0 hz1 hz2 hzs hsz v n xs hs (hown.alloc _) ⟨wr.heap.size,0,none⟩ 1 1 news hx (by omega) ?_ h1 (by unfold maxLen;omega) hbytes (by simp;omega) ?_
 ·
  intro j u hj
  have e1:(⟨wr.heap.size,0,none⟩:Addr).add j=⟨wr.heap.size,j,none⟩:=by rw[add_plain];simp
  rw[e1]
  simp only[World.cell?,heap_alloc_new]
  simpa using hj
 ·
  intro v' w' k1 k2 _
  obtain⟨g,cap,hv⟩:∃g cap,v'=.slice (some ⟨g,0,none⟩) (n+1) cap:=by
   rcases k1.2 with⟨_,h0⟩|⟨g,cap,_,hv,_⟩
   ·omega
   ·exact⟨g,cap,hv⟩
  rw[hv] at k1 ⊢
  refine h g cap w' k1 ⟨k2.os,k2.tape,k2.output,by have:=k2.size;simp at this;omega,fun k hk hne=>?_⟩
  rw[k2.block k (by simp;omega) hne]
  exact zaj hk
theorem zkj{w:World}{base base':Nat}{e e':TypeId}{size size':Nat}{v v':Value}{n n':Nat}{xs xs':List Value}(h:w.ownsRow base e size v n xs)(h':w.ownsRow base' e' size' v' n' xs')(he:e≠e'):v.ownBlock=none∨v.ownBlock≠v'.ownBlock:=by
 rcases h.2 with⟨rfl,_⟩|⟨g,cap,cur,rfl,_,hg,_⟩
 ·exact Or.inl rfl
 ·
  right
  rcases h'.2 with⟨rfl,_⟩|⟨g',cap',cur',rfl,_,hg',_⟩
  ·simp[Value.ownBlock]
  ·
   intro hk
   simp only[Value.ownBlock,Option.some.injEq] at hk
   subst hk
   rw[hg] at hg'
   simp only[Option.some.injEq,Obj.cells.injEq] at hg'
   exact he hg'.2.1
theorem zad{w:World}{base:Nat}{e t:TypeId}{size:Nat}{v:Value}{n g:Nat}{xs:List Value}{cs:Array Value}{fr:Nat×Nat}(h:w.ownsRow base e size v n xs)(hg:w.heap[g]?=some (.cells cs t fr))(he:e≠t):some g≠v.ownBlock:=by
 rcases h.2 with⟨rfl,_⟩|⟨g',cap,cur,rfl,_,hg',_⟩
 ·simp[Value.ownBlock]
 ·
  intro hk
  simp only[Value.ownBlock,Option.some.injEq] at hk
  subst hk
  rw[hg] at hg'
  simp only[Option.some.injEq,Obj.cells.injEq] at hg'
  exact he hg'.2.1.symm
theorem zaY{w:World}{base:Nat}{e:TypeId}{size:Nat}{v:Value}{n:Nat}{xs:List Value}(h:w.ownsRow base e size v n xs):∃a cap,v=.slice a n cap:=by
 rcases h.2 with⟨rfl,h0⟩|⟨g,cap,_,hv,_⟩
 ·exact⟨none,0,by rw[h0]⟩
 ·exact⟨_,cap,hv⟩
theorem zam{w w':World}{row:Option Nat}(hg:w.grownBy w' row){g:Nat}{o:Obj}(h:w.heap[g]?=some o)(hne:some g≠row):w'.heap[g]?=some o:=
 (hg.block g (Array.getElem?_eq_some_iff.1 h).1 hne).trans h
theorem zac{B:Nat}{w w':World}(h:Below B w w'){g:Nat}{o:Obj}(hg:w.heap[g]?=some o)(hB:g<B):w'.heap[g]?=some o:=(h.block g hB).trans hg
theorem zaa{w:World}{g:Nat}{cs:Array Value}{t:TypeId}{fr:Nat×Nat}(h:w.heap[g]?=some (.cells cs t fr))(i:Nat):w.cell? ⟨g,i,none⟩=cs[i]?:=by simp[World.cell?,h]
theorem zab{w:World}{g:Nat}{cs:Array Value}{t:TypeId}(h:w.heap[g]?=some (.cells cs t (0,0)))(i:Nat):w.frozen? ⟨g,i,none⟩=false:=by simp[World.frozen?,h]
theorem zaf{w:World}{g i:Nat}{cs:Array Value}{t:TypeId}{fr:Nat×Nat}(h:w.heap[g]?=some (.cells cs t fr))(v:Value):(w.setCell ⟨g,i,none⟩ v).heap[g]?=some (.cells (cs.setIfInBounds i v) t fr):=Joins.block_setCell h v
theorem zah{w:World}{g k i:Nat}{o:Obj}(h:w.heap[k]?=some o)(hne:k≠g)(v:Value):(w.setCell ⟨g,i,none⟩ v).heap[k]?=some o:=(Below.heap_setCell w ⟨g,i,none⟩ v k hne).trans h
theorem zao{w:World}{base:Nat}{e:TypeId}{size:Nat}{v:Value}{n g i:Nat}{xs:List Value}(h:w.ownsRow base e size v n xs)(hne:some g≠v.ownBlock)(u:Value):(w.setCell ⟨g,i,none⟩ u).ownsRow base e size v n xs:=by
 obtain⟨h1,h2⟩:=h
 refine⟨h1,?_⟩
 rcases h2 with h2|⟨g',cap,cur,hv,hg,hh,r⟩
 ·exact Or.inl h2
 ·
  refine Or.inr ⟨g',cap,cur,hv,hg,?_,r⟩
  rw[Below.heap_setCell _ _ _ _ (by subst hv;intro hk;exact hne (by simp[Value.ownBlock,hk]))]
  exact hh
theorem below_grown{B:Nat}{a w w':World}{base:Nat}{e:TypeId}{size:Nat}{v:Value}{n:Nat}{xs:List Value}(h:Below B a w)(hown:w.ownsRow base e size v n xs)(hg:w.grownBy w' v.ownBlock)(hB:B≤w.heap.size)(hb:B≤base):Below B a w':=
 h.grown hg hB (fun k hk=>Nat.le_trans hb (hown.lt k hk).1)
/-! ### From the reading of an argument -/
def Fits{H:Type}(P:Program)(t:TypeId)(d:DataW H):Prop:=∀x∈d.weights P t,x≤reachBytes
section
variable {H:Type} {enc:TypeId × Value→H} {P:Program} {w:World} {held:Bool}
theorem zeC{ts:List TypeId}{ds:List (DataW H)}(h:(DataW.weightsEach P ts ds).all (·≤reachBytes)=true){j:Nat}{t:TypeId}{d:DataW H}(ht:ts[j]?=some t)(hd:ds[j]?=some d):Fits P t d:=by
 intro x hx
 have:=List.all_eq_true.1 h _ (DataW.weights_mem_each ht hd x hx)
 simpa using this
theorem zfV{t e:TypeId}{elems spare:List (DataW H)}(ht:P.underlying t=some (.slice e))(h:Fits P t (.slice elems spare)):(elems.length+spare.length)*P.bytesOf e≤reachBytes∧(∀d∈elems,Fits P e d):=by
 unfold Fits at h
 simp only[DataW.weights,ht] at h
 refine⟨h _ (List.mem_cons_self ..),fun d hd x hx=>h x (List.mem_cons_of_mem _ (List.mem_append_left _ ?_))⟩
 clear h
 induction elems with
 | nil=>cases hd
 | cons y ys ih=>
  simp only[DataW.weightsAll,List.mem_append]
  rcases List.mem_cons.1 hd with rfl|hd
  ·exact Or.inl hx
  ·exact Or.inr (ih hd)
theorem zeD{t:TypeId}{fs:Array Field}{parts:List (DataW H)}(ht:P.underlying t=some (.struct fs))(h:Fits P t (.agg parts)):∀(j:Nat) (f:Field) (d:DataW H),fs[j]?=some f→parts[j]?=some d→Fits P f.type d:=by
 intro j f d hf hd x hx
 refine h x ?_
 simp only[DataW.weights,ht]
 exact DataW.weights_mem_each (j:=j) (by simp[hf]) hd x hx
theorem zfj {α : Type} {t e : TypeId} (m bytes : Nat) (ht : P.underlying t = some (.slice e)) (hc : P.cellsOf e = 1) (hby : P.bytesOf e = bytes) (hmb : ∀ n, n * bytes ≤ reachBytes → n ≤ m) (R : Value → α → Prop)
  (hR:∀n v d p,DataW.trod enc P w 0 (fun _=>true) held n e [v]=some (d,p)→Fits P e d→∃x,R v x)
  {n:Nat} {v:Value} {d:DataW H} {p:List MemPlace} (h:DataW.trod enc P w 0 (fun _=>true) held n t [v]=some (d,p)) (hf:Fits P t d):∃xs,Sl1 m w.heap.size w R v xs:=by
 rcases open_slice1 ht hc h with⟨h0,_⟩|⟨a,len,cap,m',n',V,D,Pl,h0,_,hl,hm,hmm,hx,hel⟩
 ·
  injection h0 with h0 _
  subst h0
  exact⟨[],Sl1.nil _ _ _ _⟩
 ·
  injection h0 with h0 _
  subst h0
  simp only[if_true] at hmm
  injection hx with hd hp
  subst hd
  obtain⟨hw,hfe⟩:=zfV ht hf
  rw[hby] at hw
  have hlen:len≤m:=hmb _ (by
   refine Nat.le_trans (Nat.mul_le_mul_right _ ?_) hw
   simp)
  have hex:∀i,i<len→∃x,R (V i) x:=fun i hi=>hR _ _ _ _ (hel i (by omega)).2 (hfe _ (List.mem_map.2 ⟨i,by simpa using hi,rfl⟩))
  have hxs:∃xs:List α,xs.length=len∧∀i (h:i<xs.length),R (V i) xs[i]:=by
   clear hel hfe hw hf h hmm hlen hl
   induction len with
   | zero=>exact⟨[],rfl,fun i h=>absurd h (Nat.not_lt_zero _)⟩
   | succ k ih=>
    obtain⟨xs,h1,h2⟩:=ih (fun i hi=>hex i (by omega))
    obtain⟨x,hx⟩:=hex k (by omega)
    refine⟨xs++[x],by simp[h1],fun i hi=>?_⟩
    rw[List.getElem_append]
    split
    ·exact h2 i ‹_›
    ·
     have:i=k:=by simp at hi;omega
     subst this
     simpa using hx
  obtain⟨xs,h1,h2⟩:=hxs
  subst h1
  refine⟨xs,some a,cap,rfl,hlen,hl,fun i hi=>?_⟩
  have hc0:=(hel 0 (by omega)).1
  obtain⟨b,off,spot⟩:=a
  have hsp:spot=none:=by simpa[Addr.add] using World.cell?_spot hc0
  subst hsp
  have hci:=(hel i (by omega)).1
  rw[add_plain] at hci
  exact⟨b,off,V i,rfl,World.block_lt_of_cell? w _ hci,hci,h2 i hi⟩
theorem zby{e:TypeId}(he:P.underlying e=some (.int .i64)){n:Nat}{v:Value}{d:DataW H}{p:List MemPlace}(h:DataW.trod enc P w 0 (fun _=>true) held n e [v]=some (d,p)):∃z,IntV v z:=by
 obtain⟨a,e0,_,wa⟩:=DataW.trod_int he h
 simp only[List.cons.injEq,and_true] at e0
 refine⟨a,e0,?_⟩
 simp[Lit.wf,IntKind.min,IntKind.max,IntKind.signed,IntKind.bits] at wa
 unfold I64
 omega
theorem zfW {fs : Array Field} {t : TypeId} {cs : List Value} {n : Nat} {d : DataW H} {p : List MemPlace} (hs : P.underlying t = some (.struct fs)) (hone : oneCellFields P fs = true)
  (h:DataW.trod enc P w 0 (fun _=>true) held n t cs=some (d,p)) (hf:Fits P t d):
  cs.length=P.cellsOf t∧∃k,∀(i:Nat) (f:Field),fs[i]?=some f→∃d' p',DataW.trod enc P w 0 (fun _=>true) held k f.type ((cs.drop i).take 1)=some (d',p')∧Fits P f.type d':=by
 obtain⟨xs,k,_,hx,hl,hxl,hfs⟩:=DataW.trod_struct hs h
 refine⟨hl,k,fun i f hi=>?_⟩
 obtain⟨o,c⟩:=hone_of hone i f hi
 have h1:=hfs i f hi
 rw[o,c] at h1
 have hlt:i<xs.length:=by rw[hxl];exact(Array.getElem?_eq_some_iff.1 hi).1
 rw[List.getElem?_eq_getElem hlt] at h1
 simp only[Prod.mk.injEq] at hx
 refine⟨xs[i].1,xs[i].2,h1,?_⟩
 rw[hx.1] at hf
 exact zeD hs hf i f xs[i].1 hi (by simp[hlt])
theorem zfk {fs : Array Field} {t : TypeId} {r : Reach} {b0 : Nat} {v : Value} {d : DataW H} {p : List MemPlace} (hs : P.underlying t = some (.struct fs)) (hone : oneCellFields P fs = true)
  (hv:Value.okWide P w r b0 t v) (h:DataW.Trod enc P w 0 (fun _=>true) held t v d p) (hf:Fits P t d):
  ∃cs:List Value,v=.agg cs.toArray∧cs.length=P.cellsOf t∧∃k,∀(i:Nat) (f:Field),fs[i]?=some f→∃d' p',DataW.trod enc P w 0 (fun _=>true) held k f.type ((cs.drop i).take 1)=some (d',p')∧Fits P f.type d':=by
 obtain⟨cs,rfl,hsz⟩:=okWide_struct hs hv
 obtain⟨n,hn⟩:=h
 have h2:=zfW hs hone hn hf
 exact⟨cs.toList,by simp,h2.1,h2.2⟩
theorem len3{α:Type}{l:List α}(h:l.length=3):∃a b c,l=[a,b,c]:=by
 match l,h with
 | [a,b,c],_=>exact⟨a,b,c,rfl⟩
theorem len4{α:Type}{l:List α}(h:l.length=4):∃a b c d,l=[a,b,c,d]:=by
 match l,h with
 | [a,b,c,d],_=>exact⟨a,b,c,d,rfl⟩
end
theorem zaz{w:World}{g:Nat}{c0 c1 c2 c3 c4 c5 c6 c7 c8 c9 c10 c11:Value}{t:TypeId}{fr:Nat×Nat}(h:w.heap[g]?=some (.cells #[c0,c1,c2,c3,c4,c5,c6,c7,c8,c9,c10,c11] t fr)):w.cell? ⟨g,0,none⟩=some c0∧w.cell? ⟨g,1,none⟩=some c1∧w.cell? ⟨g,2,none⟩=some c2∧w.cell? ⟨g,3,none⟩=some c3∧w.cell? ⟨g,4,none⟩=some c4∧w.cell? ⟨g,5,none⟩=some c5∧w.cell? ⟨g,6,none⟩=some c6∧w.cell? ⟨g,7,none⟩=some c7∧w.cell? ⟨g,8,none⟩=some c8∧w.cell? ⟨g,9,none⟩=some c9∧w.cell? ⟨g,10,none⟩=some c10∧w.cell? ⟨g,11,none⟩=some c11:=
 ⟨zaa h 0,zaa h 1,zaa h 2,zaa h 3,zaa h 4,zaa h 5,zaa h 6,zaa h 7,zaa h 8,zaa h 9,zaa h 10,zaa h 11⟩
theorem zaA{w:World}{g:Nat}{c0 c1 c2 c3 c4 c5 c6 c7 c8 c9 c10 c11 c12:Value}{t:TypeId}{fr:Nat×Nat}(h:w.heap[g]?=some (.cells #[c0,c1,c2,c3,c4,c5,c6,c7,c8,c9,c10,c11,c12] t fr)):w.cell? ⟨g,0,none⟩=some c0∧w.cell? ⟨g,1,none⟩=some c1∧w.cell? ⟨g,2,none⟩=some c2∧w.cell? ⟨g,3,none⟩=some c3∧w.cell? ⟨g,4,none⟩=some c4∧w.cell? ⟨g,5,none⟩=some c5∧w.cell? ⟨g,6,none⟩=some c6∧w.cell? ⟨g,7,none⟩=some c7∧w.cell? ⟨g,8,none⟩=some c8∧w.cell? ⟨g,9,none⟩=some c9∧w.cell? ⟨g,10,none⟩=some c10∧w.cell? ⟨g,11,none⟩=some c11:=
 ⟨zaa h 0,zaa h 1,zaa h 2,zaa h 3,zaa h 4,zaa h 5,zaa h 6,zaa h 7,zaa h 8,zaa h 9,zaa h 10,zaa h 11⟩
theorem Tryd.cells3:Tryd.prog.cellsOf 3=1:=by kernel_rfl
theorem Tryd.bytes3:Tryd.prog.bytesOf 3=8:=by kernel_rfl
section
variable {H:Type} {enc:TypeId × Value→H} {w:World} {held:Bool}
theorem zkk(n:Nat)(h:n*8≤reachBytes):n≤17592186043904:=by unfold reachBytes at h;omega
theorem zkl(n:Nat)(h:n*1≤reachBytes):n≤140737488351232:=by unfold reachBytes at h;omega
theorem zda{n:Nat}{v:Value}{d:DataW H}{p:List MemPlace}(h:DataW.trod enc Tryd.prog w 0 (fun _=>true) held n 24 [v]=some (d,p))(hf:Fits Tryd.prog 24 d):∃zs,Ints w.heap.size w v zs:=
 zfj 17592186043904 8 Tryd.underlying24 Tryd.cells3 Tryd.bytes3 zkk IntV (fun _ _ _ _ h _=>zby Tryd.underlying3 h) h hf
def FramesR(B:Nat)(w:World)(v:Value)(rs:List (List Int))(zs:List Int):Prop:=∃vd vr,v=.agg #[vd,vr]∧RowsR B w vd rs∧Ints B w vr zs
def zjd(v:Value)(a b c:Int):Prop:=v=.agg #[.int .i64 a,.int .i64 b,.int .i64 c]∧I64 a∧I64 b∧I64 c
theorem zeE{r:Reach}{b0:Nat}{v:Value}{d:DataW H}{p:List MemPlace}(ok:Value.okWide Tryd.prog w r b0 23 v)(h:DataW.Trod enc Tryd.prog w 0 (fun _=>true) held 23 v d p)(hf:Fits Tryd.prog 23 d):∃a b c,zjd v a b c:=by
 obtain⟨cs,rfl,hl,k,hk⟩:=zfk Tryd.underlying23 (by kernel_rfl) ok h hf
 obtain⟨c0,c1,c2,rfl⟩:=len3 (hl.trans (by kernel_rfl))
 obtain⟨d0,p0,h0,f0⟩:=hk 0 _ rfl
 obtain⟨d1,p1,h1,f1⟩:=hk 1 _ rfl
 obtain⟨d2,p2,h2,f2⟩:=hk 2 _ rfl
 obtain⟨z0,rfl,g0⟩:=zby Tryd.underlying3 h0
 obtain⟨z1,rfl,g1⟩:=zby Tryd.underlying3 h1
 obtain⟨z2,rfl,g2⟩:=zby Tryd.underlying3 h2
 exact⟨z0,z1,z2,rfl,g0,g1,g2⟩
end
theorem zaZ{a b:Bool}(h:a=b):Ending.returned (.bool a)=.returned (.bool b):=by rw[h]
theorem zbd{k:IntKind}{a b:Int}(h:a=b):Ending.returned (.int k a)=.returned (.int k b):=by rw[h]
def inB(n lo hi:Int):Bool:=decide (lo≤n) && decide (n≤hi)
theorem zik{n lo hi:Int}(h:lo≤n∧n≤hi):inB n lo hi=true:=by simp[inB,h]
theorem zgF{n lo hi:Int}(h:¬(lo≤n∧n≤hi)):inB n lo hi=false:=by
 unfold inB
 rw[Bool.and_eq_false_iff,decide_eq_false_iff_not,decide_eq_false_iff_not]
 omega
theorem za0(n lo hi:Int)(w:World)(h:lo≤n∧n≤hi):Calls Tryd.prog 13 #[.int .i64 n,.int .i64 lo,.int .i64 hi] w fun e w'=>e=.returned (.bool true)∧w=w':=by
 obtain⟨h1,h2⟩:=h
 go_enter Tryd.func13,Tryd.ntmps13
 go_wp2
 go_ret
 simp_all
theorem zcw(n lo hi:Int)(w:World)(h:¬(lo≤n∧n≤hi)):Calls Tryd.prog 13 #[.int .i64 n,.int .i64 lo,.int .i64 hi] w fun e w'=>e=.returned (.bool false)∧w=w':=by
 by_cases h1:lo≤n
 ·
  have h2:¬n≤hi:=fun h2=>h ⟨h1,h2⟩
  clear h
  go_enter Tryd.func13,Tryd.ntmps13
  go_wp2
  go_ret
  simp_all
 ·
  clear h
  go_enter Tryd.func13,Tryd.ntmps13
  go_wp2
  go_ret
  simp_all
theorem zjv(n lo hi:Int)(w:World):Calls Tryd.prog 13 #[.int .i64 n,.int .i64 lo,.int .i64 hi] w fun e w'=>(e=.returned (.bool true)∧w=w'∧lo≤n∧n≤hi)∨(e=.returned (.bool false)∧w=w'∧(n<lo∨hi<n)):=by
 by_cases h:lo≤n∧n≤hi
 ·exact(za0 n lo hi w h).mono fun _ _ ⟨a,b⟩=>Or.inl ⟨a,b,h⟩
 ·exact(zcw n lo hi w h).mono fun _ _ ⟨a,b⟩=>Or.inr ⟨a,b,by omega⟩
theorem zkm(n lo hi:Int)(w:World):Calls Tryd.prog 13 #[.int .i64 n,.int .i64 lo,.int .i64 hi] w fun e w'=>e=.returned (.bool (inB n lo hi))∧w=w':=by
 by_cases h:lo≤n∧n≤hi
 ·rw[zik h];exact za0 n lo hi w h
 ·rw[zgF h];exact zcw n lo hi w h
def zay(n:Nat):Array Value:=madeCells #[.int .i64 0] n
theorem zds(n:Nat):(zay n).size=n:=size_madeCells _ _
theorem zbX(n:Nat):(zay n).toList=List.replicate n (.int .i64 0):=toList_madeCells_one _ _
def zcE(n:Nat):Array Value:=madeCells #[.slice none 0 0] n
theorem zdO(n:Nat):(zcE n).size=n:=size_madeCells _ _
theorem zdP(n:Nat):(zcE n).toList=List.replicate n (.slice none 0 0):=toList_madeCells_one _ _
theorem zbh:(Tryd.prog.info? 3).map (fun i=>(i.zero,i.size,i.bytes))=some (some (.int .i64 0),1,8):=by kernel_rfl
theorem zdQ:(Tryd.prog.info? 24).map (fun i=>(i.zero,i.size,i.bytes))=some (some (.slice none 0 0),1,24):=by kernel_rfl
theorem zcF(n:Int)(h0:0≤n)(h1:n≤1000000)(w:World):(Instr.makeSlice 24 (.int .i64 n) (.int .i64 n)).run Tryd.prog w=.ok (.slice (some ⟨w.heap.size,0,none⟩) n.toNat n.toNat) (w.alloc (.cells (zay n.toNat) 3)):=by
 obtain⟨i0,hi,hz0,hz1,hz2⟩:=info_parts zbh
 have h:=run_make (P:=Tryd.prog) w 24 3 i0 (.int .i64 0) Tryd.underlying24 hi hz0 .i64 .i64 n n h0 (Int.le_refl _) (by rw[hz2];omega) (by omega)
 rw[h,hz1,Nat.mul_one]
 rfl
theorem zjw(n:Int)(h0:0≤n)(h1:n≤1000000)(w:World):(Instr.makeSlice 58 (.int .i64 n) (.int .i64 n)).run Tryd.prog w=.ok (.slice (some ⟨w.heap.size,0,none⟩) n.toNat n.toNat) (w.alloc (.cells (zcE n.toNat) 24)):=by
 obtain⟨i0,hi,hz0,hz1,hz2⟩:=info_parts zdQ
 have h:=run_make (P:=Tryd.prog) w 58 24 i0 (.slice none 0 0) Tryd.underlying58 hi hz0 .i64 .i64 n n h0 (Int.le_refl _) (by rw[hz2];omega) (by omega)
 rw[h,hz1,Nat.mul_one]
 rfl
theorem zbz {B : Nat} (v1 v2 : Value) (zs : List Int) (w : World) (h1 : Ints B w v1 zs) (h2 : Ints B w v2 zs) :
  Calls Tryd.prog 29 #[v1,v2] w fun e w'=>e=.returned (.bool true)∧∃n,w'=w.drewN n:=by
 obtain⟨a,c,rfl,hl,_,hc⟩:=h1
 obtain⟨a',c',rfl,_,_,hc'⟩:=h2
 have Hc:=Lib.hid hc
 have Hc':=Lib.hid hc'
 clear hc hc'
 go_enter Tryd.func29,Tryd.ntmps29
 go_wp2
 go_loopw [5] (fun i wr =>∃k:Nat,k≤zs.length∧i=.int .i64 k∧∃n,wr=w.drewN n) (fun i _=>zs.length-(intOf i).toNat)
 case atStart=>exact⟨0,Nat.zero_le _,rfl,0,rfl⟩
 case round=>
  obtain⟨k,hk,rfl,n,rfl⟩:=hrel
  by_cases hlt:k<zs.length
  ·
   obtain⟨b,off,vi,ha,hb,hcell,hvi,hz⟩:=Hc.out k hlt
   obtain⟨b',off',vi',ha',hb',hcell',hvi',hz'⟩:=Hc'.out k hlt
   subst ha ha' hvi hvi'
   generalize hzz:zs[k]=z at *
   clear hz hz' hzz Hc Hc'
   go_wp2
   go_quiet (fail)
   go_wp2
   go_roundw
   case rel=>exact⟨k+1,by omega,by go_num,_,rfl⟩
   case measure=>simp[intOf];omega
  ·
   go_wp2
   go_ret
   exact⟨rfl,n,rfl⟩
end Go.Proofs.YtflonfcemlfbdaaDoor
namespace Go.Proofs.YtflonfcemlfbdaaDoor
open Go Go.RowKit
theorem zbY(a:Int):(BitVec.ofInt 64 a).toNat=(a%18446744073709551616).toNat:=by
 rw[BitVec.toNat_ofInt];rfl
theorem zfl{n:Nat}(h:n ∣ 18446744073709551616):(n:Int) ∣ 18446744073709551616:=by
 obtain⟨q,hq⟩:=h
 exact⟨(q:Int),by rw[←Int.natCast_mul,←hq];rfl⟩
theorem zbi(i m:Nat)(hi:i<63)(hm:m=2 ^ i-1)(a:Int):bits .and .i64 a (m:Int)=a%(2 ^ i:Nat):=by
 have hp:2 ^ i<9223372036854775808:=by
  calc 2 ^ i≤2 ^ 62:=Nat.pow_le_pow_right (by decide) (by omega)
   _<9223372036854775808:=by decide
 have hpos:0<2 ^ i:=Nat.two_pow_pos i
 have hdvd:(2 ^ i:Nat) ∣ 18446744073709551616:=by
  have:(18446744073709551616:Nat)=2 ^ 64:=by decide
  rw[this]
  exact Nat.pow_dvd_pow 2 (by omega)
 show IntKind.i64.wrap ((BitVec.ofInt 64 a &&& BitVec.ofInt 64 (m:Int)).toNat:Int)=_
 rw[BitVec.toNat_and,zbY,zbY,IntKind.wrap_i64]
 have e1:((m:Int)%18446744073709551616).toNat=2 ^ i-1:=by omega
 rw[e1,Nat.and_two_pow_sub_one_eq_mod]
 have e2:((((a%18446744073709551616).toNat%2 ^ i:Nat)):Int)=a%(2 ^ i:Nat):=by
  rw[Int.natCast_emod,Int.toNat_of_nonneg (by omega)]
  exact Int.emod_emod_of_dvd a (zfl hdvd)
 rw[e2]
 have h1:0≤a%(2 ^ i:Nat):=Int.emod_nonneg _ (by omega)
 have h2:a%(2 ^ i:Nat)<(2 ^ i:Nat):=Int.emod_lt_of_pos _ (by exact_mod_cast hpos)
 generalize a%(2 ^ i:Nat)=q at *
 omega
theorem zgG(a:Int):bits .and .i64 a 15=a%16:=zbi 4 15 (by decide) (by decide) a
theorem zfm(a:Int):bits .and .i64 a 7=a%8:=zbi 3 7 (by decide) (by decide) a
theorem zil(a:Int):bits .and .i64 a 1=a%2:=zbi 1 1 (by decide) (by decide) a
theorem i64_and127(a:Int):bits .and .i64 a 127=a%128:=zbi 7 127 (by decide) (by decide) a
theorem zaC(i:Nat)(hi:i<63)(x y:Int)(hx:x%(2 ^ i:Nat)=0)(hx1:I64 x)(hy:0≤y)(hy1:y<(2 ^ i:Nat)):bits .or .i64 x y=x+y:=by
 obtain⟨b1,b2⟩:=hx1
 have hp:2 ^ i<9223372036854775808:=by
  calc 2 ^ i≤2 ^ 62:=Nat.pow_le_pow_right (by decide) (by omega)
   _<9223372036854775808:=by decide
 have hpos:0<2 ^ i:=Nat.two_pow_pos i
 have hdvd:(2 ^ i:Nat) ∣ 18446744073709551616:=by
  have:(18446744073709551616:Nat)=2 ^ 64:=by decide
  rw[this]
  exact Nat.pow_dvd_pow 2 (by omega)
 show IntKind.i64.wrap ((BitVec.ofInt 64 x ||| BitVec.ofInt 64 y).toNat:Int)=_
 rw[BitVec.toNat_or,zbY,zbY,IntKind.wrap_i64]
 have ey:(y%18446744073709551616).toNat<2 ^ i:=by omega
 have ex:(x%18446744073709551616).toNat%2 ^ i=0:=by
  have:(((x%18446744073709551616).toNat%2 ^ i:Nat):Int)=0:=by
   rw[Int.natCast_emod,Int.toNat_of_nonneg (by omega),Int.emod_emod_of_dvd x (zfl hdvd)]
   exact hx
  omega
 rw[nat_join i _ _ ex ey]
 have hle:x+y≤9223372036854775807:=by
  obtain⟨q,hq⟩:∃q,x=(2 ^ i:Nat)*q:=⟨x/(2 ^ i:Nat),by have:=Int.mul_ediv_add_emod x (2 ^ i:Nat);omega⟩
  obtain⟨r,hr⟩:∃r:Nat,(9223372036854775808:Nat)=2 ^ i*r:=by
   have:(9223372036854775808:Nat)=2 ^ 63:=by decide
   rw[this]
   exact Nat.pow_dvd_pow 2 (by omega)
  have hr':(9223372036854775808:Int)=(2 ^ i:Nat)*(r:Int):=by rw[←Int.natCast_mul,←hr];rfl
  have hpos':(0:Int)<(2 ^ i:Nat):=by exact_mod_cast hpos
  have hqr:q<r:=by
   have:((2 ^ i:Nat):Int)*q<(2 ^ i:Nat)*r:=by rw[←hq,←hr'];omega
   exact Int.lt_of_mul_lt_mul_left this (by omega)
  have h3:((2 ^ i:Nat):Int)*(q+1)≤(2 ^ i:Nat)*r:=Int.mul_le_mul_of_nonneg_left (by omega) (by omega)
  rw[Int.mul_add,Int.mul_one,←hq,←hr'] at h3
  omega
 omega
theorem zba{x:Int}(h:-9223372036854775808≤x∧x≤9223372036854775807):wrap64 x=x:=by unfold wrap64;omega
end Go.Proofs.YtflonfcemlfbdaaDoor
