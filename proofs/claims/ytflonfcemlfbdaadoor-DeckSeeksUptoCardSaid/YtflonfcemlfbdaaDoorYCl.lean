/- Several texts joined, each with its own heading in the notes: Contracts of slices. append of whatever slice of one-cell elements onto what the call owns. The contract of cpu. No condition beyond those of each row. -/
import Derived.Test.YtflonfcemlfbdaaDoorYMem
import Derived.Deep.AppendLies
import Derived.Laws.OwnMore
namespace Go.Proofs.YtflonfcemlfbdaaDoor
open Go Go.RowKit Go.ChangeShapes Go.WideShapes Go.Deep
set_option maxHeartbeats 1000000
set_option maxRecDepth 100000
set_option linter.unusedVariables false
def SlV(m B:Nat)(w:World)(v:Value)(vs:List Value):Prop:=Sl1 m B w (fun v x=>v=x) v vs
theorem Ints.vals{B:Nat}{w:World}{v:Value}{zs:List Int}(h:Ints B w v zs):SlV 17592186043904 B w v (zs.map (Value.int .i64)):=by
 obtain⟨a,cap,rfl,hl,hl2,hc⟩:=h
 refine⟨a,cap,by simp,by simpa using hl,by simpa using hl2,fun i hi=>?_⟩
 obtain⟨b,off,vi,ha,hb,hcell,hv,_⟩:=hc i (by simpa using hi)
 exact⟨b,off,vi,ha,hb,hcell,by rw[hv];simp⟩
def zdt(t:TypeId)(w:World)(vs:List Value)(e:Ending)(w':World):Prop:=∃v,e=.returned v∧w'.ownsRow w.heap.size t 1 v vs.length vs∧Below w.heap.size w w'
theorem zcq {P : Program} (w : World) {ops : Array Oper} {rest : List Oper} {o : Oper} {a : Act} {Q : Exit → Act → World → Prop} (hgd : o.guard = none) (s x : Operand) (t : TypeId)
  (ho:o.op=.call {callee:=.builtin .append,args:=#[s,x],argTypes:=#[t,t]})
  (e:TypeId) (z:Value) (m bytes B:Nat) (ht:P.underlying t=some (.slice e)) (hi:(P.info? e).map (fun i=>(i.zero,i.size,i.bytes))=some (some z,1,bytes)) (hzs:z.cells.size=1)
  (ad:Addr) (n c:Nat) (vs:List Value) (hB:B=w.heap.size) (hv:SlV m B w (.slice (some ad) n c) vs) (hone:∀u∈vs,u.oneCell'=true) (hmb:m*bytes≤140737488355328) (hm:m≤140737488355328)
  {H:Nat} (hs:a.eval s=.slice (some ⟨H,0,none⟩) 0 0) (hH:w.heap.size=H) (hx:a.eval x=.slice (some ad) n c)
  (h:∀v' w',w'.ownsRow w.heap.size e 1 v' vs.length vs→Below w.heap.size w w'→(∃a c,v'=.slice a vs.length c)→wpList P ops Q rest (a.put o.dst v') w'):
  wpList P ops Q (o::rest) a (w.alloc (.cells #[] e)):=by
 subst hH hB
 obtain⟨i0,hi0,hz0,hz1,hz2⟩:=info_parts hi
 obtain⟨a',cap',hv',hl,hl2,hc⟩:=hv
 injection hv' with h1 h2 h3
 subst h2
 have hmono:vs.length*bytes≤m*bytes:=Nat.mul_le_mul_right _ hl
 refine wpList_append_own (w:=w.alloc (.cells #[] e)) hgd s x t ho w.heap.size e i0 z 1 bytes ht hi0 hz0 hz1 hz2 hzs (by decide) _ 0 [] hs (World.ownsRow_made w #[] 0 (Nat.le_refl _) (by unfold maxLen;omega) (by simp)) ad vs.length c vs hx (by omega) ?_ hone (by unfold maxLen;omega) (by rw[Nat.zero_add];omega) (by simp) ?_
 ·
  intro j u hj
  have hjl:j<vs.length:=by
   rcases Nat.lt_or_ge j vs.length with hh|hh
   ·exact hh
   ·rw[List.getElem?_eq_none hh] at hj;cases hj
  obtain⟨b,off,vi,ha,hb,hcell,hvi⟩:=hc j hjl
  rw[←h1] at ha
  injection ha with ha
  subst ha
  rw[add_plain,zaw w _ _ _ hb,hcell,hvi,←hj,List.getElem?_eq_getElem hjl]
 ·
  intro v' w' k1 k2 _
  simp only[Nat.zero_add,List.nil_append] at k1
  refine h v' w' k1 ?_ (zaY k1)
  have hb:Below w.heap.size (w.alloc (.cells #[] e)) w':=(Below.refl _ _).grown k2 (by simp) (fun k hk=>by simp[Value.ownBlock] at hk;omega)
  exact(zai w _).trans hb
theorem zfX(v:Value)(vs:List Value)(w:World)(hv:SlV 17592186043904 w.heap.size w v vs)(hone:∀u∈vs,u.oneCell'=true):Calls Tryd.prog 38 #[v] w (zdt 3 w vs):=by
 obtain⟨a,cap,rfl,hl,hl2,hc⟩:=id hv
 have HV:=Lib.hid hv
 have HO:=Lib.hid hone
 clear hv hone
 cases a with
 | none=>
  have h0:vs.length=0:=by
   rcases Nat.eq_zero_or_pos vs.length with h|h
   ·exact h
   ·obtain⟨_,_,_,hh,_⟩:=hc 0 h;cases hh
  have hn:=zc9 (P:=Tryd.prog) Tryd.underlying24 vs.length cap
  clear hc
  have H0:=Lib.hid h0
  clear h0
  go_enter Tryd.func38,Tryd.ntmps38
  go_wp2
  go_ret
  refine⟨_,rfl,?_,Below.refl _ _⟩
  have h0:=H0.out
  have e0:vs=[]:=List.eq_nil_of_length_eq_zero h0
  subst e0
  exact World.ownsRow_nil _ _ _ _
 | some ad=>
  have hn:=zc8 (P:=Tryd.prog) Tryd.underlying24 ad vs.length cap
  clear hc
  go_enter Tryd.func38,Tryd.ntmps38
  go_wp2_with (at_builtin;refine zcq w rfl (.tmp 5) (.tmp 6) 24 rfl 3 (.int .i64 0) 17592186043904 8 w.heap.size Tryd.underlying24 zbh rfl ad _ _ vs rfl HV.out HO.out (by omega) (by omega) rfl rfl rfl ?_;intro v1 w1 hown1 hb1 hsh;obtain⟨a1,c1,hv1⟩:=hsh;subst hv1)
  go_ret
  exact⟨_,rfl,hown1,hb1⟩
theorem zfY(v:Value)(vs:List Value)(w:World)(hv:SlV 5864062014634 w.heap.size w v vs)(hone:∀u∈vs,u.oneCell'=true):Calls Tryd.prog 82 #[v] w (zdt 24 w vs):=by
 obtain⟨a,cap,rfl,hl,hl2,hc⟩:=id hv
 have HV:=Lib.hid hv
 have HO:=Lib.hid hone
 clear hv hone
 cases a with
 | none=>
  have h0:vs.length=0:=by
   rcases Nat.eq_zero_or_pos vs.length with h|h
   ·exact h
   ·obtain⟨_,_,_,hh,_⟩:=hc 0 h;cases hh
  have hn:=zc9 (P:=Tryd.prog) Tryd.underlying58 vs.length cap
  clear hc
  have H0:=Lib.hid h0
  clear h0
  go_enter Tryd.func82,Tryd.ntmps82
  go_wp2
  go_ret
  refine⟨_,rfl,?_,Below.refl _ _⟩
  have h0:=H0.out
  have e0:vs=[]:=List.eq_nil_of_length_eq_zero h0
  subst e0
  exact World.ownsRow_nil _ _ _ _
 | some ad=>
  have hn:=zc8 (P:=Tryd.prog) Tryd.underlying58 ad vs.length cap
  clear hc
  go_enter Tryd.func82,Tryd.ntmps82
  go_wp2_with (at_builtin;refine zcq w rfl (.tmp 5) (.tmp 6) 58 rfl 24 (.slice none 0 0) 5864062014634 24 w.heap.size Tryd.underlying58 zdQ rfl ad _ _ vs rfl HV.out HO.out (by omega) (by omega) rfl rfl rfl ?_;intro v1 w1 hown1 hb1 hsh;obtain⟨a1,c1,hv1⟩:=hsh;subst hv1)
  go_ret
  exact⟨_,rfl,hown1,hb1⟩
theorem zdu{zs:List Int}{k:Nat}(h:k<zs.length):(zs.take k).map (Value.int .i64)++[.int .i64 zs[k]]=(zs.take (k+1)).map (Value.int .i64):=by
 rw[List.take_succ_eq_append_getElem h,List.map_append]
 rfl
theorem zgH(v:Value)(zs:List Int)(w:World)(h:Ints w.heap.size w v zs):Calls Tryd.prog 28 #[v] w (zdt 3 w (zs.map (Value.int .i64))):=by
 obtain⟨a,cap,rfl,hl,_,hc⟩:=h
 have Hc:=Lib.hid hc
 clear hc
 go_enter Tryd.func28,Tryd.ntmps28
 go_wp2
 go_loopw [3,4] (fun v i wr =>∃k:Nat,k≤zs.length∧i=.int .i64 k∧wr.ownsRow w.heap.size 3 1 v k ((zs.take k).map (Value.int .i64))∧Below w.heap.size w wr) (fun _ i _=>zs.length-(intOf i).toNat)
 case atStart=>exact⟨0,Nat.zero_le _,rfl,World.ownsRow_nil _ _ _ _,Below.refl _ _⟩
 case round=>
  obtain⟨k,hk,rfl,hown,hbel⟩:=hrel
  have hsz:=hbel.size
  by_cases hlt:k<zs.length
  ·
   obtain⟨b,off,vi,ha,hb,hcell,hvi,hz⟩:=Hc.out k hlt
   subst ha hvi
   rw[←zae hbel b _ hb] at hcell
   have Htk:=Lib.hid (zdu hlt)
   obtain⟨hz1,hz2⟩:=hz
   generalize zs[k]=z at *
   go_wp2_with (at_builtin;refine za4 wr rfl (.tmp 11) (.tmp 16) 24 rfl w.heap.size 3 (.int .i64 0) 1 8 Tryd.underlying24 zbh rfl (by decide) [.int .i64 z] rfl (by simp[Value.oneCell']) _ _ _ rfl hown rfl rfl (by omega) (by omega) (by omega) ?_;intro g1 cp1 w1 hown1 hgrow1)
   rw[Htk.out] at hown1
   have hB1:=below_grown hbel hown hgrow1 hsz (Nat.le_refl _)
   go_roundw
   case rel=>exact⟨k+1,by omega,by go_num,hown1,hB1⟩
   case measure=>simp[intOf];omega
  ·
   obtain rfl:k=zs.length:=by omega
   rw[List.take_length] at hown
   go_wp2
   go_ret
   exact⟨_,rfl,by rw[List.length_map];exact hown,hbel⟩
def zeF(w:World)(zs:List Int)(e:Ending)(w':World):Prop:=∃a c,e=.returned (.slice a zs.length c)∧w'.ownsRow w.heap.size 3 1 (.slice a zs.length c) zs.length (zs.map (Value.int .i64))∧Below w.heap.size w w'
theorem zfn{w:World}{zs:List Int}{e:Ending}{w':World}(h:zdt 3 w (zs.map (Value.int .i64)) e w'):zeF w zs e w':=by
 obtain⟨v,rfl,hown,hb⟩:=h
 rw[List.length_map] at hown
 obtain⟨a,c,rfl⟩:=zaY hown
 exact⟨a,c,rfl,hown,hb⟩
theorem zdv(zs:List Int):∀u∈zs.map (Value.int .i64),u.oneCell'=true:=by
 intro u hu
 obtain⟨z,_,rfl⟩:=List.mem_map.1 hu
 rfl
theorem zbl(v:Value)(zs:List Int)(w:World)(h:Ints w.heap.size w v zs):Calls Tryd.prog 38 #[v] w (zeF w zs):=
 (zfX v _ w h.vals (zdv zs)).mono fun _ _ h=>zfn h
theorem zbJ(v:Value)(zs:List Int)(w:World)(h:Ints w.heap.size w v zs):Calls Tryd.prog 28 #[v] w (zeF w zs):=
 (zgH v zs w h).mono fun _ _ h=>zfn h
theorem zdw {P : Program} {w : World} (base : Nat) (t ty e : TypeId) (i : TypeInfo) (size : Nat) (ht : P.underlying t = some (.slice e)) (hi : P.info? e = some i)
  (v:Value) (n:Nat) (xs:List Value) (hown:w.ownsRow base e size v n xs) (c:Nat):(Builtin.append_ #[t,t] ty #[v,.slice none 0 c]).run P w=.ok v w:=by
 rcases hown.2 with⟨rfl,rfl⟩|⟨g,cap,cur,rfl,_,_,hnc,_⟩
 ·simp[Builtin.append_,run_underlying ht,sizeOf,typeInfo,hi,Builtin.lenOf,Builtin.firstCells]
 ·simp[Builtin.append_,run_underlying ht,sizeOf,typeInfo,hi,Builtin.lenOf,Builtin.firstCells,hnc,storeCells]
theorem zbT {P : Program} (w : World) (t ty : TypeId) (base : Nat) (e : TypeId) (z : Value) (bytes : Nat) (ht : P.underlying t = some (.slice e)) (hi : (P.info? e).map (fun i => (i.zero, i.size, i.bytes)) = some (some z, 1, bytes)) (hzs : z.cells.size = 1)
  (v:Value) (n:Nat) (xs:List Value) (hown:w.ownsRow base e 1 v n xs) (x:Value) (m B:Nat) (news:List Value) (hx:SlV m B w x news) (hone:∀u∈news,u.oneCell'=true)
  (hmax:n+news.length≤maxLen) (hbytes:(n+news.length)*bytes≤140737488355328) (hbase:base≤w.heap.size):
  ∃v' w',(Builtin.append_ #[t,t] ty #[v,x]).run P w=.ok v' w'∧w'.ownsRow base e 1 v' (n+news.length) (xs++news)∧w.grownBy w' v.ownBlock∧(v'.ownBlock=v.ownBlock∨v'.ownBlock=some w.heap.size):=by
 obtain⟨i0,hi0,hz0,hz1,hz2⟩:=info_parts hi
 obtain⟨a,cap,rfl,hl,hl2,hc⟩:=hx
 cases a with
 | none=>
  have h0:news.length=0:=by
   rcases Nat.eq_zero_or_pos news.length with h|h
   ·exact h
   ·obtain⟨_,_,_,hh,_⟩:=hc 0 h;cases hh
  have e0:news=[]:=List.eq_nil_of_length_eq_zero h0
  subst e0
  exact⟨v,w,zdw base t ty e i0 1 ht hi0 v n xs hown cap,by simpa using hown,World.grownBy.refl _ _,Or.inl rfl⟩
 | some ad=>
  obtain⟨v',w',hr,h2,h3,_,h5⟩:=run_append_own_at (P:=P) w base t ty e i0 z 1 bytes ht hi0 hz0 hz1 hz2 hzs (by decide) v n xs hown ad news.length cap news (by omega) (by
   intro j u hj
   have hjl:j<news.length:=by
    rcases Nat.lt_or_ge j news.length with hh|hh
    ·exact hh
    ·rw[List.getElem?_eq_none hh] at hj;cases hj
   obtain⟨b,off,vi,ha,hb,hcell,hvi⟩:=hc j hjl
   injection ha with ha
   subst ha
   rw[add_plain,hcell,hvi,←hj,List.getElem?_eq_getElem hjl]) hone hmax hbytes hbase
  exact⟨v',w',hr,h2,h3,h5⟩
theorem zbm {P : Program} (w : World) {ops : Array Oper} {rest : List Oper} {o : Oper} {a : Act} {Q : Exit → Act → World → Prop} (hgd : o.guard = none) (s x : Operand) (t : TypeId)
  (ho:o.op=.call {callee:=.builtin .append,args:=#[s,x],argTypes:=#[t,t]})
  (base:Nat) (e:TypeId) (z:Value) (bytes:Nat) (ht:P.underlying t=some (.slice e)) (hi:(P.info? e).map (fun i=>(i.zero,i.size,i.bytes))=some (some z,1,bytes)) (hzs:z.cells.size=1)
  (v:Value) (n:Nat) (xs:List Value) (hs:a.eval s=v) (hown:w.ownsRow base e 1 v n xs) (vx:Value) (m B:Nat) (news:List Value) (hxe:a.eval x=vx) (hx:SlV m B w vx news) (hone:∀u∈news,u.oneCell'=true)
  (hmax:n+news.length≤maxLen) (hbytes:(n+news.length)*bytes≤140737488355328) (hbase:base≤w.heap.size)
  (h:∀a' c' w',w'.ownsRow base e 1 (.slice a' (n+news.length) c') (n+news.length) (xs++news)→w.grownBy w' v.ownBlock→((Value.slice a' (n+news.length) c').ownBlock=v.ownBlock∨(Value.slice a' (n+news.length) c').ownBlock=some w.heap.size)→wpList P ops Q rest (a.put o.dst (.slice a' (n+news.length) c')) w'):
  wpList P ops Q (o::rest) a w:=by
 refine wpList_plain hgd fun K hK=>?_
 obtain⟨v',w',hr,h2,h3,h5⟩:=zbT (P:=P) w t o.type base e z bytes ht hi hzs v n xs hown vx m B news hx hone hmax hbytes hbase
 obtain⟨a',c',rfl⟩:=zaY h2
 unfold Oper.wp
 simp[execOp,ho,resolve,invoke,builtin,hs,hxe,hr,Result.andThen]
 exact hK _ _ (h a' c' w' h2 h3 h5)
end Go.Proofs.YtflonfcemlfbdaaDoor
namespace Go.Proofs.YtflonfcemlfbdaaDoor
open Go Go.RowKit Go.ChangeShapes Go.WideShapes Go.Deep
set_option linter.unusedVariables false
attribute [local go_sem ↓] Go.wp_at_zero Go.wp_at_succ
structure Mach where
 regs:List Int
 pc:Int
 back:Int
 ints:Bool
 wait:Bool
 table:Int
 count:Int
 fin:Int
 mem:List Int
 out:List Int
 ready:Int
 want:Int
def Mach.agg(m:Mach)(vr vm vo:Value):Value:=.agg #[vr,.int .i64 m.pc,.int .i64 m.back,.bool m.ints,.bool m.wait,.int .i64 m.table,.int .i64 m.count,.int .i64 m.fin,vm,vo,.int .i64 m.ready,.int .i64 m.want]
def Apart(v v':Value):Prop:=v.ownBlock=none∨v.ownBlock≠v'.ownBlock
theorem zaQ{w w':World}{b b':Nat}{t t':TypeId}{s s':Nat}{v v':Value}{n n':Nat}{xs xs':List Value}(h:w.ownsRow b t s v n xs)(h':w'.ownsRow b' t' s' v' n' xs')(hle:w.heap.size≤b'):Apart v v'∧Apart v' v:=by
 unfold Apart
 cases e:v.ownBlock with
 | none=>exact⟨Or.inl rfl,by cases e':v'.ownBlock with
  | none=>exact Or.inl rfl
  | some k=>exact Or.inr (by simp)⟩
 | some k=>
  cases e':v'.ownBlock with
  | none=>exact⟨Or.inr (by simp),Or.inl rfl⟩
  | some k'=>
   have h1:=(h.lt k e).2
   have h2:=(h'.lt k' e').1
   exact⟨Or.inr (by simp;omega),Or.inr (by simp;omega)⟩
theorem zar{w:World}{b b':Nat}{t:TypeId}{s:Nat}{v:Value}{n:Nat}{xs:List Value}(h:w.ownsRow b t s v n xs)(hle:b'≤b):w.ownsRow b' t s v n xs:=by
 obtain⟨h1,h2⟩:=h
 refine⟨h1,?_⟩
 rcases h2 with h2|⟨g,cap,cur,hv,hg,r⟩
 ·exact Or.inl h2
 ·exact Or.inr ⟨g,cap,cur,hv,by omega,r⟩
theorem own_below{B:Nat}{w w':World}{b:Nat}{t:TypeId}{s:Nat}{v:Value}{n:Nat}{xs:List Value}(h:w.ownsRow b t s v n xs)(hb:Below B w w')(hB:w.heap.size≤B):w'.ownsRow b t s v n xs:=by
 obtain⟨h1,h2⟩:=h
 refine⟨h1,?_⟩
 rcases h2 with h2|⟨g,cap,cur,hv,hg,hh,r⟩
 ·exact Or.inl h2
 ·exact Or.inr ⟨g,cap,cur,hv,hg,by rw[hb.block g (by have:=(Array.getElem?_eq_some_iff.1 hh).1;omega)];exact hh,r⟩
structure MachOwn(base:Nat)(w:World)(m:Mach)(vr vm vo:Value):Prop where
 hr:w.ownsRow base 3 1 vr m.regs.length (m.regs.map (Value.int .i64))
 hm:w.ownsRow base 3 1 vm m.mem.length (m.mem.map (Value.int .i64))
 ho:w.ownsRow base 3 1 vo m.out.length (m.out.map (Value.int .i64))
 rm:Apart vr vm
 ro:Apart vr vo
 mo:Apart vm vo
 mr:Apart vm vr
 or:Apart vo vr
 om:Apart vo vm
def zfo(w:World)(m:Mach)(e:Ending)(w':World):Prop:=∃ar cr am cm ao co,e=.returned (m.agg (.slice ar m.regs.length cr) (.slice am m.mem.length cm) (.slice ao m.out.length co))∧MachOwn w.heap.size w' m (.slice ar m.regs.length cr) (.slice am m.mem.length cm) (.slice ao m.out.length co)∧Below w.heap.size w w'
theorem MachOwn.set{base g i:Nat}{w:World}{m:Mach}{vr vm vo u:Value}{cs:Array Value}{t:TypeId}{fr:Nat×Nat}(h:MachOwn base w m vr vm vo)(hg:w.heap[g]?=some (.cells cs t fr))(ht:3≠t):MachOwn base (w.setCell ⟨g,i,none⟩ u) m vr vm vo:=
 ⟨zao h.hr (zad h.hr hg ht) _,zao h.hm (zad h.hm hg ht) _,zao h.ho (zad h.ho hg ht) _,h.rm,h.ro,h.mo,h.mr,h.or,h.om⟩
structure SetInv(w0:World)(m:Mach)(vr vm vo:Value)(w:World):Prop where
 own:MachOwn w0.heap.size w m vr vm vo
 box:∃cs,w.heap[w0.heap.size+1]?=some (.cells cs 48 (0,0))
 below:Below w0.heap.size w0 w
theorem SetInv.mk'{w0 w:World}{m:Mach}{vr vm vo:Value}{cs:Array Value}(h:MachOwn w0.heap.size w m vr vm vo)(hb:w.heap[w0.heap.size+1]?=some (.cells cs 48 (0,0)))(hB:Below w0.heap.size w0 w):SetInv w0 m vr vm vo w:=⟨h,⟨cs,hb⟩,hB⟩
theorem SetInv.step{w0 w:World}{m:Mach}{vr vm vo:Value}(h:SetInv w0 m vr vm vo w)(i:Nat)(u:Value):SetInv w0 m vr vm vo (w.setCell ⟨w0.heap.size+1,i,none⟩ u):=by
 obtain⟨ho,⟨cs,hb⟩,hB⟩:=h
 exact⟨ho.set hb (by decide),⟨_,zaf hb u⟩,hB.setCell (by simp) u⟩
end Go.Proofs.YtflonfcemlfbdaaDoor
