/- Several texts joined, each with its own heading in the notes: What a recording does, in plain Lean: one instruction of a guest in a world, and all of them; what the document's look-ahead by two values tells. append of events onto events, both of the call's own; slices. A world as it goes on: its box, and the contracts of value, asked, ahead. A recorder's state beside a core: what each call leaves. No condition beyond those of each row. -/
import Derived.Test.YtkahciebbnhobaaGreatDoorYSu
import Derived.Test.YtkahciebbnhobaaGreatDoorYFr2
import Derived.Test.YtkahciebbnhobaaGreatDoorYDe
import Derived.Test.YtkahciebbnhobaaGreatDoorYCl
import Derived.Test.YtkahciebbnhobaaGreatDoorYMem
import Derived.Maps.AppendAt
import Derived.Deep.LoopGhost
import Derived.Test.YtkahciebbnhobaaGreatDoorYCpu1
import Derived.Test.YtkahciebbnhobaaGreatDoorYPk
import Derived.StillTailTactics
import Derived.Deep.CutBlock
import Derived.Deep.CutRange
namespace Go.Proofs.YtkahciebbnhobaaGreatDoor
set_option linter.unusedVariables false
structure RSs where
 m:Mach
 all:List Ev
 nv:Nat
 nb:Nat
 due:Int
def asksM (m:Mach):Bool:=decide (m.fin=0∧(nextZ m).2=0∧decOp (nextZ m).1=10∧(decN (nextZ m).1=0∨decN (nextZ m).1=1))
def zero16:List Int:=List.replicate 16 0
section
variable (is vs:List Int) (bs:List (List Int)) (ds:List Int)
def irqR (k:Int):Bool:=is.contains k
def blkR (s:RSs):List Int:=if s.due=s.m.count then bs.getD (s.nb - 1) zero16 else []
def metM (s:RSs):Mach:=blockM (irqM s.m (irqR is s.m.count)) (blkR bs s)
def aheadR (s:RSs):List Ev:=(if irqR is s.m.count then [⟨s.m.count,1,[]⟩] else []) ++ (if s.due=s.m.count then [⟨s.m.count,2,blkR bs s⟩] else [])
def asksR (s:RSs):Bool:=asksM (enterM (metM is bs s))
def valR (s:RSs):Int:=if asksR is bs s then vs.getD s.nv 0 else 0
def ranR (s:RSs):Mach:=(execM (enterM (metM is bs s)) (valR is vs bs s)).1
def wantsR (s:RSs):Bool:=decide ((metM is bs s).want < 0∧0≤(ranR is vs bs s).want)
def recS (s:RSs):RSs:=
 { m := ranR is vs bs s
   all:=s.all ++ aheadR is bs s ++ (if asksR is bs s then [⟨s.m.count,3,[valR is vs bs s]⟩] else [])
   nv:=if asksR is bs s then s.nv+1 else s.nv
   nb:=if wantsR is vs bs s then s.nb+1 else s.nb
   due:=if wantsR is vs bs s then s.m.count+1+ds.getD s.nb 0 else if s.due=s.m.count then -1 else s.due }
def recL (n:Int):Nat→RSs→RSs × Bool
 | 0,s=>(s,false)
 | f+1,s=>if s.m.count < n∧s.m.fin=0 then (if 1000 < (recS is vs bs ds s).all.length then (recS is vs bs ds s,true) else recL n f (recS is vs bs ds s)) else (s,false)
structure RecOk (s:RSs):Prop where
 ok:MOk s.m
 nb1:0≤s.due→1≤s.nb
 due:s.due = -1∨(s.m.count≤s.due∧s.due≤s.m.count+3000)∨s.m.fin≠0
 good:∀ x∈s.all,EvG x
 len:s.all.length≤1000
end
structure WdOk (is vs:List Int) (bs:List (List Int)) (ds:List Int):Prop where
 li:is.length≤1000
 lv:vs.length≤1000
 lb:bs.length≤1000
 ld:ds.length≤1000
 wv:∀ z∈vs,WordZ z
 wd:∀ z∈ds,0≤z∧z≤3000
 b16:∀ b∈bs,b.length=16∧∀ z∈b,WordZ z
theorem blocksC_ok:∀ {bs:List (List Int)},blocksC bs=0→∀ b∈bs,b.length=16∧∀ z∈b,WordZ z:=by
 intro bs
 induction bs with
 | nil=>intro _ b hb;cases hb
 | cons x l ih =>
  intro h b hb
  unfold blocksC at h
  split at h
  · cases h
  ·
   split at h
   · cases h
   ·
    rename_i h1 h2
    rcases List.mem_cons.1 hb with rfl | hb
    · exact⟨by simpa using h1,words_of (by simpa using h2)⟩
    · exact ih h b hb
theorem worldC_ok {is vs:List Int} {bs:List (List Int)} {ds:List Int} (h:worldC is vs bs ds=0):WdOk is vs bs ds:=by
 by_cases h1:1000 < is.length∨1000 < vs.length∨1000 < bs.length∨1000 < ds.length
 · rw [← worldC_size h1] at h;cases h
 ·
  by_cases h2:vs.any oddB=true∨is.any farB=true∨ds.any farB=true
  · rw [← worldC_odd h1 h2] at h;cases h
  ·
   rw [← worldC_go h1 h2] at h
   refine⟨by omega,by omega,by omega,by omega,words_of (by cases e:vs.any oddB with | false=>rfl | true=>exact absurd (Or.inl e) h2),fun z hz=>?_,blocksC_ok h⟩
   by_cases hz2:z < 0∨3000 < z
   · exact absurd (Or.inr (Or.inr (List.any_eq_true.2 ⟨z,hz,far_true hz2⟩))) h2
   · omega
theorem getD_mem {α:Type} {P:α→Prop} {l:List α} {d:α} (h:∀ x∈l,P x) (hd:P d) (k:Nat):P (l.getD k d):=by
 rw [List.getD_eq_getElem?_getD]
 cases e:l[k]? with
 | none=>exact hd
 | some x=>exact h x (List.mem_of_getElem? e)
theorem zero16_ok:zero16.length=16∧∀ z∈zero16,WordZ z:=⟨rfl,fun z hz=>by rw [List.eq_of_mem_replicate hz];unfold WordZ;omega⟩
section
variable {is vs:List Int} {bs:List (List Int)} {ds:List Int}
theorem blkR_ok (hw:WdOk is vs bs ds) (s:RSs):((blkR bs s).length=0∨(blkR bs s).length=16)∧∀ z∈blkR bs s,WordZ z:=by
 unfold blkR
 split
 ·
  have:=getD_mem (P:=fun b:List Int=>b.length=16∧∀ z∈b,WordZ z) hw.b16 zero16_ok (s.nb - 1)
  exact⟨Or.inr this.1,this.2⟩
 · exact⟨Or.inl rfl,fun z hz=>by cases hz⟩
theorem valR_ok (hw:WdOk is vs bs ds) (s:RSs):WordZ (valR is vs bs s):=by
 unfold valR
 split
 · exact getD_mem hw.wv (by unfold WordZ;omega) _
 · unfold WordZ;omega
theorem ranR_step (s:RSs):ranR is vs bs s=(stepM s.m (irqR is s.m.count) (blkR bs s) (valR is vs bs s)).1:=rfl
theorem metM_fin (s:RSs):(metM is bs s).fin=s.m.fin∧(metM is bs s).count=s.m.count:=by
 have h1:=irqM_fin s.m (irqR is s.m.count)
 have h2:=blockM_fin (irqM s.m (irqR is s.m.count)) (blkR bs s)
 exact⟨h2.1.trans h1.1,h2.2.trans h1.2⟩
theorem ranR_count (s:RSs) (h:s.m.fin=0):(ranR is vs bs s).count=s.m.count+1:=by
 have h1:=metM_fin (is:=is) (bs:=bs) s
 have h3:=enterM_fin (metM is bs s)
 unfold ranR
 rw [execM_count (by rw [h3.1,h1.1];exact h),h3.2,h1.2]
theorem aheadR_good (hw:WdOk is vs bs ds) {s:RSs} (h0:0≤s.m.count) (h1:s.m.count < 3000):∀ x∈aheadR is bs s,EvG x:=by
 intro x hx
 unfold aheadR at hx
 rcases List.mem_append.1 hx with hx | hx
 ·
  split at hx
  ·
   rw [List.mem_singleton.1 hx]
   exact⟨by show (1:Int)≤1;omega,by show (1:Int)≤3;omega,h0,h1,fun e=>by exact absurd (show (1:Int)=2 from e) (by decide),fun e=>by exact absurd (show (1:Int)=3 from e) (by decide),fun z hz=>by cases hz⟩
  · cases hx
 ·
  split at hx
  ·
   rename_i hd
   rw [List.mem_singleton.1 hx]
   have hb:=blkR_ok hw s
   have h16:(blkR bs s).length=16:=by
    rcases hb.1 with h | h
    ·
     unfold blkR at h;rw [if_pos hd] at h
     have:=(getD_mem (P:=fun b:List Int=>b.length=16∧∀ z∈b,WordZ z) hw.b16 zero16_ok (s.nb - 1)).1
     omega
    · exact h
   exact⟨by show (1:Int)≤2;omega,by show (2:Int)≤3;omega,h0,h1,fun _=>h16,fun e=>by exact absurd (show (2:Int)=3 from e) (by decide),hb.2⟩
  · cases hx
theorem RecOk.step (hw:WdOk is vs bs ds) {s:RSs} (h:RecOk s) (hf:s.m.fin=0) (hc:s.m.count < 3000) (hl:(recS is vs bs ds s).all.length≤1000):RecOk (recS is vs bs ds s):=by
 have hc0:=h.ok.count
 have hb:=blkR_ok hw s
 have hv:=valR_ok hw s
 have hct:(recS is vs bs ds s).m.count=s.m.count+1:=ranR_count s hf
 refine⟨stepM_ok h.ok _ _ hb.1 hb.2 hv (by omega),?_,?_,?_,hl⟩
 ·
  show 0≤(if wantsR is vs bs s then _ else _)→1≤(if wantsR is vs bs s then s.nb+1 else s.nb)
  split
  · intro _;omega
  ·
   split
   · intro h;omega
   · exact h.nb1
 ·
  rw [hct]
  show (if wantsR is vs bs s then _ else _)=_∨_
  split
  ·
   rename_i hwn
   have:=getD_mem hw.wd (by omega:(0:Int)≤0∧(0:Int)≤3000) s.nb
   refine Or.inr (Or.inl ?_)
   show s.m.count+1≤(if wantsR is vs bs s then _ else _)∧(if wantsR is vs bs s then _ else _)≤_
   rw [if_pos hwn];omega
  ·
   rename_i hwn
   split
   · exact Or.inl rfl
   ·
    rename_i hd
    show s.due = -1∨(_≤(if wantsR is vs bs s then _ else _)∧(if wantsR is vs bs s then _ else _)≤_)∨_
    rw [if_neg hwn,if_neg hd]
    rcases h.due with q | q | q
    · exact Or.inl q
    · exact Or.inr (Or.inl (by omega))
    · exact absurd hf q
 ·
  intro x hx
  have hx:x∈s.all ++ aheadR is bs s ++ (if asksR is bs s then [⟨s.m.count,3,[valR is vs bs s]⟩] else []):=hx
  rcases List.mem_append.1 hx with hx | hx
  ·
   rcases List.mem_append.1 hx with hx | hx
   · exact h.good x hx
   · exact aheadR_good hw hc0.1 hc x hx
  ·
   split at hx
   ·
    rw [List.mem_singleton.1 hx]
    exact⟨by show (1:Int)≤3;omega,by show (3:Int)≤3;omega,hc0.1,hc,fun e=>by exact absurd (show (3:Int)=2 from e) (by decide),fun _=>rfl,fun z hz=>by rw [List.mem_singleton.1 hz];exact hv⟩
   · cases hx
end
end Go.Proofs.YtkahciebbnhobaaGreatDoor
namespace Go.Proofs.YtkahciebbnhobaaGreatDoor
open Go Go.RowKit Go.ChangeShapes Go.WideShapes Go.Deep
set_option maxRecDepth 100000
set_option linter.unusedVariables false
theorem flatE_one (ps:List (Ev × Value)) (B:Nat) (w:World) (h:∀ p∈ps,DOwn B w p):∀ u∈flatE ps,u.oneCell'=true:=by
 intro u hu
 unfold flatE at hu
 obtain⟨p,hp,hu⟩:=List.mem_flatMap.1 hu
 obtain⟨ad,cd,hv⟩:=own_shape (h p hp).1
 rw [hv] at hu
 rcases List.mem_cons.1 hu with rfl | hu
 · rfl
 ·
  rcases List.mem_cons.1 hu with rfl | hu
  · rfl
  · rw [List.mem_singleton.1 hu];rfl
theorem wpList_append_evs (w : World) {ops : Array Oper} {rest : List Oper} {o : Oper} {a : Act} {Q : Exit → Act → World → Prop} (hgd : o.guard = none) (s x : Operand)
  (ho:o.op=.call { callee:=.builtin .append,args:=#[s,x],argTypes:=#[39,39] })
  (B:Nat) (ps qs:List (Ev × Value)) (a1 a2:Option Addr) (c1 c2:Nat) (hs:a.eval s=.slice a1 ps.length c1) (hx:a.eval x=.slice a2 qs.length c2) (h1:OutSt B ps a1 c1 w) (h2:OutSt B qs a2 c2 w)
  (hmax:ps.length+qs.length≤100000) (hbase:B≤w.heap.size)
  (h:∀ a' c' w',OutSt B (ps ++ qs) a' c' w'→w.grownBy w' (Value.slice a1 ps.length c1).ownBlock→((Value.slice a' (ps.length+qs.length) c').ownBlock=(Value.slice a1 ps.length c1).ownBlock∨(Value.slice a' (ps.length+qs.length) c').ownBlock=some w.heap.size)→wpList Tryz.prog ops Q rest (a.put o.dst (.slice a' (ps.length+qs.length) c')) w') :
  wpList Tryz.prog ops Q (o :: rest) a w:=by
 refine wpList_plain hgd fun K hK=>?_
 have key:∃ a' c' w',(Builtin.append_ #[39,39] o.type #[.slice a1 ps.length c1,.slice a2 qs.length c2]).run Tryz.prog w=.ok (.slice a' (ps.length+qs.length) c') w'∧w'.ownsRow B 43 3 (.slice a' (ps.length+qs.length) c') (ps.length+qs.length) (flatE ps ++ flatE qs)∧w.grownBy w' (Value.slice a1 ps.length c1).ownBlock∧((Value.slice a' (ps.length+qs.length) c').ownBlock=(Value.slice a1 ps.length c1).ownBlock∨(Value.slice a' (ps.length+qs.length) c').ownBlock=some w.heap.size):=by
  obtain⟨i0,hi0,hz0,hz1,hz2⟩:=info_parts info_ev
  rcases h2.row.2 with ⟨hv,h0⟩ | ⟨g,cap,cur,hv,hb,hg,hnc,hcap,hcs,htk⟩
  ·
   have e0:qs=[]:=List.eq_nil_of_length_eq_zero h0
   subst e0
   injection hv with e1 e2 e3
   subst e1 e3
   refine⟨a1,c1,w,?_,by simpa [flatE] using h1.row,World.grownBy.refl _ _,Or.inl rfl⟩
   exact run_append_no B 39 o.type 43 i0 3 Tryz.underlying39 hi0 _ ps.length (flatE ps) h1.row 0
  ·
   injection hv with e1 e2 e3
   subst e1 e3
   obtain⟨v',w',hr,q2,q3,_,q5⟩:=run_append_own_at (P:=Tryz.prog) w B 39 o.type 43 i0 (.agg #[.int .i64 0,.int .i64 0,.slice none 0 0]) 3 40 Tryz.underlying39 hi0 hz0 hz1 hz2 rfl (by decide) _ ps.length (flatE ps) h1.row ⟨g,0,none⟩ qs.length c2 (flatE qs) (flatE_len qs) (fun j u hj=>by
    rw [add_plain]
    have:=h2.row.cells (g:=g) rfl j u hj
    rw [add_plain] at this
    exact this) (flatE_one qs B w h2.data) (by unfold maxLen;omega) (by omega) hbase
   obtain⟨a',c',rfl⟩:=own_shape q2
   exact⟨a',c',w',hr,q2,q3,q5⟩
 obtain⟨a',c',w',hr,q2,q3,q5⟩:=key
 unfold Oper.wp
 simp [execOp,ho,resolve,invoke,builtin,hs,hx,hr,Result.andThen]
 have hk:∀ q,DOwn B w q→DOwn B w' q:=fun q hq=>hq.kept q3 (own_ne hq.1 h1.row (by decide))
 refine hK _ _ (h a' c' w' ⟨by rw [List.length_append,flatE_app];exact q2,fun q hq=>?_⟩ q3 q5)
 rcases List.mem_append.1 hq with hq | hq
 · exact hk q (h1.data q hq)
 · exact hk q (h2.data q hq)
theorem index_none {zs:List Int} {k:Int} {i:Nat} (h:∀ j,j < i→zs[j]?≠some k) (hi:i=zs.length):zs.contains k=false:=by
 subst hi
 cases e:zs.contains k with
 | false=>rfl
 | true =>
  obtain⟨j,hj,hz⟩:=List.getElem_of_mem (List.contains_iff_mem.1 e)
  exact absurd (by rw [List.getElem?_eq_getElem hj,hz]) (h j hj)
theorem cindex_any (v:Value) (zs:List Int) (k:Int) (w:World) (hv:Ints w.heap.size w v zs):Calls Tryz.prog 67 #[v,.int .i64 k] w fun e w'=>(∃ z,e=.returned (.int .i64 z)∧decide (0≤z)=zs.contains k)∧w'=w:=by
 obtain⟨a,c,rfl,hl,hl2,hc⟩:=hv
 have HC:=Lib.hid hc
 clear hc
 go_enter Tryz.func67,Tryz.ntmps67
 go_wp2_with fail
 go_loopg [8] zs.length (fun gh s8 wr =>∃i:Nat,i≤zs.length∧gh=zs.length - i∧s8=.int .i64 i∧wr=w∧Hid (∀ j,j < i→zs[j]?≠some k))
 case atStart=>exact⟨0,Nat.zero_le _,by omega,rfl,rfl,Lib.hid (fun j h=>absurd h (Nat.not_lt_zero _))⟩
 case round =>
  obtain⟨i,hi,rfl,rfl,rfl,HN⟩:=hrel
  by_cases hlt:i < zs.length
  ·
   obtain⟨b,off,vi,rfl,hb,hci,hvi⟩:=HC.out i hlt
   obtain⟨rfl,hi64⟩:=hvi
   have hi1:(i:Int) < (zs.length:Int):=by omega
   have hi0:(0:Int)≤(i:Int):=by omega
   have HG:Hid (zs[i]? = some zs[i]):=Lib.hid (List.getElem?_eq_getElem hlt)
   have HM:Hid (zs[i]∈zs):=Lib.hid (List.getElem_mem hlt)
   generalize zs[i]=z at *
   clear hi64
   by_cases hz:k=z
   ·
    subst hz
    have HCT:=Lib.hid (show zs.contains k=true from List.contains_iff_mem.2 HM.out)
    go_wp2
    go_ret
    exact⟨⟨_,rfl,by rw [HCT.out];simp⟩,rfl⟩
   ·
    have hzb:(k == z)=false:=by rw [beq_eq_false_iff_ne];exact hz
    have HN2:Hid (∀ j,j < i+1→zs[j]?≠some k):=Lib.hid (fun j hj=>by
     by_cases e:j=i
     · subst e;rw [HG.out];intro e;injection e with e;exact hz e.symm
     · exact HN.out j (by omega))
    clear hz
    go_wp2
    go_roundg (zs.length - (i+1))
    case measure=>omega
    case rel=>exact⟨i+1,by omega,rfl,by go_num,rfl,HN2⟩
  ·
   have HF:=Lib.hid (index_none HN.out (by omega))
   clear HN
   go_wp2
   go_ret
   exact⟨⟨-1,rfl,by rw [HF.out];rfl⟩,rfl⟩
theorem ccontains_any (v:Value) (zs:List Int) (k:Int) (w:World) (hv:Ints w.heap.size w v zs):Calls Tryz.prog 51 #[v,.int .i64 k] w fun e w'=>e=.returned (.bool (zs.contains k))∧w'=w:=by
 have H:=Lib.hid (cindex_any v zs k w hv)
 clear hv
 go_enter Tryz.func51,Tryz.ntmps51
 go_wp2_with fail
 refine H.out.mono ?_
 rintro e w1 ⟨⟨z,rfl,hz⟩,rfl⟩
 have HZ:=Lib.hid hz
 clear hz H
 go_wp2
 go_ret
 exact⟨ret_bool (by rw [← HZ.out]),rfl⟩
end Go.Proofs.YtkahciebbnhobaaGreatDoor
namespace Go.Proofs.YtkahciebbnhobaaGreatDoor
open Go Go.RowKit Go.ChangeShapes Go.WideShapes Go.Deep
set_option maxHeartbeats 8000000
set_option maxRecDepth 100000
set_option linter.unusedVariables false
attribute [local go_sem ↓] Go.wp_at_zero Go.wp_at_succ
structure WB (w0:World) (E g:Nat) (is vs:List Int) (bs:List (List Int)) (ds:List Int) (vk:Value) (due:Int) (w:World):Prop where
 box:∃ a0 a1 a2 a3,∃ c0 c1 c2 c3:Nat,w.heap[g]? = some (.cells #[.slice a0 is.length c0,.slice a1 vs.length c1,.slice a2 bs.length c2,.slice a3 ds.length c3,vk,.int .i64 due] 70 (0,0))∧Ints E w0 (.slice a0 is.length c0) is∧Ints E w0 (.slice a1 vs.length c1) vs∧RowsR E w0 (.slice a2 bs.length c2) bs∧Ints E w0 (.slice a3 ds.length c3) ds
 same:Same E w0 w
 size:E≤w.heap.size
 ge:E≤g
theorem WB.lt {w0 w:World} {E g:Nat} {is vs:List Int} {bs:List (List Int)} {ds:List Int} {vk:Value} {due:Int} (h:WB w0 E g is vs bs ds vk due w):g < w.heap.size:=by obtain⟨_,_,_,_,_,_,_,_,hx,_⟩:=h.box;exact (Array.getElem?_eq_some_iff.1 hx).1
theorem WB.kept {w0 w w':World} {E g:Nat} {is vs:List Int} {bs:List (List Int)} {ds:List Int} {vk:Value} {due:Int} (h:WB w0 E g is vs bs ds vk due w) (hg:w'.heap[g]? = w.heap[g]?) (hs:Same E w w') (hz:w.heap.size≤w'.heap.size):WB w0 E g is vs bs ds vk due w':=by
 obtain⟨a0,a1,a2,a3,c0,c1,c2,c3,hx,h1,h2,h3,h4⟩:=h.box
 exact⟨⟨a0,a1,a2,a3,c0,c1,c2,c3,hg.trans hx,h1,h2,h3,h4⟩,h.same.trans hs,Nat.le_trans h.size hz,h.ge⟩
theorem ints_head {B:Nat} {w:World} {z:Int} {l:List Int} {a:Option Addr} {n c:Nat} (h:Ints B w (.slice a n c) (z :: l)):n=l.length+1∧n≤c∧∃ b off,a=some ⟨b,off,none⟩∧b < B∧w.cell? ⟨b,off,none⟩=some (.int .i64 z)∧l.length+1≤17592186043904:=by
 obtain⟨a',c',hv,hl,hl2,hc⟩:=h
 injection hv with h1 h2 h3
 subst h1 h2 h3
 obtain⟨b,off,vi,ha,hb,hci,hvi⟩:=hc 0 (by simp)
 obtain⟨rfl,-⟩:=hvi
 rw [Nat.add_zero] at hci
 exact⟨by simp,by simpa using hl2,b,off,ha,hb,hci,by simpa using hl⟩
theorem sl1_tail {α:Type} {m B:Nat} {w:World} {R:Value→α→Prop} {z:α} {l:List α} {b off n c:Nat} (h:Sl1 m B w R (.slice (some ⟨b,off,none⟩) n c) (z :: l)):Sl1 m B w R (.slice (some ⟨b,off+1,none⟩) l.length (c - 1)) l:=by
 obtain⟨a',c',hv,hl,hl2,hc⟩:=h
 injection hv with h1 h2 h3
 subst h1 h2 h3
 simp only [List.length_cons] at hl hl2
 refine⟨_,_,rfl,by omega,by omega,fun i hi=>?_⟩
 obtain⟨b',off',vi,ha,hb,hci,hvi⟩:=hc (i+1) (by simp;omega)
 injection ha with ha
 injection ha with e1 e2
 subst e1 e2
 exact⟨_,_,vi,rfl,hb,by rw [show off+1+i=off+(i+1) by omega];exact hci,by simpa using hvi⟩
theorem sl1_none {α:Type} {m B:Nat} {w:World} {R:Value→α→Prop} {a:Option Addr} {c:Nat}:Sl1 m B w R (.slice a 0 c) []:=⟨a,c,rfl,Nat.zero_le _,Nat.zero_le _,fun i h=>absurd h (Nat.not_lt_zero _)⟩
theorem rows_head {B:Nat} {w:World} {z:List Int} {l:List (List Int)} {a:Option Addr} {n c:Nat} (h:RowsR B w (.slice a n c) (z :: l)):n=l.length+1∧n≤c∧l.length+1≤5864062014634∧∃ b off ad cd,a=some ⟨b,off,none⟩∧b < B∧w.cell? ⟨b,off,none⟩=some (.slice ad z.length cd)∧Ints B w (.slice ad z.length cd) z:=by
 obtain⟨a',c',hv,hl,hl2,hc⟩:=h
 injection hv with h1 h2 h3
 subst h1 h2 h3
 obtain⟨b,off,vi,ha,hb,hci,hvi⟩:=hc 0 (by simp)
 obtain⟨ad,cd,rfl,_⟩:=id hvi
 rw [Nat.add_zero] at hci
 exact⟨by simp,by simpa using hl2,by simpa using hl,b,off,ad,cd,ha,hb,hci,hvi⟩
theorem value_any {w0 w:World} {E g:Nat} {is vs:List Int} {bs:List (List Int)} {ds:List Int} {vk:Value} {due:Int} (h:WB w0 E g is vs bs ds vk due w):Calls Tryz.prog 30 #[.pointer (some ⟨g,0,none⟩)] w fun e w'=>e=.returned (.int .i64 (vs.headD 0))∧WB w0 E g is vs.tail bs ds vk due w'∧w.grownBy w' (some g):=by
 have H:=Lib.hid h
 have hlt:=h.lt
 obtain⟨a0,a1,a2,a3,c0,c1,c2,c3,hx,h1,h2,h3,h4⟩:=h.box
 have q1:w.cell? ⟨g,1,none⟩=some (.slice a1 vs.length c1):=cell_block hx 1
 have f1:=free_block hx 1
 have HX:=Lib.hid hx
 have HR:=Lib.hid (And.intro h1 (And.intro h3 h4))
 cases vs with
 | nil =>
  clear h hx h1 h2 h3 h4
  simp only [List.length_nil] at q1
  go_enter Tryz.func30,Tryz.ntmps30
  go_wp2
  go_ret
  exact⟨rfl,H.out,World.grownBy.refl _ _⟩
 | cons z l =>
  obtain⟨hn,hnc,b,off,rfl,hb,hci,hll⟩:=ints_head h2
  have hcw:=(h.same b off hb).trans hci
  have hbw:b < w.heap.size:=Nat.lt_of_lt_of_le hb h.size
  have HT:=Lib.hid (show Ints E w0 (.slice (some ⟨b,off+1,none⟩) l.length (c1 - 1)) l from sl1_tail h2)
  have hgb:¬ g=b:=by have:=h.ge;omega
  simp only [List.length_cons] at q1 hn hnc
  have HGE:=Lib.hid (And.intro h.ge h.size)
  clear h hx h1 h2 h3 h4 hci hb
  by_cases hc1:c1=1
  ·
   subst hc1
   have e0:l=[]:=List.eq_nil_of_length_eq_zero (by omega)
   subst e0
   go_enter Tryz.func30,Tryz.ntmps30
   go_wp2
   go_ret
   exact⟨rfl,⟨⟨a0,some ⟨b,off,none⟩,a2,a3,c0,0,c2,c3,set_block HX.out _,HR.out.1,sl1_none,HR.out.2.1,HR.out.2.2⟩,H.out.same.trans (fun k o hk=>World.cell?_of_block (Below.heap_setCell _ _ _ _ (by simp;have:=HGE.out.1;omega))),by simpa [World.setCell] using HGE.out.2,HGE.out.1⟩,grown_set w g 1 _⟩
  ·
   go_enter Tryz.func30,Tryz.ntmps30
   go_wp2
   go_ret
   exact⟨rfl,⟨⟨a0,_,a2,a3,c0,_,c2,c3,set_block HX.out _,HR.out.1,HT.out,HR.out.2.1,HR.out.2.2⟩,H.out.same.trans (fun k o hk=>World.cell?_of_block (Below.heap_setCell _ _ _ _ (by simp;have:=HGE.out.1;omega))),by simpa [World.setCell] using HGE.out.2,HGE.out.1⟩,grown_set w g 1 _⟩
theorem OutSt.kept_ne {B:Nat} {ps:List (Ev × Value)} {a:Option Addr} {c:Nat} {w:World} (h:OutSt B ps a c w) (g:Nat) {cs:Array Value} (hg:w.heap[g]? = some (.cells cs 70 (0,0))) {i:Nat} {u:Value}:OutSt B ps a c (w.setCell ⟨g,i,none⟩ u):=
 ⟨own_set h.row (own_ne_block h.row hg (by decide)) u,fun p hp=>⟨own_set (h.data p hp).1 (own_ne_block (h.data p hp).1 hg (by decide)) u,(h.data p hp).2⟩⟩
structure AhR (E:Nat) (w:World) (k:Int) (vk:Value) (l:List Ev) (ps:List (Ev × Value)) (a:Option Addr) (c:Nat) (w':World):Prop where
 eq:ps.map (·.1)=l
 out:OutSt E ps a c w'
 new:∀ q,(Value.slice a ps.length c).ownBlock=some q→w.heap.size≤q
 dat:∀ p∈ps,p.2=.slice none 0 0∨p.2=vk
theorem ahead_any {w0 w:World} {E g:Nat} {is vs:List Int} {bs:List (List Int)} {ds:List Int} {ak:Option Addr} {nk ck:Nat} {due:Int} (h:WB w0 E g is vs bs ds (.slice ak nk ck) due w) (k:Int) (hk:0≤k∧k < 3000) (b:List Int) (hb:due=k→DOwn E w (⟨k,2,b⟩,.slice ak nk ck)) (l:List Ev) (hl:(if is.contains k then [(⟨k,1,[]⟩:Ev)] else []) ++ (if due=k then [⟨k,2,b⟩] else [])=l) (due2:Int) (hdd:(if due=k then -1 else due)=due2):Calls Tryz.prog 25 #[.pointer (some ⟨g,0,none⟩),.int .i64 k] w fun e w' =>∃ps a c,e=.returned (.slice a ps.length c)∧AhR E w k (.slice ak nk ck) l ps a c w'∧WB w0 E g is vs bs ds (.slice ak nk ck) due2 w'∧w.grownBy w' (some g):=by
 have HL:=Lib.hid hl
 have HDD:=Lib.hid hdd
 clear hl hdd
 have H:=Lib.hid h
 have hlt:=h.lt
 have hEw:=h.size
 obtain⟨a0,a1,a2,a3,c0,c1,c2,c3,hx,h1,h2,h3,h4⟩:=h.box
 have q0:w.cell? ⟨g,0,none⟩=some (.slice a0 is.length c0):=cell_block hx 0
 have HX:=Lib.hid hx
 have HI:=Lib.hid (h1.to hEw h.same)
 have HB:=Lib.hid hb
 have HC:=Lib.hid (ccontains_any (.slice a0 is.length c0) is k w HI.out)
 have HK:=Lib.hid hk
 clear h hx h1 h2 h3 h4 hb hk
 generalize is.contains k=t at *
 go_enter Tryz.func25,Tryz.ntmps25
 go_wp2_with fail
 refine HC.out.mono ?_
 rintro e w1 ⟨rfl,rfl⟩
 go_upto_if 12 with fail
 go_cut [5] from 6 (fun s5 wx =>∃(ps:List (Ev × Value)) (a:Option Addr) (c:Nat),s5=.slice a ps.length c∧Hid (ps.map (·.1)=if t then [⟨k,1,[]⟩] else [])∧Hid (wx.ownsRow w1.heap.size 43 3 (.slice a ps.length c) ps.length (flatE ps))∧Hid (w1.grownBy wx none)∧Hid (ps.length≤1∧∀ p∈ps,p=(⟨k,1,[]⟩,.slice none 0 0)))
 case first =>
  cases t with
  | false =>
   go_wp2_with fail
   go_meet
   exact⟨[],none,0,rfl,Lib.hid rfl,Lib.hid (World.ownsRow_nil _ _ _ _),Lib.hid (World.grownBy.refl _ _),Lib.hid ⟨Nat.zero_le _,fun p hp=>by cases hp⟩⟩
  | true =>
   go_wp2_with (at_builtin;go_loud (refine wpList_push w1 rfl (.tmp 13) (.tmp 16) 39 rfl w1.heap.size 43 (.agg #[.int .i64 0,.int .i64 0,.slice none 0 0]) 3 40 Tryz.underlying39 info_ev rfl (by decide) [.int .i64 k,.int .i64 1,.slice none 0 0] rfl (by simp [Value.oneCell']) (.slice none 0 0) 0 [] (by rfl) (World.ownsRow_nil _ _ _ _) (by rfl) (by simp) (by omega) (by omega) (by omega) ?_);intro g1 cp1 w2 hown hgrow;have HO:=Lib.hid hown;have HG:=Lib.hid hgrow;clear hown hgrow)
   go_meet
   exact⟨[(⟨k,1,[]⟩,.slice none 0 0)],_,_,rfl,Lib.hid rfl,Lib.hid HO.out,Lib.hid HG.out,Lib.hid ⟨Nat.le_refl _,fun p hp=>List.mem_singleton.1 hp⟩⟩
 case rest =>
  obtain⟨ps,a,c,rfl,HE,HO,HG,HP⟩:=hcut
  have hx2:=block_grown HG.out HX.out (by simp)
  have q4:wc.cell? ⟨g,4,none⟩=some (.slice ak nk ck):=cell_block hx2 4
  have q5:wc.cell? ⟨g,5,none⟩=some (.int .i64 due):=cell_block hx2 5
  have f5:=free_block hx2 5
  have hlt2:g < wc.heap.size:=(Array.getElem?_eq_some_iff.1 hx2).1
  have hsz:=HG.out.size
  have HX2:=Lib.hid hx2
  have HWB2:Hid (WB w0 E g is vs bs ds (.slice ak nk ck) due wc):=Lib.hid (H.out.kept (HG.out.block g hlt (by simp)) (fun q o hq=>World.cell?_of_block (HG.out.block q (by omega) (by simp))) hsz)
  have HD:Hid (∀ p∈ps,DOwn E wc p):=Lib.hid (fun p hp=>by
   rw [HP.out.2 p hp]
   exact⟨World.ownsRow_nil _ _ _ _,fun z hz=>(by cases hz),Nat.zero_le _,by have:=HK.out;unfold I64;dsimp only;omega,by unfold I64;dsimp only;omega⟩)
  clear q0 hx2
  by_cases hd:due=k
  ·
   have hrow:=(HB.out hd).1
   have HDK:=Lib.hid (show DOwn E wc (⟨k,2,b⟩,.slice ak nk ck) from (HB.out hd).kept HG.out (by
    cases hob:(Value.slice ak nk ck).ownBlock with
    | none=>exact Or.inl rfl
    | some q=>exact Or.inr (by simp)))
   have hpl:=HP.out.1
   subst hd
   clear hrow
   go_wp2_with (at_builtin;go_loud (refine wpList_push wc rfl (.tmp 24) (.tmp 31) 39 rfl w1.heap.size 43 (.agg #[.int .i64 0,.int .i64 0,.slice none 0 0]) 3 40 Tryz.underlying39 info_ev rfl (by decide) [.int .i64 due,.int .i64 2,.slice ak nk ck] rfl (by simp [Value.oneCell']) _ _ _ (by rfl) HO.out (by rfl) (by simp) (by omega) (by omega) (by omega) ?_);intro g1 cp1 w2 hown hgrow;have hx3:=block_grown hgrow HX2.out (own_ne_block HO.out HX2.out (by decide));have f53:=free_block hx3 5;have q53:w2.cell? ⟨g,5,none⟩=some (.int .i64 due):=cell_block hx3 5;have l3:g < w2.heap.size:=(Array.getElem?_eq_some_iff.1 hx3).1;have HO2:=Lib.hid hown;have HG2:=Lib.hid hgrow;have HX3:=Lib.hid hx3;clear hown hgrow hx3)
   go_ret
   have hO0:OutSt E ps a c wc:=⟨own_base HO.out (by omega),HD.out⟩
   have hO1:=hO0.push HDK.out (own_base HO2.out (by omega)) HG2.out
   have hlen:(ps ++ [((⟨due,2,b⟩:Ev),Value.slice ak nk ck)]).length=ps.length+1:=by simp
   have hwb:=HWB2.out
   have hsz3:=HG2.out.size
   have HW3:WB w0 E g is vs bs ds (.slice ak nk ck) (-1) (w2.setCell ⟨g,5,none⟩ (.int .i64 (-1))):=by
    obtain⟨a0,a1,a2,a3,c0,c1,c2,c3,hx,h1,h2,h3,h4⟩:=hwb.box
    have hx4:=block_grown HG2.out hx (own_ne_block HO.out hx (by decide))
    refine⟨⟨a0,a1,a2,a3,c0,c1,c2,c3,set_block hx4 _,h1,h2,h3,h4⟩,hwb.same.trans (fun q o hq=>?_),by have:=hwb.size;simp [World.setCell];omega,hwb.ge⟩
    exact World.cell?_of_block ((Below.heap_setCell _ _ _ _ (by simp;have:=hwb.ge;omega)).trans (HG2.out.block q (by have:=hwb.size;omega) (fun e=>by have:=(HO.out.lt q e.symm).1;omega)))
   have hgw:w1.grownBy w2 none:=⟨HG2.out.os.trans HG.out.os,HG2.out.tape.trans HG.out.tape,HG2.out.output.trans HG.out.output,Nat.le_trans hsz hsz3,fun q hq _=>(HG2.out.block q (by omega) (fun e=>by have:=(HO.out.lt q e.symm).1;omega)).trans (HG.out.block q hq (by simp))⟩
   refine⟨ps ++ [(⟨due,2,b⟩,.slice ak nk ck)],_,cp1,by rw [hlen];rfl,⟨by rw [← HL.out,List.map_append,HE.out];simp,hO1.kept_ne g HX3.out,fun q hq=>?_,fun p hp=>?_⟩,by rw [← HDD.out];first | (rw [if_pos rfl];exact HW3) | (rw [if_pos trivial];exact HW3),grown_same ⟨hgw.os,hgw.tape,hgw.output,hgw.size,fun q hq _=>hgw.block q hq (by simp)⟩ (grown_set _ _ _ _)⟩
   ·
    rw [hlen] at hq
    exact (HO2.out.lt q hq).1
   ·
    rcases List.mem_append.1 hp with hp | hp
    · exact Or.inl (by rw [HP.out.2 p hp])
    · rw [List.mem_singleton.1 hp];exact Or.inr rfl
  ·
   have hdb:(due == k)=false:=by rw [beq_eq_false_iff_ne];exact hd
   have HDN:=Lib.hid hd
   clear hd
   go_wp2_with fail
   go_ret
   refine⟨ps,a,c,rfl,⟨by rw [HE.out,← HL.out,if_neg HDN.out,List.append_nil],⟨own_base HO.out (by omega),HD.out⟩,fun q hq=>(HO.out.lt q hq).1,fun p hp=>Or.inl (by rw [HP.out.2 p hp])⟩,by rw [← HDD.out,if_neg HDN.out];exact HWB2.out,⟨HG.out.os,HG.out.tape,HG.out.output,HG.out.size,fun q hq _=>HG.out.block q hq (by simp)⟩⟩
section
variable {w0 w:World} {E g:Nat} {is vs:List Int} {bs:List (List Int)} {ds:List Int} {vk:Value} {due:Int}
theorem WB.same_set (h:WB w0 E g is vs bs ds vk due w) (i:Nat) (u:Value):Same E w0 (w.setCell ⟨g,i,none⟩ u)∧E≤(w.setCell ⟨g,i,none⟩ u).heap.size:=
 ⟨h.same.trans (fun q o hq=>World.cell?_of_block (Below.heap_setCell _ _ _ _ (by have:=h.ge;simp;omega))),by have:=h.size;simpa [World.setCell] using this⟩
theorem WB.setBlk (h:WB w0 E g is vs bs ds vk due w) (u:Value):WB w0 E g is vs bs ds u due (w.setCell ⟨g,4,none⟩ u):=by
 obtain⟨a0,a1,a2,a3,c0,c1,c2,c3,hx,h1,h2,h3,h4⟩:=h.box
 exact⟨⟨a0,a1,a2,a3,c0,c1,c2,c3,set_block hx _,h1,h2,h3,h4⟩,(h.same_set _ _).1,(h.same_set 4 u).2,h.ge⟩
theorem WB.setDue (h:WB w0 E g is vs bs ds vk due w) (z:Int):WB w0 E g is vs bs ds vk z (w.setCell ⟨g,5,none⟩ (.int .i64 z)):=by
 obtain⟨a0,a1,a2,a3,c0,c1,c2,c3,hx,h1,h2,h3,h4⟩:=h.box
 exact⟨⟨a0,a1,a2,a3,c0,c1,c2,c3,set_block hx _,h1,h2,h3,h4⟩,(h.same_set _ _).1,(h.same_set 5 (.int .i64 z)).2,h.ge⟩
theorem WB.setRows (h:WB w0 E g is vs bs ds vk due w) {bl:List (List Int)} {ax:Option Addr} {cx:Nat} (hr:RowsR E w0 (.slice ax bl.length cx) bl):WB w0 E g is vs bl ds vk due (w.setCell ⟨g,2,none⟩ (.slice ax bl.length cx)):=by
 obtain⟨a0,a1,a2,a3,c0,c1,c2,c3,hx,h1,h2,h3,h4⟩:=h.box
 exact⟨⟨a0,a1,ax,a3,c0,c1,cx,c3,set_block hx _,h1,h2,hr,h4⟩,(h.same_set _ _).1,(h.same_set 2 (.slice ax bl.length cx)).2,h.ge⟩
theorem WB.setDels (h:WB w0 E g is vs bs ds vk due w) {dl:List Int} {ax:Option Addr} {cx:Nat} (hr:Ints E w0 (.slice ax dl.length cx) dl):WB w0 E g is vs bs dl vk due (w.setCell ⟨g,3,none⟩ (.slice ax dl.length cx)):=by
 obtain⟨a0,a1,a2,a3,c0,c1,c2,c3,hx,h1,h2,h3,h4⟩:=h.box
 exact⟨⟨a0,a1,a2,ax,c0,c1,c2,cx,set_block hx _,h1,h2,h3,hr⟩,(h.same_set _ _).1,(h.same_set 3 (.slice ax dl.length cx)).2,h.ge⟩
theorem WB.row (h:WB w0 E g is vs bs ds vk due w) {B n:Nat} {v:Value} {xs:List Value} (ho:w.ownsRow B 3 1 v n xs) (i:Nat) (u:Value):(w.setCell ⟨g,i,none⟩ u).ownsRow B 3 1 v n xs:=by
 obtain⟨a0,a1,a2,a3,c0,c1,c2,c3,hx,_⟩:=h.box
 exact own_set ho (own_ne_block ho hx (by decide)) u
end
theorem asked_any {w0 w:World} {E g:Nat} {is vs:List Int} {bs:List (List Int)} {ds:List Int} {ak:Option Addr} {nk ck:Nat} {due:Int} (h:WB w0 E g is vs bs ds (.slice ak nk ck) due w) (k:Int) (hk:0≤k∧k≤3000) (hds:∀ z∈ds,0≤z∧z≤3000) (hbs:∀ b∈bs,b.length=16):Calls Tryz.prog 32 #[.pointer (some ⟨g,0,none⟩),.int .i64 k] w fun e w' =>∃a2 c2,e=.returned (.tuple #[])∧WB w0 E g is vs bs.tail ds.tail (.slice a2 16 c2) (k+ds.headD 0) w'∧w'.ownsRow w.heap.size 3 1 (.slice a2 16 c2) 16 ((bs.headD zero16).map (Value.int .i64))∧w.grownBy w' (some g):=by
 have H:=Lib.hid h
 have hlt:=h.lt
 have hEw:=h.size
 obtain⟨a0,a1,a2,a3,c0,c1,c2,c3,hx,h1,h2,h3,h4⟩:=h.box
 have HX:=Lib.hid hx
 have HDS:=Lib.hid hds
 have HBS:=Lib.hid hbs
 have f4:=free_block hx 4
 have f5:=free_block hx 5
 have q4:w.cell? ⟨g,4,none⟩=some (.slice ak nk ck):=cell_block hx 4
 have q5:w.cell? ⟨g,5,none⟩=some (.int .i64 due):=cell_block hx 5
 clear h hx h1 h2 h3 h4 hds hbs
 have mk:=mk_ints 16 (by omega) (by omega) w
 obtain⟨W1,hW1⟩:∃ W1,W1=(((w.setCell ⟨g,4,none⟩ (.slice (some ⟨w.heap.size,0,none⟩) 16 16)).setCell ⟨g,5,none⟩ (.int .i64 k)).alloc (.cells (zeroInts 16) 3)):=⟨_,rfl⟩
 have hsW:((w.setCell ⟨g,4,none⟩ (.slice (some ⟨w.heap.size,0,none⟩) 16 16)).setCell ⟨g,5,none⟩ (.int .i64 k)).heap.size=w.heap.size:=by simp [World.setCell]
 have HS1:=Lib.hid (show W1.heap.size=w.heap.size+1 from by rw [hW1];simp [World.setCell])
 have HG1:=Lib.hid (show w.grownBy W1 (some g) from by rw [hW1];exact grown_same (grown_same (grown_set w g 4 _) (grown_set _ g 5 _)) (World.grownBy_alloc _ _ _))
 have HO1:=Lib.hid (show W1.ownsRow w.heap.size 3 1 (.slice (some ⟨w.heap.size,0,none⟩) 16 16) 16 (zero16.map (Value.int .i64)) from own_block (zs:=zero16) (by unfold zero16;rw [hW1,← zeroInts_eq];exact alloc_at hsW.symm) (Nat.le_refl _) rfl (by omega))
 have HW1:Hid (WB w0 E g is vs bs ds (.slice (some ⟨w.heap.size,0,none⟩) 16 16) k W1):=Lib.hid (by
  obtain⟨a0,a1,a2,a3,c0,c1,c2,c3,hx,h1,h2,h3,h4⟩:=H.out.box
  have hb1:W1.heap[g]? = some (.cells #[.slice a0 is.length c0,.slice a1 vs.length c1,.slice a2 bs.length c2,.slice a3 ds.length c3,.slice (some ⟨w.heap.size,0,none⟩) 16 16,.int .i64 k] 70 (0,0)):=by rw [hW1];exact (alloc_lt (by rw [hsW];exact hlt)).trans (set_block (set_block hx _) _)
  exact⟨⟨a0,a1,a2,a3,c0,c1,c2,c3,hb1,h1,h2,h3,h4⟩,H.out.same.trans (fun q o hq=>World.cell?_of_block (HG1.out.block q (by omega) (by have:=H.out.ge;simp;omega))),by have:=HS1.out;omega,H.out.ge⟩)
 clear HX hsW
 go_enter Tryz.func32,Tryz.ntmps32
 go_upto_region 1 with fail
 rw [← hW1]
 clear hW1 mk f4 f5 q4 q5 a0 a1 a2 a3 c0 c1 c2 c3
 have hl1:=HW1.out.lt
 obtain⟨a0,a1,a2,a3,c0,c1,c2,c3,hx,h1,h2,h3,h4⟩:=HW1.out.box
 have q2:W1.cell? ⟨g,2,none⟩=some (.slice a2 bs.length c2):=cell_block hx 2
 have q4:W1.cell? ⟨g,4,none⟩=some (.slice (some ⟨w.heap.size,0,none⟩) 16 16):=cell_block hx 4
 have f2:=free_block hx 2
 have f4:=free_block hx 4
 have HX1:=Lib.hid hx
 have HR:=Lib.hid (And.intro h1 (And.intro h2 (And.intro h3 h4)))
 clear hx h1 h2 h3 h4
 go_upto_if 18 with fail
 go_cut [] from 19 (fun wx =>∃a2 c2,Hid (WB w0 E g is vs bs.tail ds (.slice a2 16 c2) k wx)∧Hid (wx.ownsRow w.heap.size 3 1 (.slice a2 16 c2) 16 ((bs.headD zero16).map (Value.int .i64)))∧Hid (w.grownBy wx (some g)))
 case first =>
  cases bs with
  | nil =>
   simp only [List.length_nil]
   go_wp2_with fail
   go_meet
   exact⟨_,_,HW1,HO1,HG1⟩
  | cons b bl =>
   obtain⟨hn,hnc,hll,bb,off,ad,cd,rfl,hb,hci,hib⟩:=rows_head HR.out.2.2.1
   have hci1:=(HW1.out.same bb off hb).trans hci
   have hEw1:=HW1.out.size
   have hbw:bb < W1.heap.size:=by omega
   have h16:b.length=16:=HBS.out b (List.mem_cons_self ..)
   have HCL:=Lib.hid (cloneV_any (.slice ad b.length cd) (b.map (Value.int .i64)) W1 (hib.to hEw1 HW1.out.same).vals (ints_one b))
   have HT:=Lib.hid (show RowsR E w0 (.slice (some ⟨bb,off+1,none⟩) bl.length (c2 - 1)) bl from sl1_tail HR.out.2.2.1)
   have hgb:¬ g=bb:=by have:=HW1.out.ge;omega
   rw [h16] at hci1 HCL
   have hlen:(b :: bl).length=bl.length+1:=rfl
   rw [hlen] at q2
   have hpos:(0:Int) < ((bl.length+1:Nat):Int):=by omega
   simp only [hlen]
   clear hci hib hlen
   go_wp2_with fail
   refine HCL.out.mono ?_
   rintro e w2 ⟨v,rfl,hown,hb2⟩
   rw [List.length_map,h16] at hown
   obtain⟨a',c',rfl⟩:=own_shape hown
   have hx2:=block_below hb2 HX1.out hl1
   have q22:w2.cell? ⟨g,2,none⟩=some (.slice (some ⟨bb,off,none⟩) (bl.length+1) c2):=cell_block hx2 2
   have f22:=free_block hx2 2
   have f24:=free_block hx2 4
   have q24:w2.cell? ⟨g,4,none⟩=some (.slice (some ⟨w.heap.size,0,none⟩) 16 16):=cell_block hx2 4
   have hl2:g < w2.heap.size:=(Array.getElem?_eq_some_iff.1 hx2).1
   have HX2:=Lib.hid hx2
   have HB2:=Lib.hid hb2
   have hs2:=hb2.size
   have HOW:=Lib.hid (own_base hown (show w.heap.size≤W1.heap.size by have:=HS1.out;omega))
   have HWB2:Hid (WB w0 E g is vs (b :: bl) ds (.slice (some ⟨w.heap.size,0,none⟩) 16 16) k w2):=Lib.hid (HW1.out.kept (hb2.block g hl1) (fun q o hq=>World.cell?_of_block (hb2.block q (by omega))) hb2.size)
   have HGR:=Lib.hid (show w.grownBy w2 (some g) from grown_same HG1.out ⟨hb2.os,hb2.tape,hb2.output,hb2.size,fun q hq _=>hb2.block q hq⟩)
   clear hown hx2 hb2 q2 q4 f2 f4 hci1 hl1 hbw
   by_cases hc1:c2=1
   ·
    subst hc1
    have e0:bl=[]:=List.eq_nil_of_length_eq_zero (by omega)
    subst e0
    simp only [List.length_nil,Nat.zero_add] at q22
    go_wp2_with fail
    go_meet
    exact⟨a',c',Lib.hid ((HWB2.out.setBlk _).setRows sl1_none),Lib.hid ((HWB2.out.setBlk _).row (HWB2.out.row HOW.out _ _) _ _),Lib.hid (grown_same (grown_same HGR.out (grown_set _ _ _ _)) (grown_set _ _ _ _))⟩
   ·
    go_wp2_with fail
    go_meet
    exact⟨a',c',Lib.hid ((HWB2.out.setBlk _).setRows HT.out),Lib.hid ((HWB2.out.setBlk _).row (HWB2.out.row HOW.out _ _) _ _),Lib.hid (grown_same (grown_same HGR.out (grown_set _ _ _ _)) (grown_set _ _ _ _))⟩
 case rest =>
  clear q2 q4 f2 f4 hl1 HX1 HR HW1 HO1 HG1 HS1
  obtain⟨a4,c4,HW1,HO1,HG1⟩:=hcut
  have hl1:=HW1.out.lt
  obtain⟨b0,b1,b2,b3,d0,d1,d2,d3,hx,h1,h2,h3,h4⟩:=HW1.out.box
  have q3:wc.cell? ⟨g,3,none⟩=some (.slice b3 ds.length d3):=cell_block hx 3
  have q5:wc.cell? ⟨g,5,none⟩=some (.int .i64 k):=cell_block hx 5
  have f3:=free_block hx 3
  have f5:=free_block hx 5
  have HX1:=Lib.hid hx
  have HR3:=Lib.hid h4
  clear hx h1 h2 h3 h4
  cases ds with
  | nil =>
   simp only [List.length_nil] at q3
   go_wp2_with fail
   first | go_end0 | refine bodyPost_ret (results_none rfl _ _ _) rfl ?_
   exact⟨a4,c4,rfl,by simpa using HW1.out,HO1.out,HG1.out⟩
  | cons z l =>
   obtain⟨hn,hnc,b,off,rfl,hb,hci,hll⟩:=ints_head HR3.out
   have hcw:=(HW1.out.same b off hb).trans hci
   have hbw:b < wc.heap.size:=Nat.lt_of_lt_of_le hb HW1.out.size
   have HT:=Lib.hid (show Ints E w0 (.slice (some ⟨b,off+1,none⟩) l.length (d3 - 1)) l from sl1_tail HR3.out)
   have hgb:¬ g=b:=by have:=HW1.out.ge;omega
   have hz:=HDS.out z (List.mem_cons_self ..)
   have hw5:IntKind.i64.wrap (k+z)=k+z:=IntWalk.i64_in _ (by omega)
   simp only [List.length_cons] at q3 hn hnc
   have hpos:(0:Int) < ((l.length+1:Nat):Int):=by omega
   have HWD:=Lib.hid (fun q:Nat=>show WB w0 E g is vs bs.tail (z :: l) (.slice a4 16 c4) k (wc.drewN q) from ⟨HW1.out.box,HW1.out.same,HW1.out.size,HW1.out.ge⟩)
   have HOD:=Lib.hid (fun q:Nat=>show (wc.drewN q).ownsRow w.heap.size 3 1 (.slice a4 16 c4) 16 ((bs.headD zero16).map (Value.int .i64)) from HO1.out)
   have HGD:=Lib.hid (fun q:Nat=>show w.grownBy (wc.drewN q) (some g) from grown_drewN HG1.out q)
   clear hci hb hz HR3
   go_upto_region 5 with fail
   go_still_tail 14,(by kernel_rfl)
   by_cases hc1:d3=1
   ·
    subst hc1
    have e0:l=[]:=List.eq_nil_of_length_eq_zero (by omega)
    subst e0
    simp only [List.length_nil,Nat.zero_add] at q3
    go_wp2_with fail
    first | go_end0 | refine bodyPost_ret (results_none rfl _ _ _) rfl ?_
    exact⟨a4,c4,rfl,((HWD.out _).setDue _).setDels sl1_none,((HWD.out _).setDue _).row ((HWD.out _).row (HOD.out _) _ _) _ _,grown_same (grown_same (HGD.out _) (grown_set _ _ _ _)) (grown_set _ _ _ _)⟩
   ·
    go_wp2_with fail
    first | go_end0 | refine bodyPost_ret (results_none rfl _ _ _) rfl ?_
    exact⟨a4,c4,rfl,((HWD.out _).setDue _).setDels HT.out,((HWD.out _).setDue _).row ((HWD.out _).row (HOD.out _) _ _) _ _,grown_same (grown_same (HGD.out _) (grown_set _ _ _ _)) (grown_set _ _ _ _)⟩
end Go.Proofs.YtkahciebbnhobaaGreatDoor
namespace Go.Proofs.YtkahciebbnhobaaGreatDoor
open Go Go.RowKit Go.ChangeShapes Go.WideShapes Go.Deep
set_option linter.unusedVariables false
theorem GSt.aside {t fL fS:Nat} {v:Value} {St:World→(Nat→Prop)→List Int→Bool→Prop} (hM:MemI t fL fS v St) {w0 w w':World} {D:Nat→Prop} {cb gr cr:Nat} {vm:Value} {m:Mach} {wrote:Int} {x:Bool} {ao:Option Addr} {co:Nat} {F:Nat→Prop} (h:GSt St w0 D cb gr cr vm m wrote x ao co F w) {r:Option Nat} (hg:w.grownBy w' r) (hr:∀ q,r=some q→¬ Dn cb gr ao m.out.length co F q∧(D q∨w0.heap.size≤q)):GSt St w0 D cb gr cr vm m wrote x ao co F w':=by
 have hk:∀ q,Dn cb gr ao m.out.length co F q→some q≠r:=fun q hq e=>(hr q e.symm).1 hq
 refine⟨(hg.block cb h.clt (hk cb (Or.inl rfl))).trans h.box,h.regs.kept hg (Or.inr (fun e=>hk gr (Or.inr (Or.inl rfl)) e)),?_,?_,h.ro,h.fc,h.fr,h.fo,h.old.grown hg (fun q e=>(hr q e).2),h.dc,h.dr,h.df,h.dq⟩
 ·
  refine h.out.kept hg ?_
  cases hob:(Value.slice ao m.out.length co).ownBlock with
  | none=>exact Or.inl rfl
  | some q=>exact Or.inr (fun e=>hk q (Or.inr (Or.inr (Or.inr hob))) e)
 · exact hM.stay _ _ _ _ _ h.mem (fun q hq=>hg.block q (hM.lt _ _ _ _ h.mem q hq) (hk q (Or.inr (Or.inr (Or.inl hq))))) hg.size
theorem OutSt.outF {B:Nat} {ps:List (Ev × Value)} {a:Option Addr} {c:Nat} {w w':World} {F:Nat→Prop} (h:OutSt B ps a c w) (k:OutF F w w') (h1:∀ q,(Value.slice a ps.length c).ownBlock=some q→¬ F q) (h2:∀ p∈ps,∀ q,p.2.ownBlock=some q→¬ F q):OutSt B ps a c w':=
 ⟨own_out h.row k h1,fun p hp=>⟨own_out (h.data p hp).1 k (h2 p hp),(h.data p hp).2⟩⟩
theorem ints_out {w w':World} {base:Nat} {v:Value} {zs:List Int} {F:Nat→Prop} (h:w.ownsRow base 3 1 v zs.length (zs.map (Value.int .i64))) (hl:zs.length≤17592186043904) (hz:∀ z∈zs,I64 z) (k:OutF F w w') (hv:∀ q,v.ownBlock=some q→¬ F q):Ints w.heap.size w' v zs:=by
 have h2:=ints_of_owns (own_out h k hv) hl hz
 obtain⟨a,c,rfl,h3,h4,hc⟩:=h2
 refine⟨a,c,rfl,h3,h4,fun i hi=>?_⟩
 obtain⟨b,off,vi,ha,hb,hci,hvi⟩:=hc i hi
 refine⟨b,off,vi,ha,?_,hci,hvi⟩
 subst ha
 rcases h.2 with ⟨_,h0⟩ | ⟨g,cap,cur,hvv,hg,hgg,_⟩
 · omega
 ·
  injection hvv with e1
  injection e1 with e1
  injection e1 with e1
  rw [e1]
  exact (Array.getElem?_eq_some_iff.1 hgg).1
structure Kp (C:Nat→Prop) (ob:Nat) (ps:List (Ev × Value)) (aa:Option Addr) (ca:Nat) (vk:Value):Prop where
 ob:¬ C ob
 row:∀ q,(Value.slice aa ps.length ca).ownBlock=some q→¬ C q
 dat:∀ p∈ps,∀ q,p.2.ownBlock=some q→¬ C q
 blk:∀ q,vk.ownBlock=some q→¬ C q
structure Rq (w0:World) (E ob:Nat) (is vs:List Int) (bs:List (List Int)) (ds:List Int) (due:Int) (b:List Int) (ps:List (Ev × Value)) (aa:Option Addr) (ca:Nat) (ak:Option Addr) (nk ck:Nat) (w:World):Prop where
 wb:WB w0 E ob is vs bs ds (.slice ak nk ck) due w
 all:OutSt E ps aa ca w
 blk:0≤due→nk=16∧w.ownsRow E 3 1 (.slice ak nk ck) 16 (b.map (Value.int .i64))
 vlt:∀ q,(Value.slice ak nk ck).ownBlock=some q→q < w.heap.size
section
variable {w0 w w':World} {E ob:Nat} {is vs:List Int} {bs:List (List Int)} {ds:List Int} {due:Int} {b:List Int} {ps:List (Ev × Value)} {aa:Option Addr} {ca:Nat} {ak:Option Addr} {nk ck:Nat} {C:Nat→Prop}
theorem Rq.ran (h:Rq w0 E ob is vs bs ds due b ps aa ca ak nk ck w) (k:Kp C ob ps aa ca (.slice ak nk ck)) (ho:OutF C w w') (hE:∀ q,q < E→¬ C q):Rq w0 E ob is vs bs ds due b ps aa ca ak nk ck w':=
 ⟨h.wb.kept (ho.block ob h.wb.lt k.ob) (fun q o hq=>World.cell?_of_block (ho.block q (by have:=h.wb.size;omega) (hE q hq))) ho.size,h.all.outF ho k.row k.dat,fun h0=>⟨(h.blk h0).1,own_out (h.blk h0).2 ho k.blk⟩,fun q hq=>Nat.lt_of_lt_of_le (h.vlt q hq) ho.size⟩
theorem Kp.ran (k:Kp C ob ps aa ca (.slice ak nk ck)) (h:Rq w0 E ob is vs bs ds due b ps aa ca ak nk ck w) {C':Nat→Prop} (hc:∀ q,C' q→C q∨w.heap.size≤q):Kp C' ob ps aa ca (.slice ak nk ck):=
 ⟨fun q=>(hc _ q).elim k.ob (fun r=>by have:=h.wb.lt;omega),fun q hq c=>(hc q c).elim (k.row q hq) (fun r=>by have:=(h.all.row.lt q hq).2;omega),fun p hp q hq c=>(hc q c).elim (k.dat p hp q hq) (fun r=>by have:=((h.all.data p hp).1.lt q hq).2;omega),fun q hq c=>(hc q c).elim (k.blk q hq) (fun r=>by have:=h.vlt q hq;omega)⟩
theorem Rq.below (h:Rq w0 E ob is vs bs ds due b ps aa ca ak nk ck w) (hb:Below w.heap.size w w'):Rq w0 E ob is vs bs ds due b ps aa ca ak nk ck w':=
 ⟨h.wb.kept (hb.block ob h.wb.lt) (fun q o hq=>World.cell?_of_block (hb.block q (by have:=h.wb.size;omega))) hb.size,h.all.outF (OutF.of hb (fun _=>False)) (fun _ _ q=>q) (fun _ _ _ _ q=>q),fun h0=>⟨(h.blk h0).1,own_below (h.blk h0).2 hb (Nat.le_refl _)⟩,fun q hq=>Nat.lt_of_lt_of_le (h.vlt q hq) hb.size⟩
end
theorem ahead_met (is:List Int) (bs:List (List Int)) (s:RSs) (hw:∀ b∈bs,b.length=16):(aheadR is bs s).foldl appM s.m=metM is bs s:=by
 have h16:s.due=s.m.count→(blkR bs s).length=16:=by
  intro h
  unfold blkR
  rw [if_pos h]
  exact getD_mem hw rfl _
 unfold aheadR metM
 cases hi:irqR is s.m.count with
 | false =>
  by_cases hd:s.due=s.m.count
  ·
   rw [if_pos hd,if_neg (by decide),List.nil_append,irqM_false]
   show appM s.m ⟨s.m.count,2,blkR bs s⟩=_
   unfold appM blockM
   rw [if_neg (fun e=>absurd (show (2:Int)=1 from e) (by decide)),if_pos rfl,if_neg (by have:=h16 hd;omega)]
  ·
   rw [if_neg hd,if_neg (by decide),List.nil_append,irqM_false]
   have e:blkR bs s=[]:=by unfold blkR;rw [if_neg hd]
   rw [e,blockM_nil];rfl
 | true =>
  by_cases hd:s.due=s.m.count
  ·
   rw [if_pos hd,if_pos rfl]
   show appM (appM s.m ⟨s.m.count,1,[]⟩) ⟨s.m.count,2,blkR bs s⟩=_
   have e1:appM s.m ⟨s.m.count,1,[]⟩=irqM s.m true:=by unfold appM;rw [if_pos rfl]
   rw [e1]
   unfold appM blockM
   rw [if_neg (fun e=>absurd (show (2:Int)=1 from e) (by decide)),if_pos rfl,if_neg (by have:=h16 hd;omega)]
  ·
   rw [if_neg hd,if_pos rfl]
   have e:blkR bs s=[]:=by unfold blkR;rw [if_neg hd]
   rw [e,blockM_nil]
   show appM s.m ⟨s.m.count,1,[]⟩=_
   unfold appM;rw [if_pos rfl]
end Go.Proofs.YtkahciebbnhobaaGreatDoor
