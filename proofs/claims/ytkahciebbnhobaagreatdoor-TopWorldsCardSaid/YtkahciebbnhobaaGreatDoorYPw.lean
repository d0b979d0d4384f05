/- Several texts joined, each with its own heading in the notes: What a recording does not know of its world; a guest alone: in plain Lean. Contracts for the laws of worlds and of events: a clone of numbers, what is a block, a recording in a world with more. A tape and a guest that run. No condition beyond those of each row. -/
import Derived.Test.YtkahciebbnhobaaGreatDoorYPs
import Derived.Test.YtkahciebbnhobaaGreatDoorYKv
import Derived.Test.YtkahciebbnhobaaGreatDoorYEv
import Derived.Handy
import Derived.StillTailTactics
import Derived.Deep.LoopGhost
import Derived.Deep.RegionWith
import Derived.Deep.WholeRow
namespace Go.Proofs.YtkahciebbnhobaaGreatDoor
set_option linter.unusedVariables false
section
variable {is vs:List Int} {bs:List (List Int)} {ds:List Int}
theorem nv_mono (s:RSs):s.nv≤(recS is vs bs ds s).nv:=by
 show s.nv≤(if asksR is bs s then s.nv+1 else s.nv)
 split <;> omega
theorem recL_nv {n:Int}:∀ (f:Nat) (s:RSs),s.nv≤(recL is vs bs ds n f s).1.nv
 | 0,s=>Nat.le_refl _
 | f+1,s=>by
  rw [recL]
  split
  ·
   split
   · exact nv_mono s
   · exact Nat.le_trans (nv_mono s) (recL_nv f _)
  · exact Nat.le_refl _
theorem recS_more {s:RSs} {j v n:Int} (hj:n≤j) (hc:s.m.count < n) (hv:asksR is bs s=true→s.nv < vs.length):recS (is ++ [j]) (vs ++ [v]) bs ds s=recS is vs bs ds s:=by
 have hi:irqR (is ++ [j]) s.m.count=irqR is s.m.count:=by
  unfold irqR
  rw [Bool.eq_iff_iff]
  simp only [List.contains_iff_mem,List.mem_append,List.mem_singleton]
  exact⟨fun h=>h.resolve_right (by omega),Or.inl⟩
 have hm:metM (is ++ [j]) bs s=metM is bs s:=by unfold metM;rw [hi]
 have ha:asksR (is ++ [j]) bs s=asksR is bs s:=by unfold asksR;rw [hm]
 have hva:valR (is ++ [j]) (vs ++ [v]) bs s=valR is vs bs s:=by
  unfold valR
  rw [ha]
  by_cases h:asksR is bs s=true
  · rw [if_pos h,if_pos h,List.getD_eq_getElem?_getD,List.getD_eq_getElem?_getD,List.getElem?_append_left (hv h)]
  · rw [if_neg h,if_neg h]
 have hh:aheadR (is ++ [j]) bs s=aheadR is bs s:=by unfold aheadR;rw [hi]
 have hr:ranR (is ++ [j]) (vs ++ [v]) bs s=ranR is vs bs s:=by unfold ranR;rw [hm,hva]
 have hw:wantsR (is ++ [j]) (vs ++ [v]) bs s=wantsR is vs bs s:=by unfold wantsR;rw [hm,hr]
 unfold recS
 rw [hr,hh,ha,hva,hw]
theorem recL_more {j v n:Int} (hj:n≤j):∀ (f:Nat) (s:RSs),(recL is vs bs ds n f s).1.nv≤vs.length→recL (is ++ [j]) (vs ++ [v]) bs ds n f s=recL is vs bs ds n f s
 | 0,s,_=>rfl
 | f+1,s,h=>by
  by_cases hg:s.m.count < n∧s.m.fin=0
  ·
   rw [recL,if_pos hg] at h
   have hv:asksR is bs s=true→s.nv < vs.length:=fun ha=>by
    have e:(recS is vs bs ds s).nv=s.nv+1:=by
     show (if asksR is bs s then s.nv+1 else s.nv)=_
     rw [if_pos ha]
    split at h
    ·
     have h:(recS is vs bs ds s).nv≤vs.length:=h
     omega
    ·
     have:=recL_nv (is:=is) (vs:=vs) (bs:=bs) (ds:=ds) (n:=n) f (recS is vs bs ds s)
     omega
   have e:=recS_more (ds:=ds) (v:=v) hj hg.1 hv
   rw [recL,recL,if_pos hg,if_pos hg,e]
   by_cases q:1000 < (recS is vs bs ds s).all.length
   · rw [if_pos q,if_pos q]
   ·
    rw [if_neg q] at h
    rw [if_neg q,if_neg q]
    exact recL_more hj f _ h
  · rw [recL,recL,if_neg hg,if_neg hg]
def kvals (l:List Ev):Nat:=(l.filter (fun x=>decide (x.kind=3))).length
theorem kvals_app (a b:List Ev):kvals (a ++ b)=kvals a+kvals b:=by unfold kvals;rw [List.filter_append,List.length_append]
theorem kvals_ahead (s:RSs):kvals (aheadR is bs s)=0:=by
 unfold aheadR
 rw [kvals_app]
 have h1:kvals (if irqR is s.m.count then [⟨s.m.count,1,[]⟩] else [])=0:=by split <;> rfl
 have h2:kvals (if s.due=s.m.count then [⟨s.m.count,2,blkR bs s⟩] else [])=0:=by split <;> rfl
 omega
theorem nv_vals {s0:RSs} (h0:s0.nv=kvals s0.all):∀ k,(recI is vs bs ds s0 k).nv=kvals (recI is vs bs ds s0 k).all
 | 0=>h0
 | k+1=>by
  have ih:=nv_vals h0 k
  show (if asksR is bs (recI is vs bs ds s0 k) then (recI is vs bs ds s0 k).nv+1 else (recI is vs bs ds s0 k).nv)=kvals ((recI is vs bs ds s0 k).all ++ aheadR is bs (recI is vs bs ds s0 k) ++ (if asksR is bs (recI is vs bs ds s0 k) then [⟨(recI is vs bs ds s0 k).m.count,3,[valR is vs bs (recI is vs bs ds s0 k)]⟩] else []))
  rw [kvals_app,kvals_app,kvals_ahead]
  by_cases h:asksR is bs (recI is vs bs ds s0 k)=true
  ·
   rw [if_pos h,if_pos h]
   show _=_+0+1
   omega
  ·
   rw [if_neg h,if_neg h]
   show _=_+0+0
   omega
end
section
variable {img is vs:List Int} {bs:List (List Int)} {ds:List Int} {n:Int} {l:List UInt8} {N:Nat} {m:Mach}
theorem KRec.recL (h:KRec img is vs bs ds n l N m):recL is vs bs ds n n.toNat (recS0 img)=(recI is vs bs ds (recS0 img) N,false):=by
 have hle:=h.le
 have hcN:∀ k,k≤N→(recI is vs bs ds (recS0 img) k).m.count=k:=fun k hk=>(h.tape.at k hk).cnt
 have hnot:¬ ((recI is vs bs ds (recS0 img) N).m.count < n∧(recI is vs bs ds (recS0 img) N).m.fin=0):=fun q=>by
  rw [hcN N (Nat.le_refl _)] at q
  rcases h.end_ with e | e
  · omega
  · exact e q.2
 obtain⟨j,hj,hL,hgo,hend⟩:=recL_end2 (is:=is) (vs:=vs) (bs:=bs) (ds:=ds) (n:=n) n.toNat (recS0 img) (fun k hk hg=>by
  by_cases hkN:k≤N
  · exact h.tape.few k hkN
  · exact absurd (hg N (by omega)) hnot)
 have hjN:j=N:=by
  rcases Nat.lt_trichotomy j N with q | q | q
  ·
   rcases hend with e | e
   · omega
   · exact absurd ⟨by rw [hcN j (by omega)];omega,h.tape.go j q⟩ e
  · exact q
  · exact absurd (hgo N q) hnot
 rw [hL,hjN]
theorem keep_more {j v c:Int} {l':List UInt8} {cnt':Int} {i2:List Int} {m':Mach} (hr:RecR img (is ++ [j]) (vs ++ [v]) bs ds n c l' cnt' i2 m') (h:KRec img is vs bs ds n l N m) (hi:newC img=0) (hw:W20 is vs bs ds) (h0:0≤n) (h1:n≤500) (hj:n≤j) (hj2:j≤3000) (hv:WordZ v) (hk:kvals (recI is vs bs ds (recS0 img) N).all≤vs.length):c=0∧i2=img∧cnt'=N∧l'=l∧m'=m:=by
 have hwc:=world20_ok hw
 have e1:=recL_more (is:=is) (vs:=vs) (bs:=bs) (ds:=ds) (v:=v) hj n.toNat (recS0 img) (by
  rw [h.recL]
  show (recI is vs bs ds (recS0 img) N).nv≤_
  rw [nv_vals (is:=is) (vs:=vs) (bs:=bs) (ds:=ds) (s0:=recS0 img) rfl N]
  exact hk)
 have hw2:worldC (is ++ [j]) (vs ++ [v]) bs ds=0:=by
  have hwd:=worldC_ok hwc
  have l1:=hw.li;have l2:=hw.lv;have l3:=hw.lb;have l4:=hw.ld
  have g1:¬ (1000 < is.length∨1000 < vs.length∨1000 < bs.length∨1000 < ds.length):=by omega
  have g2:¬ (vs.any oddB=true∨is.any farB=true∨ds.any farB=true):=fun q=>by
   unfold worldC at hwc
   rw [if_neg g1,if_pos q] at hwc
   cases hwc
  have hb:blocksC bs=0:=(worldC_go g1 g2).trans hwc
  have ov:oddB v=false:=by
   have:=of_words (zs:=[v]) (fun z hz=>by rw [List.mem_singleton.1 hz];exact hv)
   simpa using this
  have fj:farB j=false:=by
   cases e:farB j with
   | false=>rfl
   | true=>exact absurd e (by unfold farB;simp;omega)
  rw [← worldC_go (by simp;omega) ?_]
  · exact hb
  ·
   rw [List.any_append,List.any_append,List.any_cons,List.any_nil,List.any_cons,List.any_nil,ov,fj]
   simpa using g2
 have hr2:RecR img is vs bs ds n c l' cnt' i2 m':=by
  rcases hr with ⟨q,_⟩ | ⟨_,q,_⟩ | ⟨_,_,q,_⟩ | ⟨q1,_,q3,q4,q5⟩
  · exact absurd hi q
  · exact absurd hw2 q
  · omega
  ·
   rw [e1] at q5
   exact Or.inr (Or.inr (Or.inr ⟨q1,hwc,q3,q4,q5⟩))
 obtain⟨rfl,rfl,N',rfl,hK⟩:=keep_rec hr2 hi hw h0 h1
 have eN:N'=N:=by
  have:=hK.recL.symm.trans h.recL
  have e2:=congrArg (fun p=>p.1.m.count) this
  have e3:(recI is vs bs ds (recS0 i2) N').m.count=N':=(hK.tape.at N' (Nat.le_refl _)).cnt
  have e4:(recI is vs bs ds (recS0 i2) N).m.count=N:=(h.tape.at N (Nat.le_refl _)).cnt
  simp only at e2
  omega
 subst eN
 exact⟨rfl,rfl,rfl,hK.enc.trans h.enc.symm,hK.mach.trans h.mach.symm⟩
theorem alone (h:KRec img [] [] [] [] n l N m) (hno:∀ x∈(recI [] [] [] [] (recS0 img) N).all,x.kind≠2):runM [] (imageM img) N=m:=by
 have key:∀ k,k≤N→runM [] (imageM img) k=(recI [] [] [] [] (recS0 img) k).m:=by
  intro k
  induction k with
  | zero=>intro _;rfl
  | succ k ih =>
   intro hk
   have ihk:=ih (by omega)
   have hb:blkR [] (recI [] [] [] [] (recS0 img) k)=[]:=by
    unfold blkR
    by_cases hd:(recI [] [] [] [] (recS0 img) k).due=(recI [] [] [] [] (recS0 img) k).m.count
    ·
     exfalso
     obtain⟨r,h1,_⟩:=h.tape.pre (k+1) (N - (k+1)) (by omega)
     rw [show k+1+(N - (k+1))=N by omega] at h1
     refine hno ⟨(recI [] [] [] [] (recS0 img) k).m.count,2,blkR [] (recI [] [] [] [] (recS0 img) k)⟩ ?_ rfl
     rw [h1]
     refine List.mem_append_left _ (List.mem_append_left _ (List.mem_append_right _ (List.mem_append_right _ ?_)))
     rw [if_pos hd]
     exact List.mem_singleton.2 rfl
    · rw [if_neg hd]
   have hv:valR [] [] [] (recI [] [] [] [] (recS0 img) k)=0:=by
    unfold valR
    split <;> rfl
   show (onM (runM [] (imageM img) k) [] (k:Int)).1=ranR [] [] [] (recI [] [] [] [] (recS0 img) k)
   rw [ihk,ranR_step,hb,hv]
   rfl
 rw [key N (Nat.le_refl _),h.mach]
end
end Go.Proofs.YtkahciebbnhobaaGreatDoor
namespace Go.Proofs.YtkahciebbnhobaaGreatDoor
open Go Go.RowKit Go.ChangeShapes Go.WideShapes Go.Deep
set_option maxHeartbeats 4000000
set_option maxRecDepth 100000
set_option linter.unusedVariables false
attribute [local go_sem ↓] Go.wp_at_zero Go.wp_at_succ
theorem kvals_take {l:List Ev} {k:Nat} (h:k < l.length):kvals (l.take (k+1))=kvals (l.take k)+if l[k].kind=3 then 1 else 0:=by
 rw [List.take_succ_eq_append_getElem h,kvals_app]
 congr 1
 unfold kvals
 by_cases q:l[k].kind=3 <;> simp [q]
theorem kvals_le (l:List Ev):kvals l≤l.length:=List.length_filter_le _ _
/-! ### A guest that is alone -/
theorem evres_none:EvRes [] 0:=Or.inr (Or.inr ⟨by simp,fun j hj=>absurd hj (Nat.not_lt_zero _),rfl⟩)
theorem enc_none_len:(encE []).length=5:=by unfold encE payE;rw [List.length_append,show (sumB _).length=4 from rfl];simp [sevens_small,evsE]
theorem chk_none {img:List Int} (h:newC img=0) {N:Nat} (hN:N≤3000):ChkR img (encE []) N 0 []:=
 Or.inr (Or.inr ⟨h,by omega,by omega,0,[],dec_enc evres_none (by rw [enc_none_len];omega) (by rw [enc_none_len];omega),Or.inr (Or.inr ⟨rfl,fun i hi=>absurd hi (Nat.not_lt_zero _),rfl,rfl⟩)⟩)
theorem rep_none {img:List Int} (h:newC img=0) {N:Nat} (hN:N≤3000):RepR img (encE []) N N (runM [] (imageM img) N) 0:=
 ⟨0,[],chk_none h hN,Or.inr (Or.inr ⟨rfl,by omega,Int.le_refl _,rfl,by rw [Int.toNat_natCast]⟩)⟩
theorem setCells_same {g k:Nat} (hne:k≠g):∀ (vs:List Value) (i:Nat) (w:World),(setCells w g i vs).heap[k]? = w.heap[k]?
 | [],_,_=>rfl
 | v :: vs,i,w=>(setCells_same hne vs (i+1) _).trans (Below.heap_setCell w ⟨g,i,none⟩ v k hne)
theorem setCells_kit (g:Nat):∀ (vs:List Value) (i:Nat) (w:World),setCells w g i vs=w.setCells g i vs
 | [],_,_=>rfl
 | v :: vs,i,w=>setCells_kit g vs (i+1) _
theorem setRow_eq {w:World} {g:Nat} {t:TypeId} {old:Array Value} {vs:List Value} (h:w.heap[g]? = some (.cells old t (0,0))) (hl:vs.length=old.size) (h1:∀ v∈vs,v.oneCell'=true):w.setRow g vs.toArray=setCells w g 0 vs:=by
 have e1:=run_storeCells_from (P:=Tryz.prog) g t vs 0 old w h (by omega) h1
 have e2:=run_storeCells_cells (P:=Tryz.prog) g 0 vs 0 w (fun j hj=>by rw [cell_block h];simp;omega) (fun j hj=>free_block h _) h1
 rw [e2] at e1
 injection e1 with _ e1
 rw [setCells_kit]
 simpa using e1.symm
theorem run_store_mach {w:World} {g:Nat} {M:Mach} {ar am ao:Option Addr} {cr cm co:Nat} (h:w.heap[g]? = some (.cells #[.slice none 0 0,.int .i64 0,.int .i64 0,.bool false,.bool false,.int .i64 0,.int .i64 0,.int .i64 0,.slice none 0 0,.slice none 0 0,.int .i64 0,.int .i64 0] 34 (0,0))):(Instr.storeAt 34 (.pointer (some ⟨g,0,none⟩)) (.agg #[.slice ar M.regs.length cr,.int .i64 M.pc,.int .i64 M.back,.bool M.ints,.bool M.wait,.int .i64 M.table,.int .i64 M.count,.int .i64 M.fin,.slice am M.mem.length cm,.slice ao M.out.length co,.int .i64 M.ready,.int .i64 M.want])).run Tryz.prog w=.ok () (setCells w g 0 [.slice ar M.regs.length cr,.int .i64 M.pc,.int .i64 M.back,.bool M.ints,.bool M.wait,.int .i64 M.table,.int .i64 M.count,.int .i64 M.fin,.slice am M.mem.length cm,.slice ao M.out.length co,.int .i64 M.ready,.int .i64 M.want]):=by
 rw [← setRow_eq (vs:=[.slice ar M.regs.length cr,.int .i64 M.pc,.int .i64 M.back,.bool M.ints,.bool M.wait,.int .i64 M.table,.int .i64 M.count,.int .i64 M.fin,.slice am M.mem.length cm,.slice ao M.out.length co,.int .i64 M.ready,.int .i64 M.want]) h rfl (by intro v hv;simp at hv;rcases hv with rfl | rfl | rfl | rfl | rfl | rfl | rfl | rfl | rfl | rfl | rfl | rfl <;> rfl)]
 simp only [Instr.storeAt,Instr.sureAddr,Sem.run_bind,Sem.run_pure,Result.andThen]
 exact run_storeVar_row _ _ 34 _ _ _ h (by kernel_rfl) rfl (by simp [Value.oneCell'])
def stWp (p v : Value) (a : Act) (w : World) (K : Act → World → Prop) (Q : Exit → Act → World → Prop) : Prop := Oper.wp Tryz.prog { dst := none, op := .store 34 (.const p) (.const v), type := 0, pos := "", after := #[], guard := none } a w K Q
theorem oper_st {x y:Operand} {ty:TypeId} {pos:String} {after:Array _} {a:Act} {w:World} {K:Act→World→Prop} {Q:Exit→Act→World→Prop}:Oper.wp Tryz.prog { dst:=none,op:=.store 34 x y,type:=ty,pos:=pos,after:=after,guard:=none } a w K Q=stWp (a.eval x) (a.eval y) a w K Q:=rfl
theorem st_mach {w:World} {g:Nat} {M:Mach} {ar am ao:Option Addr} {cr cm co:Nat} {a:Act} {K:Act→World→Prop} {Q:Exit→Act→World→Prop} (h:w.heap[g]? = some (.cells #[.slice none 0 0,.int .i64 0,.int .i64 0,.bool false,.bool false,.int .i64 0,.int .i64 0,.int .i64 0,.slice none 0 0,.slice none 0 0,.int .i64 0,.int .i64 0] 34 (0,0))):stWp (.pointer (some ⟨g,0,none⟩)) (.agg #[.slice ar M.regs.length cr,.int .i64 M.pc,.int .i64 M.back,.bool M.ints,.bool M.wait,.int .i64 M.table,.int .i64 M.count,.int .i64 M.fin,.slice am M.mem.length cm,.slice ao M.out.length co,.int .i64 M.ready,.int .i64 M.want]) a w K Q=K (a.put none undef) (setCells w g 0 [.slice ar M.regs.length cr,.int .i64 M.pc,.int .i64 M.back,.bool M.ints,.bool M.wait,.int .i64 M.table,.int .i64 M.count,.int .i64 M.fin,.slice am M.mem.length cm,.slice ao M.out.length co,.int .i64 M.ready,.int .i64 M.want]):=by
 unfold stWp Oper.wp execOp
 simp only [Act.eval,run_store_mach h,Sem.run_bind,Sem.run_pure,Result.andThen_ok]
 rfl
theorem st_fresh {w:World} {g:Nat} {M:Mach} {ar am ao:Option Addr} {cr cm co:Nat} {a:Act} {K:Act→World→Prop} {Q:Exit→Act→World→Prop} (h:w.heap.size=g):stWp (.pointer (some ⟨g,0,none⟩)) (.agg #[.slice ar M.regs.length cr,.int .i64 M.pc,.int .i64 M.back,.bool M.ints,.bool M.wait,.int .i64 M.table,.int .i64 M.count,.int .i64 M.fin,.slice am M.mem.length cm,.slice ao M.out.length co,.int .i64 M.ready,.int .i64 M.want]) a (w.alloc (.cells #[.slice none 0 0,.int .i64 0,.int .i64 0,.bool false,.bool false,.int .i64 0,.int .i64 0,.int .i64 0,.slice none 0 0,.slice none 0 0,.int .i64 0,.int .i64 0] 34 (0,0))) K Q=K (a.put none undef) (w.alloc (.cells #[.slice ar M.regs.length cr,.int .i64 M.pc,.int .i64 M.back,.bool M.ints,.bool M.wait,.int .i64 M.table,.int .i64 M.count,.int .i64 M.fin,.slice am M.mem.length cm,.slice ao M.out.length co,.int .i64 M.ready,.int .i64 M.want] 34 (0,0))):=by
 have h1:(w.alloc (.cells #[.slice none 0 0,.int .i64 0,.int .i64 0,.bool false,.bool false,.int .i64 0,.int .i64 0,.int .i64 0,.slice none 0 0,.slice none 0 0,.int .i64 0,.int .i64 0] 34 (0,0))).heap[g]? = some (.cells #[.slice none 0 0,.int .i64 0,.int .i64 0,.bool false,.bool false,.int .i64 0,.int .i64 0,.int .i64 0,.slice none 0 0,.slice none 0 0,.int .i64 0,.int .i64 0] 34 (0,0)):=alloc_at h.symm
 rw [st_mach h1,← setRow_eq (vs:=[.slice ar M.regs.length cr,.int .i64 M.pc,.int .i64 M.back,.bool M.ints,.bool M.wait,.int .i64 M.table,.int .i64 M.count,.int .i64 M.fin,.slice am M.mem.length cm,.slice ao M.out.length co,.int .i64 M.ready,.int .i64 M.want]) h1 rfl (by intro v hv;simp at hv;rcases hv with rfl | rfl | rfl | rfl | rfl | rfl | rfl | rfl | rfl | rfl | rfl | rfl <;> rfl),← h,World.setRow_alloc_new]
/-! The same for a tape. -/
theorem run_store_tape {w:World} {g:Nat} {ti bi:Option Addr} {tn tc bn bc:Nat} {tk:Int} (h:w.heap[g]? = some (.cells #[.slice none 0 0,.slice none 0 0,.int .i64 0] 32 (0,0))):(Instr.storeAt 32 (.pointer (some ⟨g,0,none⟩)) (.agg #[.slice ti tn tc,.slice bi bn bc,.int .i64 tk])).run Tryz.prog w=.ok () (setCells w g 0 [.slice ti tn tc,.slice bi bn bc,.int .i64 tk]):=by
 rw [← setRow_eq (vs:=[.slice ti tn tc,.slice bi bn bc,.int .i64 tk]) h rfl (by intro v hv;simp at hv;rcases hv with rfl | rfl | rfl <;> rfl)]
 simp only [Instr.storeAt,Instr.sureAddr,Sem.run_bind,Sem.run_pure,Result.andThen]
 exact run_storeVar_row _ _ 32 _ _ _ h (by kernel_rfl) rfl (by simp [Value.oneCell'])
def stTp (p v : Value) (a : Act) (w : World) (K : Act → World → Prop) (Q : Exit → Act → World → Prop) : Prop := Oper.wp Tryz.prog { dst := none, op := .store 32 (.const p) (.const v), type := 0, pos := "", after := #[], guard := none } a w K Q
theorem oper_stT {x y:Operand} {ty:TypeId} {pos:String} {after:Array _} {a:Act} {w:World} {K:Act→World→Prop} {Q:Exit→Act→World→Prop}:Oper.wp Tryz.prog { dst:=none,op:=.store 32 x y,type:=ty,pos:=pos,after:=after,guard:=none } a w K Q=stTp (a.eval x) (a.eval y) a w K Q:=rfl
theorem st_tape {w:World} {g:Nat} {ti bi:Option Addr} {tn tc bn bc:Nat} {tk:Int} {a:Act} {K:Act→World→Prop} {Q:Exit→Act→World→Prop} (h:w.heap[g]? = some (.cells #[.slice none 0 0,.slice none 0 0,.int .i64 0] 32 (0,0))):stTp (.pointer (some ⟨g,0,none⟩)) (.agg #[.slice ti tn tc,.slice bi bn bc,.int .i64 tk]) a w K Q=K (a.put none undef) (setCells w g 0 [.slice ti tn tc,.slice bi bn bc,.int .i64 tk]):=by
 unfold stTp Oper.wp execOp
 simp only [Act.eval,run_store_tape h,Sem.run_bind,Sem.run_pure,Result.andThen_ok]
 rfl
theorem heap_new_ne {k:Nat} {o:Obj} {w:World} (hne:k≠w.heap.size):(w.alloc o).heap[k]? = w.heap[k]?:=by
 show (w.heap.push o)[k]? = _
 rw [Array.getElem?_push,if_neg hne]
theorem size_set {g:Nat}:∀ (vs:List Value) (i:Nat) (w:World),(setCells w g i vs).heap.size=w.heap.size
 | [],_,_=>rfl
 | v :: vs,i,w=>(size_set vs (i+1) _).trans (by simp)
theorem stored_keep {W:World} {g k o:Nat} {vs:List Value} {u:Value} (hne:k≠g) (h:W.cell? ⟨k,o,none⟩=some u):(setCells W g 0 vs).cell? ⟨k,o,none⟩=some u:=by
 have e:=setCells_same hne vs 0 W
 rw [← h]
 unfold World.cell?
 simp only [e]
theorem stored_mach {W A0:World} {g base B:Nat} {M:Mach} {ar am ao:Option Addr} {cr cm co:Nat} (hx:W.heap[g]? = some (.cells #[.slice none 0 0,.int .i64 0,.int .i64 0,.bool false,.bool false,.int .i64 0,.int .i64 0,.int .i64 0,.slice none 0 0,.slice none 0 0,.int .i64 0,.int .i64 0] 34 (0,0))) (ho:MachOwn base W M (.slice ar M.regs.length cr) (.slice am M.mem.length cm) (.slice ao M.out.length co)) (hb:Below B A0 W) (hg:B≤g) (hok:MOk M):∃ V,V=setCells W g 0 [.slice ar M.regs.length cr,.int .i64 M.pc,.int .i64 M.back,.bool M.ints,.bool M.wait,.int .i64 M.table,.int .i64 M.count,.int .i64 M.fin,.slice am M.mem.length cm,.slice ao M.out.length co,.int .i64 M.ready,.int .i64 M.want]∧V.heap[g]? = some (.cells #[.slice ar M.regs.length cr,.int .i64 M.pc,.int .i64 M.back,.bool M.ints,.bool M.wait,.int .i64 M.table,.int .i64 M.count,.int .i64 M.fin,.slice am M.mem.length cm,.slice ao M.out.length co,.int .i64 M.ready,.int .i64 M.want] 34 (0,0))∧MachR V.heap.size V (.agg #[.slice ar M.regs.length cr,.int .i64 M.pc,.int .i64 M.back,.bool M.ints,.bool M.wait,.int .i64 M.table,.int .i64 M.count,.int .i64 M.fin,.slice am M.mem.length cm,.slice ao M.out.length co,.int .i64 M.ready,.int .i64 M.want]) M∧Below B A0 V:=by
 obtain⟨V,hV⟩:∃ V,V=setCells W g 0 [.slice ar M.regs.length cr,.int .i64 M.pc,.int .i64 M.back,.bool M.ints,.bool M.wait,.int .i64 M.table,.int .i64 M.count,.int .i64 M.fin,.slice am M.mem.length cm,.slice ao M.out.length co,.int .i64 M.ready,.int .i64 M.want]:=⟨_,rfl⟩
 have hown:∀ {v:Value} {k:Nat} {zs:List Value},W.ownsRow base 3 1 v k zs→V.ownsRow base 3 1 v k zs:=fun h=>by rw [hV];exact setCells_own (own_ne_block h hx (by decide)) _ _ _ h
 exact⟨V,hV,by rw [hV];exact setCells_all (old:=[.slice none 0 0,.int .i64 0,.int .i64 0,.bool false,.bool false,.int .i64 0,.int .i64 0,.int .i64 0,.slice none 0 0,.slice none 0 0,.int .i64 0,.int .i64 0]) rfl hx,mach_r hok { ho with hr:=hown ho.hr,hm:=hown ho.hm,ho:=hown ho.ho },by rw [hV];exact setCells_below hg _ _ _ hb⟩
theorem repnone_any (vi vb:Value) (img:List Int) (N:Nat) (w:World) (ht:Tab w) (hi:Ints w.heap.size w vi img) (hb:BytesR w.heap.size w vb (encE [])) (hnc:newC img=0) (hN:N≤3000) {M:Mach} (hM:M=runM [] (imageM img) N):Calls Tryz.prog 17 #[.agg #[vi,vb,.int .i64 N],.int .i64 N] w fun e w' =>∃ar cr am cm ao co,e=.returned (.tuple #[.agg #[.slice ar M.regs.length cr,.int .i64 M.pc,.int .i64 M.back,.bool M.ints,.bool M.wait,.int .i64 M.table,.int .i64 M.count,.int .i64 M.fin,.slice am M.mem.length cm,.slice ao M.out.length co,.int .i64 M.ready,.int .i64 M.want],.int .i64 0])∧MachOwn w.heap.size w' M (.slice ar M.regs.length cr) (.slice am M.mem.length cm) (.slice ao M.out.length co)∧MOk M∧Below w.heap.size w w':=by
 refine (replay_any vi vb img (encE []) N N w ht hi hb (by unfold I64;omega) (by unfold I64;omega)).mono ?_
 rintro e w1 ⟨m2,c,hrep,ar,cr,am,cm,ao,co,he,hown,hb1⟩
 obtain⟨rfl,rfl⟩:=(rep_none hnc hN).det hrep
 rw [← hM] at he hown
 exact⟨ar,cr,am,cm,ao,co,he,hown,(by rw [hM];exact (runM_ok ⟨fun x hx=>(by cases hx),List.Pairwise.nil⟩ (imgM_ok hnc).1 rfl N hN).1),hb1⟩
theorem imgz_ints (v:Value) (xs:List Rw) (w:World) (h:RawsR w.heap.size w v xs):Calls Tryz.prog 10 #[v] w fun e w' =>∃a c,e=.returned (.slice a (imgZ xs).length c)∧Ints w'.heap.size w' (.slice a (imgZ xs).length c) (imgZ xs)∧newC (imgZ xs)=0∧(imgZ xs).length≤64∧Below w.heap.size w w':=by
 refine (image_at v xs w h).mono ?_
 rintro e w' ⟨a,c,n,rfl,hn,ho,hb⟩
 have hl:=ho.len
 subst hl
 exact⟨a,c,rfl,ints_of_owns ho.own (by omega) (fun z hz=>(ho.word z hz).i64),newC_words (by omega) ho.word,hn,hb⟩
/-! ### Is a block among events? -/
theorem isblk_any (x:Ev) (vd:Value) (w:World):Calls Tryz.prog 19 #[.agg #[.int .i64 x.at_,.int .i64 x.kind,vd]] w fun e w'=>e=.returned (.bool (decide (x.kind=2)))∧Below w.heap.size w w':=by
 generalize x.at_=q1
 generalize x.kind=q2
 have HB:=Lib.hid (below_alloc w (.cells #[.int .i64 q1,.int .i64 q2,vd] 43 (0,0)))
 go_enter Tryz.func19,Tryz.ntmps19
 go_wp2
 go_ret
 exact⟨rfl,HB.out⟩
theorem idxE_any (v : Value) (l : List Ev) (w : World) (hv : EvsR w.heap.size w v l) :
  Calls Tryz.prog 41 #[v,.func (.func 19) #[] #[]] w fun e w'=>(∃ i:Int,e=.returned (.int .i64 i)∧((0≤i)=(l.any (fun x=>decide (x.kind=2))=true)))∧Below w.heap.size w w':=by
 obtain⟨a,c,rfl,hl,hl2,hc⟩:=hv
 have HC:=Lib.hid hc
 have eg:∀ args w,(callFunc 19 args).run Tryz.prog w=.ok (.enter 19 args) w:=enters_of Tryz.func19 (by kernel_rfl) rfl
 clear hc
 go_enter Tryz.func41,Tryz.ntmps41
 go_wp2
 go_loopg [5,8] l.length (fun gg _ s8 wr =>∃k:Nat,k≤l.length∧l.length - k≤gg∧s8=.int .i64 k∧Hid (Below w.heap.size w wr)∧Hid ((l.take k).any (fun x=>decide (x.kind=2))=false))
 case atStart=>exact⟨0,Nat.zero_le _,by omega,rfl,Lib.hid (Below.refl _ _),Lib.hid rfl⟩
 case round =>
  obtain⟨k,hk,hg,rfl,HB,A⟩:=hrel
  by_cases hlt:k < l.length
  ·
   obtain⟨b,off,cs,rfl,hbb,hcs,hcell,ad,cd,rfl,i1,i2,hi⟩:=HC.out k hlt
   have r0:wr.cell? ⟨b,off+k * 3,none⟩=some (.int .i64 l[k].at_):=(same_below HB.out b _ hbb).trans (hcell 0 (by simp))
   have r1:wr.cell? ⟨b,off+k * 3+1,none⟩=some (.int .i64 l[k].kind):=(same_below HB.out b _ hbb).trans (hcell 1 (by simp))
   have r2:wr.cell? ⟨b,off+k * 3+2,none⟩=some (.slice ad l[k].data.length cd):=(same_below HB.out b _ hbb).trans (hcell 2 (by simp))
   have hcall:=Lib.hid (isblk_any l[k] (.slice ad l[k].data.length cd) wr)
   have HT:=Lib.hid (show ∀ b,decide (l[k].kind=2)=b→(l.take (k+1)).any (fun x=>decide (x.kind=2))=b from fun b hb=>by
    rw [List.take_succ_eq_append_getElem hlt,List.any_append,A.out]
    simp only [List.any_cons,List.any_nil,Bool.or_false,Bool.false_or]
    exact hb)
   have HH:=Lib.hid (show decide (l[k].kind=2)=true→l.any (fun x=>decide (x.kind=2))=true from fun h=>List.any_eq_true.2 ⟨_,List.getElem_mem hlt,h⟩)
   have hk1:(k:Int) < (l.length:Int):=by omega
   clear hcell hcs hi
   generalize l[k]=x at *
   generalize decide (x.kind=2)=q at *
   obtain⟨xat,xkd,xda⟩:=x
   simp only at r0 r1 r2 hcall
   cases q with
   | true =>
    have HQ:=Lib.hid (HH.out rfl)
    go_wp2_with (go_at_fn 19;refine hcall.out.mono ?_;rintro e w' ⟨rfl,hbw⟩)
    go_ret
    exact⟨⟨k,rfl,by simp [HQ.out]⟩,HB.out.trans (hbw.mono HB.out.size)⟩
   | false =>
    go_wp2_with (go_at_fn 19;refine hcall.out.mono ?_;rintro e w' ⟨rfl,hbw⟩)
    go_roundg (l.length - (k+1))
    case measure=>omega
    case rel=>exact⟨k+1,by omega,by omega,by go_num,Lib.hid (HB.out.trans (hbw.mono HB.out.size)),Lib.hid (HT.out _ rfl)⟩
  ·
   have hm:l.any (fun x=>decide (x.kind=2))=false:=by have:=A.out;rw [List.take_of_length_le (by omega)] at this;exact this
   have HM:=Lib.hid hm
   clear hm
   go_wp2
   go_ret
   exact⟨⟨-1,rfl,by simp [HM.out]⟩,HB.out⟩
theorem containsE_any (v : Value) (l : List Ev) (w : World) (hv : EvsR w.heap.size w v l) :
  Calls Tryz.prog 18 #[v,.func (.func 19) #[] #[]] w fun e w'=>e=.returned (.bool (l.any (fun x=>decide (x.kind=2))))∧Below w.heap.size w w':=by
 have HI:=Lib.hid (idxE_any v l w hv)
 clear hv
 go_enter Tryz.func18,Tryz.ntmps18
 go_wp2_with fail
 refine HI.out.mono ?_
 rintro e w' ⟨⟨i,rfl,h3⟩,hb⟩
 have H3:=Lib.hid h3
 have HB:=Lib.hid hb
 clear h3 hb
 go_wp2
 go_ret
 refine⟨ret_bool ?_,HB.out⟩
 rw [Bool.eq_iff_iff,decide_eq_true_iff,H3.out]
end Go.Proofs.YtkahciebbnhobaaGreatDoor
namespace Go.Proofs.YtkahciebbnhobaaGreatDoor
open Go Go.RowKit Go.ChangeShapes Go.WideShapes Go.Deep
set_option linter.unusedVariables false
def RecO (img:List Int) (l:List UInt8) (N:Nat) (m:Mach) (w:World) (e:Ending) (w':World):Prop:=∃ (ai ab ar am ao:Option Addr) (ci cb cr cm co:Nat),e=.returned (.tuple #[.agg #[.slice ai img.length ci,.slice ab l.length cb,.int .i64 N],.agg #[.slice ar m.regs.length cr,.int .i64 m.pc,.int .i64 m.back,.bool m.ints,.bool m.wait,.int .i64 m.table,.int .i64 m.count,.int .i64 m.fin,.slice am m.mem.length cm,.slice ao m.out.length co,.int .i64 m.ready,.int .i64 m.want],.int .i64 0])∧(w'.ownsRow w.heap.size 3 1 (.slice ai img.length ci) img.length (img.map (Value.int .i64))∧w'.ownsRow w.heap.size 5 1 (.slice ab l.length cb) l.length (bv l)∧MachOwn w.heap.size w' m (.slice ar m.regs.length cr) (.slice am m.mem.length cm) (.slice ao m.out.length co))∧Below w.heap.size w w'
theorem kreco_any (ai a0 a1 a2 a3:Option Addr) (ci c0 c1 c2 c3:Nat) (img is vs:List Int) (bs:List (List Int)) (ds:List Int) (n:Int) (w:World) (ht:Tab w) (hi:Ints w.heap.size w (.slice ai img.length ci) img) (h0:Ints w.heap.size w (.slice a0 is.length c0) is) (h1:Ints w.heap.size w (.slice a1 vs.length c1) vs) (h2:RowsR w.heap.size w (.slice a2 bs.length c2) bs) (h3:Ints w.heap.size w (.slice a3 ds.length c3) ds) (hn0:0≤n) (hn1:n≤500) (hnc:newC img=0) (hw:W20 is vs bs ds):Calls Tryz.prog 9 #[.slice ai img.length ci,.agg #[.slice a0 is.length c0,.slice a1 vs.length c1,.slice a2 bs.length c2,.slice a3 ds.length c3],.int .i64 n] w fun e w' =>∃(l:List UInt8) (N:Nat) (m:Mach),KRec img is vs bs ds n l N m∧RecO img l N m w e w':=by
 refine (record_any ai ci a0 a1 a2 a3 c0 c1 c2 c3 img is vs bs ds n w ht hi h0 h1 h2 h3 (by unfold I64;omega)).mono ?_
 rintro e w5 ⟨cc,l,cnt,i2,m,vi,vb,ar,cr,am,cm,ao,co,hR,rfl,hvi,hvb,hbd,hmo,hb5⟩
 obtain⟨rfl,hi2,N,rfl,hK⟩:=keep_rec hR hnc hw hn0 hn1
 subst hi2
 obtain⟨ai,ci,rfl⟩:=own_shape hvi
 obtain⟨ab,cb,rfl⟩:=own_shape hvb
 exact⟨l,N,m,hK,ai,ab,ar,am,ao,ci,cb,cr,cm,co,rfl,⟨hvi,hvb,hmo⟩,hb5⟩
theorem krecmo_any (ai a0 a1 a2 a3:Option Addr) (ci c0 c1 c2 c3:Nat) (img is vs:List Int) (bs:List (List Int)) (ds:List Int) (n j v:Int) (l:List UInt8) (N:Nat) (m:Mach) (w:World) (ht:Tab w) (hi:Ints w.heap.size w (.slice ai img.length ci) img) (h0:Ints w.heap.size w (.slice a0 (is.length+1) c0) (is ++ [j])) (h1:Ints w.heap.size w (.slice a1 (vs.length+1) c1) (vs ++ [v])) (h2:RowsR w.heap.size w (.slice a2 bs.length c2) bs) (h3:Ints w.heap.size w (.slice a3 ds.length c3) ds) (hn0:0≤n) (hn1:n≤500) (hnc:newC img=0) (hw:W20 is vs bs ds) (hj:n≤j) (hj2:j≤3000) (hv:WordZ v) (hK:KRec img is vs bs ds n l N m) (hk:kvals (recI is vs bs ds (recS0 img) N).all≤vs.length):Calls Tryz.prog 9 #[.slice ai img.length ci,.agg #[.slice a0 (is.length+1) c0,.slice a1 (vs.length+1) c1,.slice a2 bs.length c2,.slice a3 ds.length c3],.int .i64 n] w (RecO img l N m w):=by
 rw [show is.length+1=(is ++ [j]).length by simp,show vs.length+1=(vs ++ [v]).length by simp] at *
 refine (record_any ai ci a0 a1 a2 a3 c0 c1 c2 c3 img (is ++ [j]) (vs ++ [v]) bs ds n w ht hi h0 h1 h2 h3 (by unfold I64;omega)).mono ?_
 rintro e w5 ⟨cc,l',cnt,i2,m',vi,vb,ar,cr,am,cm,ao,co,hR,rfl,hvi,hvb,hbd,hmo,hb5⟩
 obtain⟨rfl,rfl,rfl,rfl,rfl⟩:=keep_more hR hK hnc hw hn0 hn1 hj hj2 hv hk
 obtain⟨ai,ci,rfl⟩:=own_shape hvi
 obtain⟨ab,cb,rfl⟩:=own_shape hvb
 exact⟨ai,ab,ar,am,ao,ci,cb,cr,cm,co,rfl,⟨hvi,hvb,hmo⟩,hb5⟩
def Blk (w:World) (g:Nat) (o:Obj):Prop:=w.heap[g]? = some o
theorem blk_set {w:World} {g k i:Nat} {vs:List Value} {o:Obj} (hne:k≠g):Blk (setCells w g i vs) k o=Blk w k o:=by unfold Blk;rw [setCells_same hne]
theorem blk_ne {w:World} {k:Nat} {o o':Obj} (hne:k≠w.heap.size):Blk (w.alloc o') k o=Blk w k o:=by unfold Blk;rw [heap_new_ne hne]
theorem blk_at {w:World} {k:Nat} {o:Obj} (he:k=w.heap.size):Blk (w.alloc o) k o=True:=eq_true (alloc_at he)
theorem st_machB {w:World} {g:Nat} {M:Mach} {ar am ao:Option Addr} {cr cm co:Nat} {a:Act} {K:Act→World→Prop} {Q:Exit→Act→World→Prop} (h:Blk w g (.cells #[.slice none 0 0,.int .i64 0,.int .i64 0,.bool false,.bool false,.int .i64 0,.int .i64 0,.int .i64 0,.slice none 0 0,.slice none 0 0,.int .i64 0,.int .i64 0] 34 (0,0))):stWp (.pointer (some ⟨g,0,none⟩)) (.agg #[.slice ar M.regs.length cr,.int .i64 M.pc,.int .i64 M.back,.bool M.ints,.bool M.wait,.int .i64 M.table,.int .i64 M.count,.int .i64 M.fin,.slice am M.mem.length cm,.slice ao M.out.length co,.int .i64 M.ready,.int .i64 M.want]) a w K Q=K (a.put none undef) (setCells w g 0 [.slice ar M.regs.length cr,.int .i64 M.pc,.int .i64 M.back,.bool M.ints,.bool M.wait,.int .i64 M.table,.int .i64 M.count,.int .i64 M.fin,.slice am M.mem.length cm,.slice ao M.out.length co,.int .i64 M.ready,.int .i64 M.want]):=st_mach h
theorem st_tapeB {w:World} {g:Nat} {ti bi:Option Addr} {tn tc bn bc:Nat} {tk:Int} {a:Act} {K:Act→World→Prop} {Q:Exit→Act→World→Prop} (h:Blk w g (.cells #[.slice none 0 0,.slice none 0 0,.int .i64 0] 32 (0,0))):stTp (.pointer (some ⟨g,0,none⟩)) (.agg #[.slice ti tn tc,.slice bi bn bc,.int .i64 tk]) a w K Q=K (a.put none undef) (setCells w g 0 [.slice ti tn tc,.slice bi bn bc,.int .i64 tk]):=st_tape h
theorem early_on {wS U w5:World} {g:Nat} {o:Obj} (h:wS.heap[g]? = some o) (hb:Below U.heap.size U w5) (hu:Below wS.heap.size wS U):w5.heap[g]? = some o:=
 block_below hb (block_below hu h (Array.getElem?_eq_some_iff.1 h).1) (Nat.lt_of_lt_of_le (Array.getElem?_eq_some_iff.1 h).1 hu.size)
theorem keep_set {W:World} {g k i:Nat} {vs:List Value} {u:Option Value} {o:Nat} (hne:k≠g) (h:W.cell? ⟨k,o,none⟩=u):(setCells W g i vs).cell? ⟨k,o,none⟩=u:=by
 have e:=setCells_same hne vs i W
 rw [← h]
 unfold World.cell?
 simp only [e]
theorem keep_new {w:World} {o:Obj} {k i:Nat} {u:Value} (h:w.cell? ⟨k,i,none⟩=some u):(w.alloc o).cell? ⟨k,i,none⟩=some u:=by
 have hk:k < w.heap.size:=by
  unfold World.cell? at h
  cases e:w.heap[k]? with
  | none=>simp [e] at h
  | some x=>exact (Array.getElem?_eq_some_iff.1 e).1
 rw [← h]
 unfold World.cell?
 simp only [show (w.alloc o).heap[k]? = w.heap[k]? from heap_new_ne (by omega)]
theorem own_not {w:World} {base g:Nat} {e:TypeId} {v:Value} {k:Nat} {zs:List Value} (h:w.ownsRow base e 1 v k zs) (hg:g < base∨w.heap.size≤g):some g≠v.ownBlock:=by
 intro q
 have:=h.lt g q.symm
 omega
theorem push_ints {w:World} {base:Nat} {v:Value} {zs:List Int} {z:Int} (h:w.ownsRow base 3 1 v (zs.length+1) (zs.map (Value.int .i64) ++ [.int .i64 z])) (hz:∀ x∈zs,I64 x) (hz1:I64 z) (hl:zs.length≤1000):Ints w.heap.size w v (zs ++ [z]):=by
 refine ints_of_owns (base:=base) (e:=3) (by simpa using h) (by simp;omega) (fun x hx=>?_)
 rcases List.mem_append.1 hx with q | q
 · exact hz x q
 · rw [List.mem_singleton.1 q];exact hz1
structure TwS (lo gt gg:Nat) (img:List Int) (l:List UInt8) (N:Nat) (m:Mach) (ai ab ar am ao:Option Addr) (ci cb cr cm co:Nat) (w:World):Prop where
 xt:w.heap[gt]? = some (.cells #[.slice ai img.length ci,.slice ab l.length cb,.int .i64 N] 32 (0,0))
 xg:w.heap[gg]? = some (.cells #[.slice ar m.regs.length cr,.int .i64 m.pc,.int .i64 m.back,.bool m.ints,.bool m.wait,.int .i64 m.table,.int .i64 m.count,.int .i64 m.fin,.slice am m.mem.length cm,.slice ao m.out.length co,.int .i64 m.ready,.int .i64 m.want] 34 (0,0))
 ht:lo≤gt
 hg:lo≤gg
 by_:∃ base,lo≤base∧w.ownsRow base 5 1 (.slice ab l.length cb) l.length (bv l)
 mo:∃ base,lo≤base∧MachOwn base w m (.slice ar m.regs.length cr) (.slice am m.mem.length cm) (.slice ao m.out.length co)
theorem TwS.below {lo gt gg:Nat} {img:List Int} {l:List UInt8} {N:Nat} {m:Mach} {ai ab ar am ao:Option Addr} {ci cb cr cm co:Nat} {w w':World} (h:TwS lo gt gg img l N m ai ab ar am ao ci cb cr cm co w) (hb:Below w.heap.size w w'):TwS lo gt gg img l N m ai ab ar am ao ci cb cr cm co w':=by
 obtain⟨b1,l1,o1⟩:=h.by_
 obtain⟨b2,l2,o2⟩:=h.mo
 exact⟨block_below hb h.xt (Array.getElem?_eq_some_iff.1 h.xt).1,block_below hb h.xg (Array.getElem?_eq_some_iff.1 h.xg).1,h.ht,h.hg,⟨b1,l1,own_below o1 hb (Nat.le_refl _)⟩,⟨b2,l2,{ o2 with hr:=own_below o2.hr hb (Nat.le_refl _),hm:=own_below o2.hm hb (Nat.le_refl _),ho:=own_below o2.ho hb (Nat.le_refl _) }⟩⟩
theorem TwS.set {lo gt gg:Nat} {img:List Int} {l:List UInt8} {N:Nat} {m:Mach} {ai ab ar am ao:Option Addr} {ci cb cr cm co:Nat} {w:World} (h:TwS lo gt gg img l N m ai ab ar am ao ci cb cr cm co w) {g i:Nat} {v:Value} (hg:g < lo):TwS lo gt gg img l N m ai ab ar am ao ci cb cr cm co (w.setCell ⟨g,i,none⟩ v):=by
 obtain⟨b1,l1,o1⟩:=h.by_
 obtain⟨b2,l2,o2⟩:=h.mo
 have h1:=h.ht
 have h2:=h.hg
 exact⟨set_block_ne h.xt (by omega) _,set_block_ne h.xg (by omega) _,h.ht,h.hg,⟨b1,l1,own_set o1 (own_not o1 (Or.inl (by omega))) _⟩,⟨b2,l2,{ o2 with hr:=own_set o2.hr (own_not o2.hr (Or.inl (by omega))) _,hm:=own_set o2.hm (own_not o2.hm (Or.inl (by omega))) _,ho:=own_set o2.ho (own_not o2.ho (Or.inl (by omega))) _ }⟩⟩
theorem TwS.reads {lo gt gg:Nat} {img:List Int} {l:List UInt8} {N:Nat} {m:Mach} {ai ab ar am ao:Option Addr} {ci cb cr cm co:Nat} {w:World} (h:TwS lo gt gg img l N m ai ab ar am ao ci cb cr cm co w) (hl:l.length≤60000) (hok:MOk m):BytesR w.heap.size w (.slice ab l.length cb) l∧MachR w.heap.size w (.agg #[.slice ar m.regs.length cr,.int .i64 m.pc,.int .i64 m.back,.bool m.ints,.bool m.wait,.int .i64 m.table,.int .i64 m.count,.int .i64 m.fin,.slice am m.mem.length cm,.slice ao m.out.length co,.int .i64 m.ready,.int .i64 m.want]) m:=by
 obtain⟨b1,l1,o1⟩:=h.by_
 obtain⟨b2,l2,o2⟩:=h.mo
 exact⟨bytes_of_own o1 (by omega),mach_r hok o2⟩
theorem box_end {w5 W A : World} {B base gT gG : Nat} {img : List Int} {l : List UInt8} {N : Nat} {m : Mach} {ai ab ar am ao : Option Addr} {ci cb cr cm co : Nat} (hW : Below w5.heap.size w5 W) (hT : W.heap[gT]? = some (.cells #[.slice none 0 0, .slice none 0 0, .int .i64 0] 32 (0, 0))) (hG : W.heap[gG]? = some (.cells #[.slice none 0 0, .int .i64 0, .int .i64 0, .bool false, .bool false, .int .i64 0, .int .i64 0, .int .i64 0, .slice none 0 0, .slice none 0 0, .int .i64 0, .int .i64 0] 34 (0, 0))) (hne : gT ≠ gG) (hB : Below B A w5) (bT : B ≤ gT) (bG : B ≤ gG) (bb : B ≤ base) (hbw : B ≤ w5.heap.size) (eT : gT < base ∨ w5.heap.size ≤ gT) (eG : gG < base ∨ w5.heap.size ≤ gG) (ho : w5.ownsRow base 3 1 (.slice ai img.length ci) img.length (img.map (Value.int .i64)) ∧ w5.ownsRow base 5 1 (.slice ab l.length cb) l.length (bv l) ∧ MachOwn base w5 m (.slice ar m.regs.length cr) (.slice am m.mem.length cm) (.slice ao m.out.length co)) (hi : ∀ z ∈ img, I64 z) (hil : img.length ≤ 64) (hl : l.length ≤ 60000) (hok : MOk m) :
  ∃ V,V=setCells (setCells W gT 0 [.slice ai img.length ci,.slice ab l.length cb,.int .i64 N]) gG 0 [.slice ar m.regs.length cr,.int .i64 m.pc,.int .i64 m.back,.bool m.ints,.bool m.wait,.int .i64 m.table,.int .i64 m.count,.int .i64 m.fin,.slice am m.mem.length cm,.slice ao m.out.length co,.int .i64 m.ready,.int .i64 m.want]∧V.heap[gT]? = some (.cells #[.slice ai img.length ci,.slice ab l.length cb,.int .i64 N] 32 (0,0))∧V.heap[gG]? = some (.cells #[.slice ar m.regs.length cr,.int .i64 m.pc,.int .i64 m.back,.bool m.ints,.bool m.wait,.int .i64 m.table,.int .i64 m.count,.int .i64 m.fin,.slice am m.mem.length cm,.slice ao m.out.length co,.int .i64 m.ready,.int .i64 m.want] 34 (0,0))∧Below B A V∧Ints V.heap.size V (.slice ai img.length ci) img∧BytesR V.heap.size V (.slice ab l.length cb) l∧MachR V.heap.size V (.agg #[.slice ar m.regs.length cr,.int .i64 m.pc,.int .i64 m.back,.bool m.ints,.bool m.wait,.int .i64 m.table,.int .i64 m.count,.int .i64 m.fin,.slice am m.mem.length cm,.slice ao m.out.length co,.int .i64 m.ready,.int .i64 m.want]) m∧TwS B gT gG img l N m ai ab ar am ao ci cb cr cm co V:=by
 obtain⟨V,hV⟩:∃ V,V=setCells (setCells W gT 0 [.slice ai img.length ci,.slice ab l.length cb,.int .i64 N]) gG 0 [.slice ar m.regs.length cr,.int .i64 m.pc,.int .i64 m.back,.bool m.ints,.bool m.wait,.int .i64 m.table,.int .i64 m.count,.int .i64 m.fin,.slice am m.mem.length cm,.slice ao m.out.length co,.int .i64 m.ready,.int .i64 m.want]:=⟨_,rfl⟩
 have key:∀ {e:TypeId} {v:Value} {k:Nat} {zs:List Value},w5.ownsRow base e 1 v k zs→V.ownsRow base e 1 v k zs:=fun h=>by
  rw [hV]
  exact setCells_own (own_not h eG) _ _ _ (setCells_own (own_not h eT) _ _ _ (own_below h hW (Nat.le_refl _)))
 obtain⟨o1,o2,o3⟩:=ho
 have f1:V.heap[gT]? = some (.cells #[.slice ai img.length ci,.slice ab l.length cb,.int .i64 N] 32 (0,0)):=by rw [hV];exact setCells_ne hne _ _ _ (setCells_all (old:=[.slice none 0 0,.slice none 0 0,.int .i64 0]) rfl hT)
 have f2:V.heap[gG]? = some (.cells #[.slice ar m.regs.length cr,.int .i64 m.pc,.int .i64 m.back,.bool m.ints,.bool m.wait,.int .i64 m.table,.int .i64 m.count,.int .i64 m.fin,.slice am m.mem.length cm,.slice ao m.out.length co,.int .i64 m.ready,.int .i64 m.want] 34 (0,0)):=by rw [hV];exact setCells_all (old:=[.slice none 0 0,.int .i64 0,.int .i64 0,.bool false,.bool false,.int .i64 0,.int .i64 0,.int .i64 0,.slice none 0 0,.slice none 0 0,.int .i64 0,.int .i64 0]) rfl (setCells_ne hne.symm _ _ _ hG)
 have f3:Below B A V:=by rw [hV];exact setCells_below bG _ _ _ (setCells_below bT _ _ _ (hB.trans (hW.mono hbw)))
 have o3':MachOwn base V m (.slice ar m.regs.length cr) (.slice am m.mem.length cm) (.slice ao m.out.length co):={ o3 with hr:=key o3.hr,hm:=key o3.hm,ho:=key o3.ho }
 exact⟨V,hV,f1,f2,f3,ints_of_owns (key o1) (by omega) hi,bytes_of_own (key o2) (by omega),mach_r hok o3',f1,f2,bT,bG,⟨base,bb,key o2⟩,⟨base,bb,o3'⟩⟩
theorem box_rel {X:Prop} {w5 W A:World} {B base gT gG:Nat} {img:List Int} {l:List UInt8} {N:Nat} {m:Mach} {ai ab ar am ao:Option Addr} {ci cb cr cm co:Nat} (hW:Below w5.heap.size w5 W) (hT:W.heap[gT]? = some (.cells #[.slice none 0 0,.slice none 0 0,.int .i64 0] 32 (0,0))) (hG:W.heap[gG]? = some (.cells #[.slice none 0 0,.int .i64 0,.int .i64 0,.bool false,.bool false,.int .i64 0,.int .i64 0,.int .i64 0,.slice none 0 0,.slice none 0 0,.int .i64 0,.int .i64 0] 34 (0,0))) (hne:gT≠gG) (hB:Below B A w5) (bT:B≤gT) (bG:B≤gG) (bb:B≤base) (hbw:B≤w5.heap.size) (eT:gT < base∨w5.heap.size≤gT) (eG:gG < base∨w5.heap.size≤gG) (ho:w5.ownsRow base 3 1 (.slice ai img.length ci) img.length (img.map (Value.int .i64))∧w5.ownsRow base 5 1 (.slice ab l.length cb) l.length (bv l)∧MachOwn base w5 m (.slice ar m.regs.length cr) (.slice am m.mem.length cm) (.slice ao m.out.length co)) (hi:∀ z∈img,I64 z) (hil:img.length≤64) (hl:l.length≤60000) (hok:MOk m) (hn:newC img=0) (hx:X):Hid (Below B A (setCells (setCells W gT 0 [.slice ai img.length ci,.slice ab l.length cb,.int .i64 N]) gG 0 [.slice ar m.regs.length cr,.int .i64 m.pc,.int .i64 m.back,.bool m.ints,.bool m.wait,.int .i64 m.table,.int .i64 m.count,.int .i64 m.fin,.slice am m.mem.length cm,.slice ao m.out.length co,.int .i64 m.ready,.int .i64 m.want]))∧Hid ((setCells (setCells W gT 0 [.slice ai img.length ci,.slice ab l.length cb,.int .i64 N]) gG 0 [.slice ar m.regs.length cr,.int .i64 m.pc,.int .i64 m.back,.bool m.ints,.bool m.wait,.int .i64 m.table,.int .i64 m.count,.int .i64 m.fin,.slice am m.mem.length cm,.slice ao m.out.length co,.int .i64 m.ready,.int .i64 m.want]).heap[gT]? = some (.cells #[.slice ai img.length ci,.slice ab l.length cb,.int .i64 N] 32 (0,0)))∧Hid ((setCells (setCells W gT 0 [.slice ai img.length ci,.slice ab l.length cb,.int .i64 N]) gG 0 [.slice ar m.regs.length cr,.int .i64 m.pc,.int .i64 m.back,.bool m.ints,.bool m.wait,.int .i64 m.table,.int .i64 m.count,.int .i64 m.fin,.slice am m.mem.length cm,.slice ao m.out.length co,.int .i64 m.ready,.int .i64 m.want]).heap[gG]? = some (.cells #[.slice ar m.regs.length cr,.int .i64 m.pc,.int .i64 m.back,.bool m.ints,.bool m.wait,.int .i64 m.table,.int .i64 m.count,.int .i64 m.fin,.slice am m.mem.length cm,.slice ao m.out.length co,.int .i64 m.ready,.int .i64 m.want] 34 (0,0)))∧Hid (Ints (setCells (setCells W gT 0 [.slice ai img.length ci,.slice ab l.length cb,.int .i64 N]) gG 0 [.slice ar m.regs.length cr,.int .i64 m.pc,.int .i64 m.back,.bool m.ints,.bool m.wait,.int .i64 m.table,.int .i64 m.count,.int .i64 m.fin,.slice am m.mem.length cm,.slice ao m.out.length co,.int .i64 m.ready,.int .i64 m.want]).heap.size (setCells (setCells W gT 0 [.slice ai img.length ci,.slice ab l.length cb,.int .i64 N]) gG 0 [.slice ar m.regs.length cr,.int .i64 m.pc,.int .i64 m.back,.bool m.ints,.bool m.wait,.int .i64 m.table,.int .i64 m.count,.int .i64 m.fin,.slice am m.mem.length cm,.slice ao m.out.length co,.int .i64 m.ready,.int .i64 m.want]) (.slice ai img.length ci) img∧BytesR (setCells (setCells W gT 0 [.slice ai img.length ci,.slice ab l.length cb,.int .i64 N]) gG 0 [.slice ar m.regs.length cr,.int .i64 m.pc,.int .i64 m.back,.bool m.ints,.bool m.wait,.int .i64 m.table,.int .i64 m.count,.int .i64 m.fin,.slice am m.mem.length cm,.slice ao m.out.length co,.int .i64 m.ready,.int .i64 m.want]).heap.size (setCells (setCells W gT 0 [.slice ai img.length ci,.slice ab l.length cb,.int .i64 N]) gG 0 [.slice ar m.regs.length cr,.int .i64 m.pc,.int .i64 m.back,.bool m.ints,.bool m.wait,.int .i64 m.table,.int .i64 m.count,.int .i64 m.fin,.slice am m.mem.length cm,.slice ao m.out.length co,.int .i64 m.ready,.int .i64 m.want]) (.slice ab l.length cb) l∧MachR (setCells (setCells W gT 0 [.slice ai img.length ci,.slice ab l.length cb,.int .i64 N]) gG 0 [.slice ar m.regs.length cr,.int .i64 m.pc,.int .i64 m.back,.bool m.ints,.bool m.wait,.int .i64 m.table,.int .i64 m.count,.int .i64 m.fin,.slice am m.mem.length cm,.slice ao m.out.length co,.int .i64 m.ready,.int .i64 m.want]).heap.size (setCells (setCells W gT 0 [.slice ai img.length ci,.slice ab l.length cb,.int .i64 N]) gG 0 [.slice ar m.regs.length cr,.int .i64 m.pc,.int .i64 m.back,.bool m.ints,.bool m.wait,.int .i64 m.table,.int .i64 m.count,.int .i64 m.fin,.slice am m.mem.length cm,.slice ao m.out.length co,.int .i64 m.ready,.int .i64 m.want]) (.agg #[.slice ar m.regs.length cr,.int .i64 m.pc,.int .i64 m.back,.bool m.ints,.bool m.wait,.int .i64 m.table,.int .i64 m.count,.int .i64 m.fin,.slice am m.mem.length cm,.slice ao m.out.length co,.int .i64 m.ready,.int .i64 m.want]) m∧newC img=0∧img.length≤64∧TwS B gT gG img l N m ai ab ar am ao ci cb cr cm co (setCells (setCells W gT 0 [.slice ai img.length ci,.slice ab l.length cb,.int .i64 N]) gG 0 [.slice ar m.regs.length cr,.int .i64 m.pc,.int .i64 m.back,.bool m.ints,.bool m.wait,.int .i64 m.table,.int .i64 m.count,.int .i64 m.fin,.slice am m.mem.length cm,.slice ao m.out.length co,.int .i64 m.ready,.int .i64 m.want]))∧X:=by
 obtain⟨V,hV,q1,q2,q3,q4,q5,q6,q7⟩:=box_end hW hT hG hne hB bT bG bb hbw eT eG ho hi hil hl hok
 rw [← hV]
 exact⟨Lib.hid q3,Lib.hid q1,Lib.hid q2,Lib.hid ⟨q4,q5,q6,hn,hil,q7⟩,hx⟩
end Go.Proofs.YtkahciebbnhobaaGreatDoor
