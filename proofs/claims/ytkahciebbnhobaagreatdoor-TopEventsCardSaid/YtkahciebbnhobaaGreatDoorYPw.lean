/- Several texts joined, each with its own heading in the notes: What a recording does not know of its world; a guest alone: in plain Lean. Contracts for the laws of worlds and of events: a clone of numbers, what is a block, a recording in a world with more. No condition beyond those of each row. -/
import Derived.Test.YtkahciebbnhobaaGreatDoorYPs
import Derived.Test.YtkahciebbnhobaaGreatDoorYKv
import Derived.Test.YtkahciebbnhobaaGreatDoorYEv
import Derived.Handy
import Derived.StillTailTactics
import Derived.Deep.LoopGhost
import Derived.Deep.RegionWith
import Derived.Deep.WholeRow
namespace Go.Proofs.YtkahciebbnhobaaGreatDoor
set_option linter.unusedVariables false
section
variable {is vs:List Int} {bs:List (List Int)} {ds:List Int}
end
section
variable {img is vs:List Int} {bs:List (List Int)} {ds:List Int} {n:Int} {l:List UInt8} {N:Nat} {m:Mach}
theorem KRec.recL (h:KRec img is vs bs ds n l N m):recL is vs bs ds n n.toNat (recS0 img)=(recI is vs bs ds (recS0 img) N,false):=by
 have hle:=h.le
 have hcN:∀ k,k≤N→(recI is vs bs ds (recS0 img) k).m.count=k:=fun k hk=>(h.tape.at k hk).cnt
 have hnot:¬ ((recI is vs bs ds (recS0 img) N).m.count < n∧(recI is vs bs ds (recS0 img) N).m.fin=0):=fun q=>by
  rw [hcN N (Nat.le_refl _)] at q
  rcases h.end_ with e | e
  · omega
  · exact e q.2
 obtain⟨j,hj,hL,hgo,hend⟩:=recL_end2 (is:=is) (vs:=vs) (bs:=bs) (ds:=ds) (n:=n) n.toNat (recS0 img) (fun k hk hg=>by
  by_cases hkN:k≤N
  · exact h.tape.few k hkN
  · exact absurd (hg N (by omega)) hnot)
 have hjN:j=N:=by
  rcases Nat.lt_trichotomy j N with q | q | q
  ·
   rcases hend with e | e
   · omega
   · exact absurd ⟨by rw [hcN j (by omega)];omega,h.tape.go j q⟩ e
  · exact q
  · exact absurd (hgo N q) hnot
 rw [hL,hjN]
theorem alone (h:KRec img [] [] [] [] n l N m) (hno:∀ x∈(recI [] [] [] [] (recS0 img) N).all,x.kind≠2):runM [] (imageM img) N=m:=by
 have key:∀ k,k≤N→runM [] (imageM img) k=(recI [] [] [] [] (recS0 img) k).m:=by
  intro k
  induction k with
  | zero=>intro _;rfl
  | succ k ih =>
   intro hk
   have ihk:=ih (by omega)
   have hb:blkR [] (recI [] [] [] [] (recS0 img) k)=[]:=by
    unfold blkR
    by_cases hd:(recI [] [] [] [] (recS0 img) k).due=(recI [] [] [] [] (recS0 img) k).m.count
    ·
     exfalso
     obtain⟨r,h1,_⟩:=h.tape.pre (k+1) (N - (k+1)) (by omega)
     rw [show k+1+(N - (k+1))=N by omega] at h1
     refine hno ⟨(recI [] [] [] [] (recS0 img) k).m.count,2,blkR [] (recI [] [] [] [] (recS0 img) k)⟩ ?_ rfl
     rw [h1]
     refine List.mem_append_left _ (List.mem_append_left _ (List.mem_append_right _ (List.mem_append_right _ ?_)))
     rw [if_pos hd]
     exact List.mem_singleton.2 rfl
    · rw [if_neg hd]
   have hv:valR [] [] [] (recI [] [] [] [] (recS0 img) k)=0:=by
    unfold valR
    split <;> rfl
   show (onM (runM [] (imageM img) k) [] (k:Int)).1=ranR [] [] [] (recI [] [] [] [] (recS0 img) k)
   rw [ihk,ranR_step,hb,hv]
   rfl
 rw [key N (Nat.le_refl _),h.mach]
end
end Go.Proofs.YtkahciebbnhobaaGreatDoor
namespace Go.Proofs.YtkahciebbnhobaaGreatDoor
open Go Go.RowKit Go.ChangeShapes Go.WideShapes Go.Deep
set_option maxHeartbeats 4000000
set_option maxRecDepth 100000
set_option linter.unusedVariables false
attribute [local go_sem ↓] Go.wp_at_zero Go.wp_at_succ
/-! ### A guest that is alone -/
theorem evres_none:EvRes [] 0:=Or.inr (Or.inr ⟨by simp,fun j hj=>absurd hj (Nat.not_lt_zero _),rfl⟩)
theorem enc_none_len:(encE []).length=5:=by unfold encE payE;rw [List.length_append,show (sumB _).length=4 from rfl];simp [sevens_small,evsE]
theorem chk_none {img:List Int} (h:newC img=0) {N:Nat} (hN:N≤3000):ChkR img (encE []) N 0 []:=
 Or.inr (Or.inr ⟨h,by omega,by omega,0,[],dec_enc evres_none (by rw [enc_none_len];omega) (by rw [enc_none_len];omega),Or.inr (Or.inr ⟨rfl,fun i hi=>absurd hi (Nat.not_lt_zero _),rfl,rfl⟩)⟩)
theorem rep_none {img:List Int} (h:newC img=0) {N:Nat} (hN:N≤3000):RepR img (encE []) N N (runM [] (imageM img) N) 0:=
 ⟨0,[],chk_none h hN,Or.inr (Or.inr ⟨rfl,by omega,Int.le_refl _,rfl,by rw [Int.toNat_natCast]⟩)⟩
theorem setCells_same {g k:Nat} (hne:k≠g):∀ (vs:List Value) (i:Nat) (w:World),(setCells w g i vs).heap[k]? = w.heap[k]?
 | [],_,_=>rfl
 | v :: vs,i,w=>(setCells_same hne vs (i+1) _).trans (Below.heap_setCell w ⟨g,i,none⟩ v k hne)
theorem setCells_kit (g:Nat):∀ (vs:List Value) (i:Nat) (w:World),setCells w g i vs=w.setCells g i vs
 | [],_,_=>rfl
 | v :: vs,i,w=>setCells_kit g vs (i+1) _
theorem setRow_eq {w:World} {g:Nat} {t:TypeId} {old:Array Value} {vs:List Value} (h:w.heap[g]? = some (.cells old t (0,0))) (hl:vs.length=old.size) (h1:∀ v∈vs,v.oneCell'=true):w.setRow g vs.toArray=setCells w g 0 vs:=by
 have e1:=run_storeCells_from (P:=Tryz.prog) g t vs 0 old w h (by omega) h1
 have e2:=run_storeCells_cells (P:=Tryz.prog) g 0 vs 0 w (fun j hj=>by rw [cell_block h];simp;omega) (fun j hj=>free_block h _) h1
 rw [e2] at e1
 injection e1 with _ e1
 rw [setCells_kit]
 simpa using e1.symm
theorem run_store_mach {w:World} {g:Nat} {M:Mach} {ar am ao:Option Addr} {cr cm co:Nat} (h:w.heap[g]? = some (.cells #[.slice none 0 0,.int .i64 0,.int .i64 0,.bool false,.bool false,.int .i64 0,.int .i64 0,.int .i64 0,.slice none 0 0,.slice none 0 0,.int .i64 0,.int .i64 0] 34 (0,0))):(Instr.storeAt 34 (.pointer (some ⟨g,0,none⟩)) (.agg #[.slice ar M.regs.length cr,.int .i64 M.pc,.int .i64 M.back,.bool M.ints,.bool M.wait,.int .i64 M.table,.int .i64 M.count,.int .i64 M.fin,.slice am M.mem.length cm,.slice ao M.out.length co,.int .i64 M.ready,.int .i64 M.want])).run Tryz.prog w=.ok () (setCells w g 0 [.slice ar M.regs.length cr,.int .i64 M.pc,.int .i64 M.back,.bool M.ints,.bool M.wait,.int .i64 M.table,.int .i64 M.count,.int .i64 M.fin,.slice am M.mem.length cm,.slice ao M.out.length co,.int .i64 M.ready,.int .i64 M.want]):=by
 rw [← setRow_eq (vs:=[.slice ar M.regs.length cr,.int .i64 M.pc,.int .i64 M.back,.bool M.ints,.bool M.wait,.int .i64 M.table,.int .i64 M.count,.int .i64 M.fin,.slice am M.mem.length cm,.slice ao M.out.length co,.int .i64 M.ready,.int .i64 M.want]) h rfl (by intro v hv;simp at hv;rcases hv with rfl | rfl | rfl | rfl | rfl | rfl | rfl | rfl | rfl | rfl | rfl | rfl <;> rfl)]
 simp only [Instr.storeAt,Instr.sureAddr,Sem.run_bind,Sem.run_pure,Result.andThen]
 exact run_storeVar_row _ _ 34 _ _ _ h (by kernel_rfl) rfl (by simp [Value.oneCell'])
def stWp (p v : Value) (a : Act) (w : World) (K : Act → World → Prop) (Q : Exit → Act → World → Prop) : Prop := Oper.wp Tryz.prog { dst := none, op := .store 34 (.const p) (.const v), type := 0, pos := "", after := #[], guard := none } a w K Q
theorem oper_st {x y:Operand} {ty:TypeId} {pos:String} {after:Array _} {a:Act} {w:World} {K:Act→World→Prop} {Q:Exit→Act→World→Prop}:Oper.wp Tryz.prog { dst:=none,op:=.store 34 x y,type:=ty,pos:=pos,after:=after,guard:=none } a w K Q=stWp (a.eval x) (a.eval y) a w K Q:=rfl
theorem st_mach {w:World} {g:Nat} {M:Mach} {ar am ao:Option Addr} {cr cm co:Nat} {a:Act} {K:Act→World→Prop} {Q:Exit→Act→World→Prop} (h:w.heap[g]? = some (.cells #[.slice none 0 0,.int .i64 0,.int .i64 0,.bool false,.bool false,.int .i64 0,.int .i64 0,.int .i64 0,.slice none 0 0,.slice none 0 0,.int .i64 0,.int .i64 0] 34 (0,0))):stWp (.pointer (some ⟨g,0,none⟩)) (.agg #[.slice ar M.regs.length cr,.int .i64 M.pc,.int .i64 M.back,.bool M.ints,.bool M.wait,.int .i64 M.table,.int .i64 M.count,.int .i64 M.fin,.slice am M.mem.length cm,.slice ao M.out.length co,.int .i64 M.ready,.int .i64 M.want]) a w K Q=K (a.put none undef) (setCells w g 0 [.slice ar M.regs.length cr,.int .i64 M.pc,.int .i64 M.back,.bool M.ints,.bool M.wait,.int .i64 M.table,.int .i64 M.count,.int .i64 M.fin,.slice am M.mem.length cm,.slice ao M.out.length co,.int .i64 M.ready,.int .i64 M.want]):=by
 unfold stWp Oper.wp execOp
 simp only [Act.eval,run_store_mach h,Sem.run_bind,Sem.run_pure,Result.andThen_ok]
 rfl
theorem st_fresh {w:World} {g:Nat} {M:Mach} {ar am ao:Option Addr} {cr cm co:Nat} {a:Act} {K:Act→World→Prop} {Q:Exit→Act→World→Prop} (h:w.heap.size=g):stWp (.pointer (some ⟨g,0,none⟩)) (.agg #[.slice ar M.regs.length cr,.int .i64 M.pc,.int .i64 M.back,.bool M.ints,.bool M.wait,.int .i64 M.table,.int .i64 M.count,.int .i64 M.fin,.slice am M.mem.length cm,.slice ao M.out.length co,.int .i64 M.ready,.int .i64 M.want]) a (w.alloc (.cells #[.slice none 0 0,.int .i64 0,.int .i64 0,.bool false,.bool false,.int .i64 0,.int .i64 0,.int .i64 0,.slice none 0 0,.slice none 0 0,.int .i64 0,.int .i64 0] 34 (0,0))) K Q=K (a.put none undef) (w.alloc (.cells #[.slice ar M.regs.length cr,.int .i64 M.pc,.int .i64 M.back,.bool M.ints,.bool M.wait,.int .i64 M.table,.int .i64 M.count,.int .i64 M.fin,.slice am M.mem.length cm,.slice ao M.out.length co,.int .i64 M.ready,.int .i64 M.want] 34 (0,0))):=by
 have h1:(w.alloc (.cells #[.slice none 0 0,.int .i64 0,.int .i64 0,.bool false,.bool false,.int .i64 0,.int .i64 0,.int .i64 0,.slice none 0 0,.slice none 0 0,.int .i64 0,.int .i64 0] 34 (0,0))).heap[g]? = some (.cells #[.slice none 0 0,.int .i64 0,.int .i64 0,.bool false,.bool false,.int .i64 0,.int .i64 0,.int .i64 0,.slice none 0 0,.slice none 0 0,.int .i64 0,.int .i64 0] 34 (0,0)):=alloc_at h.symm
 rw [st_mach h1,← setRow_eq (vs:=[.slice ar M.regs.length cr,.int .i64 M.pc,.int .i64 M.back,.bool M.ints,.bool M.wait,.int .i64 M.table,.int .i64 M.count,.int .i64 M.fin,.slice am M.mem.length cm,.slice ao M.out.length co,.int .i64 M.ready,.int .i64 M.want]) h1 rfl (by intro v hv;simp at hv;rcases hv with rfl | rfl | rfl | rfl | rfl | rfl | rfl | rfl | rfl | rfl | rfl | rfl <;> rfl),← h,World.setRow_alloc_new]
theorem stored_keep {W:World} {g k o:Nat} {vs:List Value} {u:Value} (hne:k≠g) (h:W.cell? ⟨k,o,none⟩=some u):(setCells W g 0 vs).cell? ⟨k,o,none⟩=some u:=by
 have e:=setCells_same hne vs 0 W
 rw [← h]
 unfold World.cell?
 simp only [e]
theorem stored_mach {W A0:World} {g base B:Nat} {M:Mach} {ar am ao:Option Addr} {cr cm co:Nat} (hx:W.heap[g]? = some (.cells #[.slice none 0 0,.int .i64 0,.int .i64 0,.bool false,.bool false,.int .i64 0,.int .i64 0,.int .i64 0,.slice none 0 0,.slice none 0 0,.int .i64 0,.int .i64 0] 34 (0,0))) (ho:MachOwn base W M (.slice ar M.regs.length cr) (.slice am M.mem.length cm) (.slice ao M.out.length co)) (hb:Below B A0 W) (hg:B≤g) (hok:MOk M):∃ V,V=setCells W g 0 [.slice ar M.regs.length cr,.int .i64 M.pc,.int .i64 M.back,.bool M.ints,.bool M.wait,.int .i64 M.table,.int .i64 M.count,.int .i64 M.fin,.slice am M.mem.length cm,.slice ao M.out.length co,.int .i64 M.ready,.int .i64 M.want]∧V.heap[g]? = some (.cells #[.slice ar M.regs.length cr,.int .i64 M.pc,.int .i64 M.back,.bool M.ints,.bool M.wait,.int .i64 M.table,.int .i64 M.count,.int .i64 M.fin,.slice am M.mem.length cm,.slice ao M.out.length co,.int .i64 M.ready,.int .i64 M.want] 34 (0,0))∧MachR V.heap.size V (.agg #[.slice ar M.regs.length cr,.int .i64 M.pc,.int .i64 M.back,.bool M.ints,.bool M.wait,.int .i64 M.table,.int .i64 M.count,.int .i64 M.fin,.slice am M.mem.length cm,.slice ao M.out.length co,.int .i64 M.ready,.int .i64 M.want]) M∧Below B A0 V:=by
 obtain⟨V,hV⟩:∃ V,V=setCells W g 0 [.slice ar M.regs.length cr,.int .i64 M.pc,.int .i64 M.back,.bool M.ints,.bool M.wait,.int .i64 M.table,.int .i64 M.count,.int .i64 M.fin,.slice am M.mem.length cm,.slice ao M.out.length co,.int .i64 M.ready,.int .i64 M.want]:=⟨_,rfl⟩
 have hown:∀ {v:Value} {k:Nat} {zs:List Value},W.ownsRow base 3 1 v k zs→V.ownsRow base 3 1 v k zs:=fun h=>by rw [hV];exact setCells_own (own_ne_block h hx (by decide)) _ _ _ h
 exact⟨V,hV,by rw [hV];exact setCells_all (old:=[.slice none 0 0,.int .i64 0,.int .i64 0,.bool false,.bool false,.int .i64 0,.int .i64 0,.int .i64 0,.slice none 0 0,.slice none 0 0,.int .i64 0,.int .i64 0]) rfl hx,mach_r hok { ho with hr:=hown ho.hr,hm:=hown ho.hm,ho:=hown ho.ho },by rw [hV];exact setCells_below hg _ _ _ hb⟩
theorem repnone_any (vi vb:Value) (img:List Int) (N:Nat) (w:World) (ht:Tab w) (hi:Ints w.heap.size w vi img) (hb:BytesR w.heap.size w vb (encE [])) (hnc:newC img=0) (hN:N≤3000) {M:Mach} (hM:M=runM [] (imageM img) N):Calls Tryz.prog 17 #[.agg #[vi,vb,.int .i64 N],.int .i64 N] w fun e w' =>∃ar cr am cm ao co,e=.returned (.tuple #[.agg #[.slice ar M.regs.length cr,.int .i64 M.pc,.int .i64 M.back,.bool M.ints,.bool M.wait,.int .i64 M.table,.int .i64 M.count,.int .i64 M.fin,.slice am M.mem.length cm,.slice ao M.out.length co,.int .i64 M.ready,.int .i64 M.want],.int .i64 0])∧MachOwn w.heap.size w' M (.slice ar M.regs.length cr) (.slice am M.mem.length cm) (.slice ao M.out.length co)∧MOk M∧Below w.heap.size w w':=by
 refine (replay_any vi vb img (encE []) N N w ht hi hb (by unfold I64;omega) (by unfold I64;omega)).mono ?_
 rintro e w1 ⟨m2,c,hrep,ar,cr,am,cm,ao,co,he,hown,hb1⟩
 obtain⟨rfl,rfl⟩:=(rep_none hnc hN).det hrep
 rw [← hM] at he hown
 exact⟨ar,cr,am,cm,ao,co,he,hown,(by rw [hM];exact (runM_ok ⟨fun x hx=>(by cases hx),List.Pairwise.nil⟩ (imgM_ok hnc).1 rfl N hN).1),hb1⟩
theorem imgz_ints (v:Value) (xs:List Rw) (w:World) (h:RawsR w.heap.size w v xs):Calls Tryz.prog 10 #[v] w fun e w' =>∃a c,e=.returned (.slice a (imgZ xs).length c)∧Ints w'.heap.size w' (.slice a (imgZ xs).length c) (imgZ xs)∧newC (imgZ xs)=0∧(imgZ xs).length≤64∧Below w.heap.size w w':=by
 refine (image_at v xs w h).mono ?_
 rintro e w' ⟨a,c,n,rfl,hn,ho,hb⟩
 have hl:=ho.len
 subst hl
 exact⟨a,c,rfl,ints_of_owns ho.own (by omega) (fun z hz=>(ho.word z hz).i64),newC_words (by omega) ho.word,hn,hb⟩
/-! ### Is a block among events? -/
theorem isblk_any (x:Ev) (vd:Value) (w:World):Calls Tryz.prog 19 #[.agg #[.int .i64 x.at_,.int .i64 x.kind,vd]] w fun e w'=>e=.returned (.bool (decide (x.kind=2)))∧Below w.heap.size w w':=by
 generalize x.at_=q1
 generalize x.kind=q2
 have HB:=Lib.hid (below_alloc w (.cells #[.int .i64 q1,.int .i64 q2,vd] 43 (0,0)))
 go_enter Tryz.func19,Tryz.ntmps19
 go_wp2
 go_ret
 exact⟨rfl,HB.out⟩
theorem idxE_any (v : Value) (l : List Ev) (w : World) (hv : EvsR w.heap.size w v l) :
  Calls Tryz.prog 41 #[v,.func (.func 19) #[] #[]] w fun e w'=>(∃ i:Int,e=.returned (.int .i64 i)∧((0≤i)=(l.any (fun x=>decide (x.kind=2))=true)))∧Below w.heap.size w w':=by
 obtain⟨a,c,rfl,hl,hl2,hc⟩:=hv
 have HC:=Lib.hid hc
 have eg:∀ args w,(callFunc 19 args).run Tryz.prog w=.ok (.enter 19 args) w:=enters_of Tryz.func19 (by kernel_rfl) rfl
 clear hc
 go_enter Tryz.func41,Tryz.ntmps41
 go_wp2
 go_loopg [5,8] l.length (fun gg _ s8 wr =>∃k:Nat,k≤l.length∧l.length - k≤gg∧s8=.int .i64 k∧Hid (Below w.heap.size w wr)∧Hid ((l.take k).any (fun x=>decide (x.kind=2))=false))
 case atStart=>exact⟨0,Nat.zero_le _,by omega,rfl,Lib.hid (Below.refl _ _),Lib.hid rfl⟩
 case round =>
  obtain⟨k,hk,hg,rfl,HB,A⟩:=hrel
  by_cases hlt:k < l.length
  ·
   obtain⟨b,off,cs,rfl,hbb,hcs,hcell,ad,cd,rfl,i1,i2,hi⟩:=HC.out k hlt
   have r0:wr.cell? ⟨b,off+k * 3,none⟩=some (.int .i64 l[k].at_):=(same_below HB.out b _ hbb).trans (hcell 0 (by simp))
   have r1:wr.cell? ⟨b,off+k * 3+1,none⟩=some (.int .i64 l[k].kind):=(same_below HB.out b _ hbb).trans (hcell 1 (by simp))
   have r2:wr.cell? ⟨b,off+k * 3+2,none⟩=some (.slice ad l[k].data.length cd):=(same_below HB.out b _ hbb).trans (hcell 2 (by simp))
   have hcall:=Lib.hid (isblk_any l[k] (.slice ad l[k].data.length cd) wr)
   have HT:=Lib.hid (show ∀ b,decide (l[k].kind=2)=b→(l.take (k+1)).any (fun x=>decide (x.kind=2))=b from fun b hb=>by
    rw [List.take_succ_eq_append_getElem hlt,List.any_append,A.out]
    simp only [List.any_cons,List.any_nil,Bool.or_false,Bool.false_or]
    exact hb)
   have HH:=Lib.hid (show decide (l[k].kind=2)=true→l.any (fun x=>decide (x.kind=2))=true from fun h=>List.any_eq_true.2 ⟨_,List.getElem_mem hlt,h⟩)
   have hk1:(k:Int) < (l.length:Int):=by omega
   clear hcell hcs hi
   generalize l[k]=x at *
   generalize decide (x.kind=2)=q at *
   obtain⟨xat,xkd,xda⟩:=x
   simp only at r0 r1 r2 hcall
   cases q with
   | true =>
    have HQ:=Lib.hid (HH.out rfl)
    go_wp2_with (go_at_fn 19;refine hcall.out.mono ?_;rintro e w' ⟨rfl,hbw⟩)
    go_ret
    exact⟨⟨k,rfl,by simp [HQ.out]⟩,HB.out.trans (hbw.mono HB.out.size)⟩
   | false =>
    go_wp2_with (go_at_fn 19;refine hcall.out.mono ?_;rintro e w' ⟨rfl,hbw⟩)
    go_roundg (l.length - (k+1))
    case measure=>omega
    case rel=>exact⟨k+1,by omega,by omega,by go_num,Lib.hid (HB.out.trans (hbw.mono HB.out.size)),Lib.hid (HT.out _ rfl)⟩
  ·
   have hm:l.any (fun x=>decide (x.kind=2))=false:=by have:=A.out;rw [List.take_of_length_le (by omega)] at this;exact this
   have HM:=Lib.hid hm
   clear hm
   go_wp2
   go_ret
   exact⟨⟨-1,rfl,by simp [HM.out]⟩,HB.out⟩
theorem containsE_any (v : Value) (l : List Ev) (w : World) (hv : EvsR w.heap.size w v l) :
  Calls Tryz.prog 18 #[v,.func (.func 19) #[] #[]] w fun e w'=>e=.returned (.bool (l.any (fun x=>decide (x.kind=2))))∧Below w.heap.size w w':=by
 have HI:=Lib.hid (idxE_any v l w hv)
 clear hv
 go_enter Tryz.func18,Tryz.ntmps18
 go_wp2_with fail
 refine HI.out.mono ?_
 rintro e w' ⟨⟨i,rfl,h3⟩,hb⟩
 have H3:=Lib.hid h3
 have HB:=Lib.hid hb
 clear h3 hb
 go_wp2
 go_ret
 refine⟨ret_bool ?_,HB.out⟩
 rw [Bool.eq_iff_iff,decide_eq_true_iff,H3.out]
end Go.Proofs.YtkahciebbnhobaaGreatDoor
