/- Several texts joined, each with its own heading in the notes: The keep's recorded. The keep's recorded guest in memory, and what its tape answers. The table that the program lays ahead of its start: what the rows' condition gives the walks. No condition beyond those of each row. -/
import Derived.Test.YtkahciebbnhobaaGreatDoorYPs
import Derived.Test.YtkahciebbnhobaaGreatDoorYWa
import Derived.Test.YtkahciebbnhobaaGreatDoorYQh
import Derived.Handy
import Derived.StillTailTactics
import Derived.Deep.RegionWith
import Derived.Deep.RegionLaw
import Derived.Deep.CutBlock
import Derived.Deep.CutRange
import Derived.Deep.RegionHeld3
import Derived.Deep.LoopGhost
import Derived.Test.YtkahciebbnhobaaGreatDoorYInA
import Derived.Test.YtkahciebbnhobaaGreatDoorYNg
import Derived.Test.YtkahciebbnhobaaGreatDoorYCm
import Derived.Test.YtkahciebbnhobaaGreatDoorRows
import Derived.Test.YtkahciebbnhobaaGreatDoorYEv
import Derived.FnData
import Derived.LaidLaws
import Derived.ProofKit
import Derived.LaidMore
import Derived.OpenShut
import Derived.Stop.Joined
namespace Go.Proofs.YtkahciebbnhobaaGreatDoor
open Go Go.RowKit Go.ChangeShapes Go.WideShapes Go.Deep
set_option linter.unusedVariables false
attribute [local go_sem ↓] Go.wp_at_zero Go.wp_at_succ
def setCells (w:World) (g:Nat):Nat→List Value→World
 | _,[]=>w
 | i,v :: vs=>setCells (w.setCell ⟨g,i,none⟩ v) g (i+1) vs
theorem setCells_ne {g k:Nat} {o:Obj} (hne:k≠g):∀ (vs:List Value) (i:Nat) (w:World),w.heap[k]? = some o→(setCells w g i vs).heap[k]? = some o
 | [],_,_,h=>h
 | v :: vs,i,w,h=>setCells_ne hne vs (i+1) _ (set_block_ne h hne v)
theorem setCells_own {base:Nat} {e:TypeId} {size:Nat} {v:Value} {n g:Nat} {xs:List Value} (hne:some g≠v.ownBlock):∀ (vs:List Value) (i:Nat) (w:World),w.ownsRow base e size v n xs→(setCells w g i vs).ownsRow base e size v n xs
 | [],_,_,h=>h
 | u :: vs,i,w,h=>setCells_own hne vs (i+1) _ (own_set h hne u)
theorem setCells_below {B g:Nat} {a:World} (hB:B≤g):∀ (vs:List Value) (i:Nat) (w:World),Below B a w→Below B a (setCells w g i vs)
 | [],_,_,h=>h
 | u :: vs,i,w,h=>setCells_below hB vs (i+1) _ (h.setCell hB u)
theorem setCells_at {g:Nat} {t:TypeId} {fr:Nat × Nat}:∀ (vs done rest:List Value) (w:World),rest.length=vs.length→w.heap[g]? = some (.cells (done ++ rest).toArray t fr)→(setCells w g done.length vs).heap[g]? = some (.cells (done ++ vs).toArray t fr)
 | [],done,rest,w,hl,h=>by
  rw [List.length_eq_zero_iff.1 hl] at h
  exact h
 | v :: vs,done,rest,w,hl,h=>by
  cases rest with
  | nil=>cases hl
  | cons r rest =>
   have h1:=set_block (i:=done.length) h v
   have e:((done ++ r :: rest).toArray.setIfInBounds done.length v)=((done ++ [v]) ++ rest).toArray:=by
    rw [List.setIfInBounds_toArray,List.set_append_right _ _ (Nat.le_refl _),Nat.sub_self]
    simp
   rw [e] at h1
   have h2:=setCells_at vs (done ++ [v]) rest (w.setCell ⟨g,done.length,none⟩ v) (by simpa using hl) h1
   rw [List.length_append] at h2
   rw [show done ++ v :: vs=(done ++ [v]) ++ vs by simp]
   exact h2
theorem setCells_all {g:Nat} {t:TypeId} {fr:Nat × Nat} {vs old:List Value} {w:World} (hl:old.length=vs.length) (h:w.heap[g]? = some (.cells old.toArray t fr)):(setCells w g 0 vs).heap[g]? = some (.cells vs.toArray t fr):=
 setCells_at vs [] old w hl h
theorem newC_words {img:List Int} (hl:img.length≤256) (h:∀ z∈img,WordZ z):newC img=0:=by
 unfold newC
 rw [if_neg (by omega),if_neg]
 intro k
 obtain⟨z,hz,h1⟩:=List.any_eq_true.1 k
 have:=h z hz
 unfold WordZ at this
 unfold oddB at h1
 simp at h1
 omega
end Go.Proofs.YtkahciebbnhobaaGreatDoor
namespace Go.Proofs.YtkahciebbnhobaaGreatDoor
open Go Go.RowKit Go.ChangeShapes Go.WideShapes Go.Deep
set_option maxRecDepth 100000
set_option linter.unusedVariables false
structure KT (w:World) (n:Int) (vi vb vg:Value) (img is vs:List Int) (bs:List (List Int)) (ds:List Int) (l:List UInt8) (N:Nat) (m:Mach):Prop where
 rc:KRec img is vs bs ds n l N m
 nc:newC img=0
 il:img.length≤64
 i:Ints w.heap.size w vi img
 b:BytesR w.heap.size w vb l
 g:MachR w.heap.size w vg m
theorem KT.to {w w':World} {n:Int} {vi vb vg:Value} {img is vs:List Int} {bs:List (List Int)} {ds:List Int} {l:List UInt8} {N:Nat} {m:Mach} (h:KT w n vi vb vg img is vs bs ds l N m) (hb:Below w.heap.size w w'):KT w' n vi vb vg img is vs bs ds l N m:=
 ⟨h.rc,h.nc,h.il,h.i.to hb.size (same_below hb),h.b.to hb.size (same_below hb),h.g.to hb.size (same_below hb)⟩
def KPost (last:Value) (n:Int) (w:World) (e:Ending) (w':World):Prop:=∃ (img is vs:List Int) (bs:List (List Int)) (ds:List Int) (l:List UInt8) (N:Nat) (m:Mach) (ai ab ar am ao:Option Addr) (ci cb cr cm co:Nat),e=.returned (.tuple #[.agg #[.slice ai img.length ci,.slice ab l.length cb,.int .i64 N],.agg #[.slice ar m.regs.length cr,.int .i64 m.pc,.int .i64 m.back,.bool m.ints,.bool m.wait,.int .i64 m.table,.int .i64 m.count,.int .i64 m.fin,.slice am m.mem.length cm,.slice ao m.out.length co,.int .i64 m.ready,.int .i64 m.want],last])∧KT w' n (.slice ai img.length ci) (.slice ab l.length cb) (.agg #[.slice ar m.regs.length cr,.int .i64 m.pc,.int .i64 m.back,.bool m.ints,.bool m.wait,.int .i64 m.table,.int .i64 m.count,.int .i64 m.fin,.slice am m.mem.length cm,.slice ao m.out.length co,.int .i64 m.ready,.int .i64 m.want]) img is vs bs ds l N m∧Below w.heap.size w w'
theorem newC_i64 {img:List Int} (h:newC img=0):∀ z∈img,I64 z:=by
 by_cases h1:256 < img.length
 · unfold newC at h;rw [if_pos h1] at h;cases h
 ·
  by_cases h2:img.any oddB=true
  · unfold newC at h;rw [if_neg h1,if_pos h2] at h;cases h
  · exact fun z hz=>(words_of (by simpa using h2) z hz).i64
section
variable {img is vs:List Int} {bs:List (List Int)} {ds:List Int} {n:Int} {l:List UInt8} {N:Nat} {m:Mach}
theorem KRec.ok (h:KRec img is vs bs ds n l N m) {k:Nat} (hk:k≤N):MOk (recI is vs bs ds (recS0 img) k).m:=(h.tape.at k hk).ok.ok
theorem KRec.mok (h:KRec img is vs bs ds n l N m):MOk m:=by rw [h.mach];exact h.ok (Nat.le_refl _)
theorem KRec.count (h:KRec img is vs bs ds n l N m) {k:Nat} (hk:k≤N):(recI is vs bs ds (recS0 img) k).m.count=k:=(h.tape.at k hk).cnt
theorem KRec.evl (h:KRec img is vs bs ds n l N m):EvL (recI is vs bs ds (recS0 img) N).all:=(h.tape.at N (Nat.le_refl _)).evl
theorem KRec.chk (h:KRec img is vs bs ds n l N m) (hn:newC img=0):ChkR img l N 0 (recI is vs bs ds (recS0 img) N).all:=
 Or.inr (Or.inr ⟨hn,by omega,by have:=h.tape.le;omega,0,_,h.dec,Or.inr (Or.inr ⟨rfl,fun i hi=>(h.tape.at N (Nat.le_refl _)).lt _ (List.getElem_mem hi),rfl,rfl⟩)⟩)
theorem KRec.run (h:KRec img is vs bs ds n l N m) {k:Nat} (hk:k≤N):runM (recI is vs bs ds (recS0 img) N).all (imageM img) k=(recI is vs bs ds (recS0 img) k).m:=h.tape.run k hk
end
theorem mach_r {w:World} {base:Nat} {m:Mach} {ar am ao:Option Addr} {cr cm co:Nat} (hok:MOk m) (h:MachOwn base w m (.slice ar m.regs.length cr) (.slice am m.mem.length cm) (.slice ao m.out.length co)):MachR w.heap.size w (m.agg (.slice ar m.regs.length cr) (.slice am m.mem.length cm) (.slice ao m.out.length co)) m:=
 h.reads (fun z hz=>(words_of hok.wr z hz).i64) (fun z hz=>(words_of hok.wm z hz).i64) (fun z hz=>(words_of hok.wo z hz).i64) (by rw [hok.regs];omega) (by rw [hok.mem];omega) (by have:=hok.out;omega)
theorem krec_any (ai a0 a1 a2 a3:Option Addr) (ci c0 c1 c2 c3:Nat) (img is vs:List Int) (bs:List (List Int)) (ds:List Int) (n:Int) (w:World) (ht:Tab w) (hi:Ints w.heap.size w (.slice ai img.length ci) img) (h0:Ints w.heap.size w (.slice a0 is.length c0) is) (h1:Ints w.heap.size w (.slice a1 vs.length c1) vs) (h2:RowsR w.heap.size w (.slice a2 bs.length c2) bs) (h3:Ints w.heap.size w (.slice a3 ds.length c3) ds) (hn0:0≤n) (hn1:n≤500) (hnc:newC img=0) (hil:img.length≤64) (hw:W20 is vs bs ds):Calls Tryz.prog 9 #[.slice ai img.length ci,.agg #[.slice a0 is.length c0,.slice a1 vs.length c1,.slice a2 bs.length c2,.slice a3 ds.length c3],.int .i64 n] w (KPost (.int .i64 0) n w):=by
 refine (record_any ai ci a0 a1 a2 a3 c0 c1 c2 c3 img is vs bs ds n w ht hi h0 h1 h2 h3 (by unfold I64;omega)).mono ?_
 rintro e w5 ⟨cc,l,cnt,i2,m,vi,vb,ar,cr,am,cm,ao,co,hR,rfl,hvi,hvb,hbd,hmo,hb5⟩
 obtain⟨rfl,hi2,N,rfl,hK⟩:=keep_rec hR hnc hw hn0 hn1
 subst hi2
 obtain⟨ai,ci,rfl⟩:=own_shape hvi
 obtain⟨ab,cb,rfl⟩:=own_shape hvb
 refine⟨i2,is,vs,bs,ds,l,N,m,ai,ab,ar,am,ao,ci,cb,cr,cm,co,rfl,⟨hK,hnc,hil,ints_of_owns hvi (by omega) (newC_i64 hnc),bytes_of_own hvb (by have:=hK.l60;omega),mach_r hK.mok hmo⟩,hb5⟩
theorem w20_none:W20 [] [] [] []:=⟨by simp,by simp,by simp,by simp,by simp,by simp,by simp,by simp⟩
theorem newC_none:newC []=0:=rfl
theorem knone_any (n:Int) (w:World) (ht:Tab w) (hn0:0≤n) (hn1:n≤500):Calls Tryz.prog 9 #[.slice none 0 0,.agg #[.slice none 0 0,.slice none 0 0,.slice none 0 0,.slice none 0 0],.int .i64 n] w (KPost (.int .i64 0) n w):=
 krec_any none none none none none 0 0 0 0 0 [] [] [] [] [] n w ht (Sl1.nil _ _ _ _) (Sl1.nil _ _ _ _) (Sl1.nil _ _ _ _) (RowsR.nil _ _) (Sl1.nil _ _ _ _) hn0 hn1 newC_none (by simp) w20_none
theorem machr_ints {B:Nat} {w:World} {M:Mach} {ar am ao:Option Addr} {cr cm co:Nat} (h:MachR B w (.agg #[.slice ar M.regs.length cr,.int .i64 M.pc,.int .i64 M.back,.bool M.ints,.bool M.wait,.int .i64 M.table,.int .i64 M.count,.int .i64 M.fin,.slice am M.mem.length cm,.slice ao M.out.length co,.int .i64 M.ready,.int .i64 M.want]) M):Ints B w (.slice ar M.regs.length cr) M.regs∧Ints B w (.slice am M.mem.length cm) M.mem∧Ints B w (.slice ao M.out.length co) M.out:=by
 obtain⟨ar',cr',am',cm',ao',co',he,h1,h2,h3⟩:=h
 unfold Mach.agg at he
 injection he with he
 injection he with he
 injection he with e0 he
 injection he with e1 he
 injection he with e2 he
 injection he with e3 he
 injection he with e4 he
 injection he with e5 he
 injection he with e6 he
 injection he with e7 he
 injection he with e8 he
 injection he with e9 he
 rw [← e0] at h1
 rw [← e8] at h2
 rw [← e9] at h3
 exact⟨h1,h2,h3⟩
section
variable {w:World} {n:Int} {ai ab:Option Addr} {ci cb:Nat} {vg:Value} {img is vs:List Int} {bs:List (List Int)} {ds:List Int} {l:List UInt8} {N:Nat} {m:Mach}
theorem kchk_any (h:KT w n (.slice ai img.length ci) (.slice ab l.length cb) vg img is vs bs ds l N m) (ht:Tab w):Calls Tryz.prog 11 #[.agg #[.slice ai img.length ci,.slice ab l.length cb,.int .i64 N]] w fun e w' =>∃vo,e=.returned (.tuple #[vo,.int .i64 0])∧EvsR w'.heap.size w' vo (recI is vs bs ds (recS0 img) N).all∧Below w.heap.size w w':=by
 have h3:=h.rc.tape.le
 refine (runcheck_any _ _ img l N w ht h.i h.b (by unfold I64;omega)).mono ?_
 rintro e w1 ⟨c,l2,vo,hchk,he,hev,hb1⟩
 obtain⟨rfl,rfl⟩:=(h.rc.chk h.nc).det hchk
 exact⟨vo,he,hev,hb1⟩
end
abbrev laidW:=Rows.topWorldsRow.laid
theorem gWords : Tryz.prog.globalNamed "hourglass/evlog.words" = some 0 := by kernel_rfl
theorem tWords:(Tryz.prog.globals[0]?).map (·.type)=some 119:=by kernel_rfl
theorem door_met (os:Os) (args:Array Value):laidMetH Tryz.prog laidW ((World.doorLaid Tryz.prog 400 os).forCall (fun _ _=>0) ⟨#[],args,[]⟩).memory:=
 laidMetH_of_parts3 (fuel:=8) (laidMet_of_run' 8 (by kernel_rfl) (by kernel_rfl)) (by kernel_rfl) (by kernel_rfl)
theorem tab_of_laid {W:World} (h:laidMetH Tryz.prog laidW W):Tab W:=by
 rw [MakeChecks.laidMetH_plain _ _ _ (by kernel_rfl)] at h
 obtain⟨ps,⟨g0,t0,cs0,f0,p0,q0,hg0,ht0,hv0,hd0,_,_⟩,_,_⟩:=h
 obtain rfl:=Option.some.inj (gWords.symm.trans hg0)
 obtain rfl:=Option.some.inj (tWords.symm.trans ht0)
 obtain⟨xs,m1,rfl,hx1,hlen,hn3,hel⟩:=DataW.trod_array Tryz.underlying119 hd0
 have c3:Tryz.prog.cellsOf 3=1:=by kernel_rfl
 have c4:Tryz.prog.cellsOf 119=4:=by kernel_rfl
 have h0:=hel 0 (by decide)
 have h1:=hel 1 (by decide)
 have h2:=hel 2 (by decide)
 have h3:=hel 3 (by decide)
 rw [c3] at h0 h1 h2 h3
 rw [c4] at hlen
 obtain⟨cs⟩:=cs0
 simp only at hlen h0 h1 h2 h3 hv0
 obtain⟨a0,a1,a2,a3,rfl⟩:=len4 hlen
 obtain⟨x0,x1,x2,x3,rfl⟩:=len4 hn3
 simp only [Prod.mk.injEq] at hx1
 have hx:=hx1.1
 simp only [Rows.laid_hourglass_evlog_words,List.map_cons,List.map_nil,DataW.agg.injEq,List.cons.injEq,and_true] at hx
 obtain⟨y0,y1,y2,y3⟩:=hx
 have one:∀ {a:Value} {x:DataW Unit × List MemPlace} {n:Int},DataW.trod (fun _=>()) Tryz.prog W 0 (fun _=>true) false m1 3 [a]=some x→DataW.lit (.int .i64 n)=x.1→a=.int .i64 n:=by
  intro a x n h e
  obtain⟨k,e1,e2,_⟩:=DataW.trod_int Tryz.underlying3 h
  rw [e2] at e
  simp only [DataW.lit.injEq,Lit.int.injEq,true_and] at e
  simp only [List.cons.injEq,and_true] at e1
  rw [e1,e]
 have z0:=one h0 y0
 have z1:=one h1 y1
 have z2:=one h2 y2
 have z3:=one h3 y3
 subst z0 z1 z2 z3
 have hc:=World.var?_cell hg0 hv0
 refine⟨hc 0,hc 1,hc 2,hc 3,World.block_lt_of_cell? W ⟨0,0,none⟩ (hc 0)⟩
section
variable {H:Type} {enc:TypeId × Value→H} {w:World} {held:Bool}
end
end Go.Proofs.YtkahciebbnhobaaGreatDoor
