/- Several texts joined, each with its own heading in the notes: The table that the program lays ahead of its start: what the rows' condition gives the walks. The keep's recorded. The keep's recorded guest in memory, and what its tape answers. No condition beyond those of each row. -/
import Derived.Test.YtflonfcemlfbdaaDoorRows
import Derived.Test.YtflonfcemlfbdaaDoorYEv
import Derived.FnData
import Derived.LaidLaws
import Derived.ProofKit
import Derived.LaidMore
import Derived.OpenShut
import Derived.Stop.Joined
import Derived.Test.YtflonfcemlfbdaaDoorYPs
import Derived.Test.YtflonfcemlfbdaaDoorYWa
import Derived.Deep.LoopGhost
import Derived.Handy
import Derived.StillTailTactics
import Derived.Deep.RegionWith
import Derived.Deep.RegionLaw
import Derived.Deep.CutBlock
import Derived.Deep.CutRange
import Derived.Deep.RegionHeld3
import Derived.Test.YtflonfcemlfbdaaDoorYPr
import Derived.Test.YtflonfcemlfbdaaDoorYSp
import Derived.Test.YtflonfcemlfbdaaDoorYInA
import Derived.Test.YtflonfcemlfbdaaDoorYRl
import Derived.Test.YtflonfcemlfbdaaDoorYCl
import Derived.Test.YtflonfcemlfbdaaDoorYNg
import Derived.Test.YtflonfcemlfbdaaDoorYCm
namespace Go.Proofs.YtflonfcemlfbdaaDoor
open Go Go.RowKit Go.ChangeShapes Go.WideShapes Go.Deep
set_option maxRecDepth 100000
set_option linter.unusedVariables false
abbrev laidW:=Rows.deckSeeksRow.laid
theorem gWords : Tryd.prog.globalNamed "hourglass/evlog.words" = some 0 := by kernel_rfl
theorem tWords:(Tryd.prog.globals[0]?).map (·.type)=some 129:=by kernel_rfl
theorem ziY(os:Os)(args:Array Value):laidMetH Tryd.prog laidW ((World.doorLaid Tryd.prog 400 os).forCall (fun _ _=>0) ⟨#[],args,[]⟩).memory:=
 laidMetH_of_parts3 (fuel:=8) (laidMet_of_run' 8 (by kernel_rfl) (by kernel_rfl)) (by kernel_rfl) (by kernel_rfl)
theorem zfb{W:World}(h:laidMetH Tryd.prog laidW W):Tab W:=by
 rw[MakeChecks.laidMetH_plain _ _ _ (by kernel_rfl)] at h
 obtain⟨ps,⟨g0,t0,cs0,f0,p0,q0,hg0,ht0,hv0,hd0,_,_⟩,_,_⟩:=h
 obtain rfl:=Option.some.inj (gWords.symm.trans hg0)
 obtain rfl:=Option.some.inj (tWords.symm.trans ht0)
 obtain⟨xs,m1,rfl,hx1,hlen,hn3,hel⟩:=DataW.trod_array Tryd.underlying129 hd0
 have c3:Tryd.prog.cellsOf 3=1:=by kernel_rfl
 have c4:Tryd.prog.cellsOf 129=4:=by kernel_rfl
 have h0:=hel 0 (by decide)
 have h1:=hel 1 (by decide)
 have h2:=hel 2 (by decide)
 have h3:=hel 3 (by decide)
 rw[c3] at h0 h1 h2 h3
 rw[c4] at hlen
 obtain⟨cs⟩:=cs0
 simp only at hlen h0 h1 h2 h3 hv0
 obtain⟨a0,a1,a2,a3,rfl⟩:=len4 hlen
 obtain⟨x0,x1,x2,x3,rfl⟩:=len4 hn3
 simp only[Prod.mk.injEq] at hx1
 have hx:=hx1.1
 simp only[Rows.laid_hourglass_evlog_words,List.map_cons,List.map_nil,DataW.agg.injEq,List.cons.injEq,and_true] at hx
 obtain⟨y0,y1,y2,y3⟩:=hx
 have one:∀{a:Value} {x:DataW Unit×List MemPlace} {n:Int},DataW.trod (fun _=>()) Tryd.prog W 0 (fun _=>true) false m1 3 [a]=some x→DataW.lit (.int .i64 n)=x.1→a=.int .i64 n:=by
  intro a x n h e
  obtain⟨k,e1,e2,_⟩:=DataW.trod_int Tryd.underlying3 h
  rw[e2] at e
  simp only[DataW.lit.injEq,Lit.int.injEq,true_and] at e
  simp only[List.cons.injEq,and_true] at e1
  rw[e1,e]
 have z0:=one h0 y0
 have z1:=one h1 y1
 have z2:=one h2 y2
 have z3:=one h3 y3
 subst z0 z1 z2 z3
 have hc:=World.var?_cell hg0 hv0
 refine⟨hc 0,hc 1,hc 2,hc 3,World.block_lt_of_cell? W ⟨0,0,none⟩ (hc 0)⟩
section
variable {H:Type} {enc:TypeId × Value→H} {w:World} {held:Bool}
end
end Go.Proofs.YtflonfcemlfbdaaDoor
namespace Go.Proofs.YtflonfcemlfbdaaDoor
open Go Go.RowKit Go.ChangeShapes Go.WideShapes Go.Deep
set_option linter.unusedVariables false
attribute [local go_sem ↓] Go.wp_at_zero Go.wp_at_succ
def setCells(w:World)(g:Nat):Nat→List Value→World
 | _,[]=>w
 | i,v::vs=>setCells (w.setCell ⟨g,i,none⟩ v) g (i+1) vs
theorem setCells_at{g:Nat}{t:TypeId}{fr:Nat×Nat}:∀(vs done rest:List Value) (w:World),rest.length=vs.length→w.heap[g]?=some (.cells (done++rest).toArray t fr)→(setCells w g done.length vs).heap[g]?=some (.cells (done++vs).toArray t fr)
 | [],done,rest,w,hl,h=>by
  rw[List.length_eq_zero_iff.1 hl] at h
  exact h
 | v::vs,done,rest,w,hl,h=>by
  cases rest with
  | nil=>cases hl
  | cons r rest=>
   have h1:=zaf (i:=done.length) h v
   have e:((done++r::rest).toArray.setIfInBounds done.length v)=((done++[v])++rest).toArray:=by
    rw[List.setIfInBounds_toArray,List.set_append_right _ _ (Nat.le_refl _),Nat.sub_self]
    simp
   rw[e] at h1
   have h2:=setCells_at vs (done++[v]) rest (w.setCell ⟨g,done.length,none⟩ v) (by simpa using hl) h1
   rw[List.length_append] at h2
   rw[show done++v::vs=(done++[v])++vs by simp]
   exact h2
theorem zes{g:Nat}{t:TypeId}{fr:Nat×Nat}{vs old:List Value}{w:World}(hl:old.length=vs.length)(h:w.heap[g]?=some (.cells old.toArray t fr)):(setCells w g 0 vs).heap[g]?=some (.cells vs.toArray t fr):=
 setCells_at vs [] old w hl h
end Go.Proofs.YtflonfcemlfbdaaDoor
namespace Go.Proofs.YtflonfcemlfbdaaDoor
open Go Go.RowKit Go.ChangeShapes Go.WideShapes Go.Deep
set_option linter.unusedVariables false
structure KT(w:World)(n:Int)(vi vb vg:Value)(img is vs:List Int)(bs:List (List Int))(ds:List Int)(l:List UInt8)(N:Nat)(m:Mach):Prop where
 rc:KRec img is vs bs ds n l N m
 nc:newC img=0
 il:img.length≤64
 i:Ints w.heap.size w vi img
 b:BytesR w.heap.size w vb l
 g:MachR w.heap.size w vg m
theorem KT.to{w w':World}{n:Int}{vi vb vg:Value}{img is vs:List Int}{bs:List (List Int)}{ds:List Int}{l:List UInt8}{N:Nat}{m:Mach}(h:KT w n vi vb vg img is vs bs ds l N m)(hb:Below w.heap.size w w'):KT w' n vi vb vg img is vs bs ds l N m:=
 ⟨h.rc,h.nc,h.il,h.i.to hb.size (zae hb),h.b.to hb.size (zae hb),h.g.to hb.size (zae hb)⟩
section
variable {img is vs:List Int} {bs:List (List Int)} {ds:List Int} {n:Int} {l:List UInt8} {N:Nat} {m:Mach}
theorem KRec.ok(h:KRec img is vs bs ds n l N m){k:Nat}(hk:k≤N):MOk (recI is vs bs ds (zbI img) k).m:=(h.tape.at k hk).ok.ok
theorem KRec.evl(h:KRec img is vs bs ds n l N m):EvL (recI is vs bs ds (zbI img) N).all:=(h.tape.at N (Nat.le_refl _)).evl
theorem KRec.chk(h:KRec img is vs bs ds n l N m)(hn:newC img=0):ChkR img l N 0 (recI is vs bs ds (zbI img) N).all:=
 Or.inr (Or.inr ⟨hn,by omega,by have:=h.tape.le;omega,0,_,h.dec,Or.inr (Or.inr ⟨rfl,fun i hi=>(h.tape.at N (Nat.le_refl _)).lt _ (List.getElem_mem hi),rfl,rfl⟩)⟩)
theorem KRec.run(h:KRec img is vs bs ds n l N m){k:Nat}(hk:k≤N):runM (recI is vs bs ds (zbI img) N).all (zas img) k=(recI is vs bs ds (zbI img) k).m:=h.tape.run k hk
end
section
variable {w:World} {n:Int} {ai ab:Option Addr} {ci cb:Nat} {vg:Value} {img is vs:List Int} {bs:List (List Int)} {ds:List Int} {l:List UInt8} {N:Nat} {m:Mach}
end
end Go.Proofs.YtflonfcemlfbdaaDoor
