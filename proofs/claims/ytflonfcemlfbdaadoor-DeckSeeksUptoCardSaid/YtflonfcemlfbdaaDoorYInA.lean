/- What the contract of instr is made of. No condition. -/
import Derived.Test.YtflonfcemlfbdaaDoorYMem
import Derived.Test.YtflonfcemlfbdaaDoorYCpu1
import Derived.Test.YtflonfcemlfbdaaDoorYEv
import Derived.Deep.RegionHeld3
import Derived.Deep.CutBlock
import Derived.IntWalk
namespace Go.Proofs.YtflonfcemlfbdaaDoor
open Go Go.RowKit Go.ChangeShapes Go.WideShapes Go.Deep
set_option linter.unusedVariables false
attribute [local go_sem ↓] Go.wp_at_zero Go.wp_at_succ
structure IEnd(w:World)(gi:Nat)(op a b n:Int)(wx:World):Prop where
 o:wx.heap[w.heap.size+1]?=some (.cells #[.int .i64 0,.int .i64 0,.int .i64 0,.int .i64 0] 123 (0,0))
 i:wx.heap[gi]?=some (.cells #[.int .i64 op,.int .i64 a,.int .i64 b,.int .i64 n] 123 (0,0))
 b:Below w.heap.size w wx
theorem IEnd.all{w wc:World}{op a1 b1 n:Int}{gi:Nat}(hE:IEnd w gi op a1 b1 n wc):wc.cell? ⟨gi,0,none⟩=some (.int .i64 op)∧wc.cell? ⟨gi,1,none⟩=some (.int .i64 a1)∧wc.cell? ⟨gi,2,none⟩=some (.int .i64 b1)∧wc.cell? ⟨gi,3,none⟩=some (.int .i64 n)∧wc.cell? ⟨w.heap.size+1,0,none⟩=some (.int .i64 0)∧wc.cell? ⟨w.heap.size+1,1,none⟩=some (.int .i64 0)∧wc.cell? ⟨w.heap.size+1,2,none⟩=some (.int .i64 0)∧wc.cell? ⟨w.heap.size+1,3,none⟩=some (.int .i64 0)∧wc.frozen? ⟨w.heap.size+1,0,none⟩=false∧wc.frozen? ⟨w.heap.size+1,1,none⟩=false∧wc.frozen? ⟨w.heap.size+1,2,none⟩=false∧wc.frozen? ⟨w.heap.size+1,3,none⟩=false∧w.heap.size+1<wc.heap.size:=
 ⟨zaa hE.i 0,zaa hE.i 1,zaa hE.i 2,zaa hE.i 3,zaa hE.o 0,zaa hE.o 1,zaa hE.o 2,zaa hE.o 3,zab hE.o 0,zab hE.o 1,zab hE.o 2,zab hE.o 3,(Array.getElem?_eq_some_iff.1 hE.o).1⟩
theorem IEnd.grown{w wx wy:World}{gi:Nat}{op a b n:Int}(h:IEnd w gi op a b n wx)(hb:Below wx.heap.size wx wy):IEnd w gi op a b n wy:=
 ⟨zac hb h.o (Array.getElem?_eq_some_iff.1 h.o).1,zac hb h.i (Array.getElem?_eq_some_iff.1 h.i).1,h.b.trans (hb.mono h.b.size)⟩
end Go.Proofs.YtflonfcemlfbdaaDoor
