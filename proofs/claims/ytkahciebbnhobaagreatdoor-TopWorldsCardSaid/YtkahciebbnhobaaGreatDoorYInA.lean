/- Several texts joined, each with its own heading in the notes: What the contract of instr is made of. The contract of the keep's Image: words, at most 64 of them. No condition beyond those of each row. -/
import Derived.Test.YtkahciebbnhobaaGreatDoorYPk
import Derived.Test.YtkahciebbnhobaaGreatDoorYCpu1
import Derived.Test.YtkahciebbnhobaaGreatDoorYEv
import Derived.Deep.RegionHeld3
import Derived.Deep.CutBlock
import Derived.IntWalk
import Derived.Test.YtkahciebbnhobaaGreatDoorYKa
import Derived.Test.YtkahciebbnhobaaGreatDoorYCl
namespace Go.Proofs.YtkahciebbnhobaaGreatDoor
open Go Go.RowKit Go.ChangeShapes Go.WideShapes Go.Deep
set_option linter.unusedVariables false
attribute [local go_sem ↓] Go.wp_at_zero Go.wp_at_succ
structure ICut (w:World) (k a b c:Int) (gi:Nat) (x y:Int) (wx:World):Prop where
 r:wx.heap[w.heap.size]? = some (.cells #[.int .i64 k,.int .i64 a,.int .i64 b,.int .i64 c] 61 (0,0))
 o:wx.heap[w.heap.size+1]? = some (.cells #[.int .i64 0,.int .i64 0,.int .i64 0,.int .i64 0] 74 (0,0))
 i:wx.heap[gi]? = some (.cells #[.int .i64 0,.int .i64 x,.int .i64 y,.int .i64 0] 74 (0,0))
 b:Below w.heap.size w wx
 gt:w.heap.size+1 < gi
structure IEnd (w:World) (gi:Nat) (op a b n:Int) (wx:World):Prop where
 o:wx.heap[w.heap.size+1]? = some (.cells #[.int .i64 0,.int .i64 0,.int .i64 0,.int .i64 0] 74 (0,0))
 i:wx.heap[gi]? = some (.cells #[.int .i64 op,.int .i64 a,.int .i64 b,.int .i64 n] 74 (0,0))
 b:Below w.heap.size w wx
theorem ICut.all {w wc:World} {k a b c x y:Int} {gi:Nat} (hI:ICut w k a b c gi x y wc):wc.cell? ⟨w.heap.size,0,none⟩=some (.int .i64 k)∧wc.cell? ⟨w.heap.size,3,none⟩=some (.int .i64 c)∧wc.cell? ⟨gi,0,none⟩=some (.int .i64 0)∧wc.cell? ⟨gi,1,none⟩=some (.int .i64 x)∧wc.cell? ⟨gi,2,none⟩=some (.int .i64 y)∧wc.cell? ⟨gi,3,none⟩=some (.int .i64 0)∧wc.cell? ⟨w.heap.size+1,0,none⟩=some (.int .i64 0)∧wc.cell? ⟨w.heap.size+1,1,none⟩=some (.int .i64 0)∧wc.cell? ⟨w.heap.size+1,2,none⟩=some (.int .i64 0)∧wc.cell? ⟨w.heap.size+1,3,none⟩=some (.int .i64 0)∧wc.frozen? ⟨gi,0,none⟩=false∧wc.frozen? ⟨gi,1,none⟩=false∧wc.frozen? ⟨gi,2,none⟩=false∧wc.frozen? ⟨gi,3,none⟩=false∧wc.frozen? ⟨w.heap.size+1,0,none⟩=false∧wc.frozen? ⟨w.heap.size+1,1,none⟩=false∧wc.frozen? ⟨w.heap.size+1,2,none⟩=false∧wc.frozen? ⟨w.heap.size+1,3,none⟩=false∧gi < wc.heap.size∧w.heap.size+1 < wc.heap.size∧w.heap.size < wc.heap.size∧gi≠w.heap.size+1∧w.heap.size+1≠gi∧gi≠w.heap.size∧w.heap.size≠gi:=by
 have lgo:w.heap.size+1 < wc.heap.size:=(Array.getElem?_eq_some_iff.1 hI.o).1
 have:=hI.gt
 exact⟨cell_block hI.r 0,cell_block hI.r 3,cell_block hI.i 0,cell_block hI.i 1,cell_block hI.i 2,cell_block hI.i 3,cell_block hI.o 0,cell_block hI.o 1,cell_block hI.o 2,cell_block hI.o 3,free_block hI.i 0,free_block hI.i 1,free_block hI.i 2,free_block hI.i 3,free_block hI.o 0,free_block hI.o 1,free_block hI.o 2,free_block hI.o 3,(Array.getElem?_eq_some_iff.1 hI.i).1,lgo,by omega,by omega,by omega,by omega,by omega⟩
theorem IEnd.all {w wc:World} {op a1 b1 n:Int} {gi:Nat} (hE:IEnd w gi op a1 b1 n wc):wc.cell? ⟨gi,0,none⟩=some (.int .i64 op)∧wc.cell? ⟨gi,1,none⟩=some (.int .i64 a1)∧wc.cell? ⟨gi,2,none⟩=some (.int .i64 b1)∧wc.cell? ⟨gi,3,none⟩=some (.int .i64 n)∧wc.cell? ⟨w.heap.size+1,0,none⟩=some (.int .i64 0)∧wc.cell? ⟨w.heap.size+1,1,none⟩=some (.int .i64 0)∧wc.cell? ⟨w.heap.size+1,2,none⟩=some (.int .i64 0)∧wc.cell? ⟨w.heap.size+1,3,none⟩=some (.int .i64 0)∧wc.frozen? ⟨w.heap.size+1,0,none⟩=false∧wc.frozen? ⟨w.heap.size+1,1,none⟩=false∧wc.frozen? ⟨w.heap.size+1,2,none⟩=false∧wc.frozen? ⟨w.heap.size+1,3,none⟩=false∧w.heap.size+1 < wc.heap.size:=
 ⟨cell_block hE.i 0,cell_block hE.i 1,cell_block hE.i 2,cell_block hE.i 3,cell_block hE.o 0,cell_block hE.o 1,cell_block hE.o 2,cell_block hE.o 3,free_block hE.o 0,free_block hE.o 1,free_block hE.o 2,free_block hE.o 3,(Array.getElem?_eq_some_iff.1 hE.o).1⟩
theorem tdiv8 (c:Int) (h1:-9223372036854775808≤c) (h2:c≤9223372036854775807):-9223372036854775808≤c.tdiv 8∧c.tdiv 8≤9223372036854775807:=by
 by_cases h:0≤c
 · rw [Int.tdiv_eq_ediv_of_nonneg h];omega
 ·
  have e:c.tdiv 8 = -((-c) / 8):=by
   have:c.tdiv 8 = -((-c).tdiv 8):=by rw [Int.neg_tdiv,Int.neg_neg]
   rw [this,Int.tdiv_eq_ediv_of_nonneg (by omega)]
  rw [e];omega
theorem iend2 {w wx:World} {k a b c x y op n:Int} {gi:Nat} (h:ICut w k a b c gi x y wx):IEnd w gi op x y n ((wx.setCell ⟨gi,0,none⟩ (.int .i64 op)).setCell ⟨gi,3,none⟩ (.int .i64 n)):=
 ⟨set_block_ne (set_block_ne h.o (by have:=h.gt;omega) _) (by have:=h.gt;omega) _,by simpa using set_block (i:=3) (set_block (i:=0) h.i (.int .i64 op)) (.int .i64 n),((h.b.setCell (by have:=h.gt;simp;omega) _).setCell (by have:=h.gt;simp;omega) _)⟩
theorem iend3 {w wx:World} {k a b c x y op m n:Int} {gi:Nat} (h:ICut w k a b c gi x y wx):IEnd w gi op x m n (((wx.setCell ⟨gi,0,none⟩ (.int .i64 op)).setCell ⟨gi,2,none⟩ (.int .i64 m)).setCell ⟨gi,3,none⟩ (.int .i64 n)):=
 ⟨set_block_ne (set_block_ne (set_block_ne h.o (by have:=h.gt;omega) _) (by have:=h.gt;omega) _) (by have:=h.gt;omega) _,by simpa using set_block (i:=3) (set_block (i:=2) (set_block (i:=0) h.i (.int .i64 op)) (.int .i64 m)) (.int .i64 n),(((h.b.setCell (by have:=h.gt;simp;omega) _).setCell (by have:=h.gt;simp;omega) _).setCell (by have:=h.gt;simp;omega) _)⟩
theorem iend1 {w wx:World} {k a b c x y op:Int} {gi:Nat} (h:ICut w k a b c gi x y wx):IEnd w gi op x y 0 (wx.setCell ⟨gi,0,none⟩ (.int .i64 op)):=
 ⟨set_block_ne h.o (by have:=h.gt;omega) _,by simpa using set_block (i:=0) h.i (.int .i64 op),(h.b.setCell (by have:=h.gt;simp;omega) _)⟩
theorem IEnd.grown {w wx wy:World} {gi:Nat} {op a b n:Int} (h:IEnd w gi op a b n wx) (hb:Below wx.heap.size wx wy):IEnd w gi op a b n wy:=
 ⟨block_below hb h.o (Array.getElem?_eq_some_iff.1 h.o).1,block_below hb h.i (Array.getElem?_eq_some_iff.1 h.i).1,h.b.trans (hb.mono h.b.size)⟩
def iProg:List Ins:=[⟨9,0,0,12⟩,⟨15,0,0,0⟩,⟨15,0,0,0⟩,⟨15,0,0,0⟩,⟨15,0,0,0⟩,⟨15,0,0,0⟩,⟨15,0,0,0⟩,⟨15,0,0,0⟩,⟨4,7,7,1⟩,⟨11,7,0,3⟩,⟨13,0,0,0⟩,⟨15,0,0,0⟩,⟨12,0,0,1⟩]
structure WOwn (base:Nat) (w:World) (a:Option Addr) (c:Nat) (n:Nat) (zs:List Int):Prop where
 len:zs.length=n
 word:∀ z∈zs,WordZ z
 own:w.ownsRow base 3 1 (.slice a n c) n (zs.map (Value.int .i64))
theorem encs_word (l:List Ins):∀ z∈l.map Ins.enc,WordZ z:=fun z hz=>by
 obtain⟨y,-,rfl⟩:=List.mem_map.1 hz
 exact encZ_WordZ _ _ _ _
end Go.Proofs.YtkahciebbnhobaaGreatDoor
