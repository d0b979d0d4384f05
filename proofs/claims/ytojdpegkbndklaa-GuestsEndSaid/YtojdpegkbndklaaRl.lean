/- The reading of a slice of raw things. No condition. -/
import Derived.Test.YtojdpegkbndklaaOp2
namespace Go.Proofs.Ytojdpegkbndklaa
open Go Go.RowKit Go.ChangeShapes Go.WideShapes Go.Deep
set_option linter.unusedVariables false

/-- A raw thing. -/
structure Rw where
  k : Int
  a : Int
  b : Int
  c : Int
def RawC (cs : List Value) (x : Rw) : Prop := cs = [.int .i64 x.k, .int .i64 x.a, .int .i64 x.b, .int .i64 x.c] ∧ I64 x.k ∧ I64 x.a ∧ I64 x.b ∧ I64 x.c
def RawsR (B : Nat) (w : World) (v : Value) (xs : List Rw) : Prop := SlN 4 4398046510976 B w RawC v xs
theorem RawsR.to {B B' : Nat} {w w' : World} {v : Value} {xs : List Rw} (hB : B ≤ B') (hw : Same B w w') (h : RawsR B w v xs) : RawsR B' w' v xs := SlN.to (Nat.le_refl _) hB hw (fun _ _ h => h) h
theorem reach32 (n : Nat) (h : n * 32 ≤ reachBytes) : n ≤ 4398046510976 := by unfold reachBytes at h; omega
theorem Try.cells64 : Try.prog.cellsOf 64 = 4 := by kernel_rfl
theorem Try.bytes64 : Try.prog.bytesOf 64 = 32 := by kernel_rfl

section
variable {H : Type} {enc : TypeId × Value → H} {w : World} {held : Bool}
set_option maxRecDepth 100000 in
theorem open_rawC {n : Nat} {cs : List Value} {d : DataW H} {p : List MemPlace} (h : DataW.trod enc Try.prog w 0 (fun _ => true) held n 64 cs = some (d, p)) (hf : Fits Try.prog 64 d) : ∃ x, RawC cs x := by
  obtain ⟨hl, k, hk⟩ := open_cells Try.underlying64 (by kernel_rfl) h hf
  obtain ⟨c0, c1, c2, c3, rfl⟩ := len4 (hl.trans (by kernel_rfl))
  obtain ⟨d0, p0, h0, f0⟩ := hk 0 _ rfl
  obtain ⟨d1, p1, h1, f1⟩ := hk 1 _ rfl
  obtain ⟨d2, p2, h2, f2⟩ := hk 2 _ rfl
  obtain ⟨d3, p3, h3, f3⟩ := hk 3 _ rfl
  obtain ⟨z0, rfl, g0⟩ := open_intV Try.underlying3 h0
  obtain ⟨z1, rfl, g1⟩ := open_intV Try.underlying3 h1
  obtain ⟨z2, rfl, g2⟩ := open_intV Try.underlying3 h2
  obtain ⟨z3, rfl, g3⟩ := open_intV Try.underlying3 h3
  exact ⟨⟨z0, z1, z2, z3⟩, rfl, g0, g1, g2, g3⟩
set_option maxRecDepth 100000 in
theorem open_rawsR {r : Reach} {b0 : Nat} {v : Value} {d : DataW H} {p : List MemPlace} (ok : Value.okWide Try.prog w r b0 42 v) (h : DataW.Trod enc Try.prog w 0 (fun _ => true) held 42 v d p) (hf : Fits Try.prog 42 d) : ∃ xs, RawsR w.heap.size w v xs := by
  obtain ⟨a, len, cap, rfl⟩ := okWide_slice Try.underlying42 ok
  obtain ⟨n, hn⟩ := h
  exact open_slN 4 4398046510976 32 (by omega) Try.underlying42 Try.cells64 Try.bytes64 reach32 RawC (fun _ _ _ _ h _ hf => open_rawC h hf) hn hf
end
end Go.Proofs.Ytojdpegkbndklaa
