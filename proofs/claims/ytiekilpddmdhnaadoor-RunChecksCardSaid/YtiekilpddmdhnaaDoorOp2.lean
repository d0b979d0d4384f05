/- The readings of slices of numbers, of raw things, tapes, sessions, worlds. No condition. -/
import Derived.Test.YtiekilpddmdhnaaDoorOpen
namespace Go.Proofs.YtiekilpddmdhnaaDoor
open Go Go.RowKit Go.ChangeShapes Go.WideShapes Go.Deep
set_option linter.unusedVariables false

section
variable {H : Type} {enc : TypeId × Value → H} {w : World} {held : Bool}

theorem open_byteV {P : Program} {e : TypeId} (he : P.underlying e = some (.int .u8)) {n : Nat} {v : Value} {d : DataW H} {p : List MemPlace} (h : DataW.trod enc P w 0 (fun _ => true) held n e [v] = some (d, p)) : ∃ z, ByteV v z := by
  obtain ⟨a, e0, _, wa⟩ := DataW.trod_int he h
  simp only [List.cons.injEq, and_true] at e0
  simp [Lit.wf, IntKind.min, IntKind.max, IntKind.signed, IntKind.bits] at wa
  refine ⟨UInt8.ofNat a.toNat, ?_⟩
  unfold ByteV
  rw [e0]
  congr 1
  simp [UInt8.toNat_ofNat']
  omega

set_option maxRecDepth 100000 in
theorem open_intsA {r : Reach} {b0 : Nat} {v : Value} {d : DataW H} {p : List MemPlace} (ok : Value.okWide Tryd.prog w r b0 29 v) (h : DataW.Trod enc Tryd.prog w 0 (fun _ => true) held 29 v d p) (hf : Fits Tryd.prog 29 d) : ∃ zs, Ints w.heap.size w v zs := by
  obtain ⟨a, len, cap, rfl⟩ := okWide_slice Tryd.underlying29 ok
  obtain ⟨n, hn⟩ := h
  exact open_intsR hn hf

theorem Tryd.cells5 : Tryd.prog.cellsOf 5 = 1 := by kernel_rfl
theorem Tryd.bytes5 : Tryd.prog.bytesOf 5 = 1 := by kernel_rfl
theorem open_bytesR {n : Nat} {v : Value} {d : DataW H} {p : List MemPlace} (h : DataW.trod enc Tryd.prog w 0 (fun _ => true) held n 22 [v] = some (d, p)) (hf : Fits Tryd.prog 22 d) : ∃ zs, BytesR w.heap.size w v zs :=
  open_sl1 140737488351232 1 Tryd.underlying22 Tryd.cells5 Tryd.bytes5 reach1 ByteV (fun _ _ _ _ h _ => open_byteV Tryd.underlying5 h) h hf
/-- A tape: its image, its events as bytes, its count. -/
def TapeR (B : Nat) (w : World) (v : Value) (img : List Int) (evs : List UInt8) (cnt : Int) : Prop := ∃ vi ve, v = .agg #[vi, ve, .int .i64 cnt] ∧ Ints B w vi img ∧ BytesR B w ve evs ∧ I64 cnt
set_option maxRecDepth 100000 in
theorem open_tapeR {r : Reach} {b0 : Nat} {v : Value} {d : DataW H} {p : List MemPlace} (ok : Value.okWide Tryd.prog w r b0 31 v) (h : DataW.Trod enc Tryd.prog w 0 (fun _ => true) held 31 v d p) (hf : Fits Tryd.prog 31 d) : ∃ img evs cnt, TapeR w.heap.size w v img evs cnt := by
  obtain ⟨cs, rfl, hl, k, hk⟩ := open_agg Tryd.underlying31 (by kernel_rfl) ok h hf
  obtain ⟨c0, c1, c2, rfl⟩ := len3 (hl.trans (by kernel_rfl))
  obtain ⟨d0, p0, h0, f0⟩ := hk 0 _ rfl
  obtain ⟨d1, p1, h1, f1⟩ := hk 1 _ rfl
  obtain ⟨d2, p2, h2, f2⟩ := hk 2 _ rfl
  obtain ⟨img, hi⟩ := open_intsR h0 f0
  obtain ⟨evs, he⟩ := open_bytesR h1 f1
  obtain ⟨z2, rfl, g2⟩ := open_intV Tryd.underlying3 h2
  exact ⟨img, evs, z2, c0, c1, rfl, hi, he, g2⟩
/-- A world: interrupts, values, blocks, delays. -/
def WorldR (B : Nat) (w : World) (v : Value) (is vs : List Int) (bs : List (List Int)) (ds : List Int) : Prop := ∃ v0 v1 v2 v3, v = .agg #[v0, v1, v2, v3] ∧ Ints B w v0 is ∧ Ints B w v1 vs ∧ RowsR B w v2 bs ∧ Ints B w v3 ds
set_option maxRecDepth 100000 in
theorem open_worldR {r : Reach} {b0 : Nat} {v : Value} {d : DataW H} {p : List MemPlace} (ok : Value.okWide Tryd.prog w r b0 36 v) (h : DataW.Trod enc Tryd.prog w 0 (fun _ => true) held 36 v d p) (hf : Fits Tryd.prog 36 d) : ∃ is vs bs ds, WorldR w.heap.size w v is vs bs ds := by
  obtain ⟨cs, rfl, hl, k, hk⟩ := open_agg Tryd.underlying36 (by kernel_rfl) ok h hf
  obtain ⟨c0, c1, c2, c3, rfl⟩ := len4 (hl.trans (by kernel_rfl))
  obtain ⟨d0, p0, h0, f0⟩ := hk 0 _ rfl
  obtain ⟨d1, p1, h1, f1⟩ := hk 1 _ rfl
  obtain ⟨d2, p2, h2, f2⟩ := hk 2 _ rfl
  obtain ⟨d3, p3, h3, f3⟩ := hk 3 _ rfl
  obtain ⟨is, hi⟩ := open_intsR h0 f0
  obtain ⟨vs, hv⟩ := open_intsR h1 f1
  obtain ⟨bs, hb⟩ := open_rowsR h2 f2
  obtain ⟨ds, hd⟩ := open_intsR h3 f3
  exact ⟨is, vs, bs, ds, c0, c1, c2, c3, rfl, hi, hv, hb, hd⟩
end
end Go.Proofs.YtiekilpddmdhnaaDoor
