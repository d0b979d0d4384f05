/- The readings of slices of numbers, of raw things, tapes, sessions, worlds. No condition. -/
import Derived.Test.YtojdpegkbndklaaOpen
namespace Go.Proofs.Ytojdpegkbndklaa
open Go Go.RowKit Go.ChangeShapes Go.WideShapes Go.Deep
set_option linter.unusedVariables false

section
variable {H : Type} {enc : TypeId × Value → H} {w : World} {held : Bool}

theorem open_byteV {P : Program} {e : TypeId} (he : P.underlying e = some (.int .u8)) {n : Nat} {v : Value} {d : DataW H} {p : List MemPlace} (h : DataW.trod enc P w 0 (fun _ => true) held n e [v] = some (d, p)) : ∃ z, ByteV v z := by
  obtain ⟨a, e0, _, wa⟩ := DataW.trod_int he h
  simp only [List.cons.injEq, and_true] at e0
  simp [Lit.wf, IntKind.min, IntKind.max, IntKind.signed, IntKind.bits] at wa
  refine ⟨UInt8.ofNat a.toNat, ?_⟩
  unfold ByteV
  rw [e0]
  congr 1
  simp [UInt8.toNat_ofNat']
  omega

set_option maxRecDepth 100000 in
theorem open_intsA {r : Reach} {b0 : Nat} {v : Value} {d : DataW H} {p : List MemPlace} (ok : Value.okWide Try.prog w r b0 22 v) (h : DataW.Trod enc Try.prog w 0 (fun _ => true) held 22 v d p) (hf : Fits Try.prog 22 d) : ∃ zs, Ints w.heap.size w v zs := by
  obtain ⟨a, len, cap, rfl⟩ := okWide_slice Try.underlying22 ok
  obtain ⟨n, hn⟩ := h
  exact open_intsR hn hf

def RawR (v : Value) (a b c d : Int) : Prop := v = .agg #[.int .i64 a, .int .i64 b, .int .i64 c, .int .i64 d] ∧ I64 a ∧ I64 b ∧ I64 c ∧ I64 d
set_option maxRecDepth 100000 in
theorem open_rawR {r : Reach} {b0 : Nat} {v : Value} {d : DataW H} {p : List MemPlace} (ok : Value.okWide Try.prog w r b0 64 v) (h : DataW.Trod enc Try.prog w 0 (fun _ => true) held 64 v d p) (hf : Fits Try.prog 64 d) : ∃ a b c d, RawR v a b c d := by
  obtain ⟨cs, rfl, hl, k, hk⟩ := open_agg Try.underlying64 (by kernel_rfl) ok h hf
  obtain ⟨c0, c1, c2, c3, rfl⟩ := len4 (hl.trans (by kernel_rfl))
  obtain ⟨d0, p0, h0, f0⟩ := hk 0 _ rfl
  obtain ⟨d1, p1, h1, f1⟩ := hk 1 _ rfl
  obtain ⟨d2, p2, h2, f2⟩ := hk 2 _ rfl
  obtain ⟨d3, p3, h3, f3⟩ := hk 3 _ rfl
  obtain ⟨z0, rfl, g0⟩ := open_intV Try.underlying3 h0
  obtain ⟨z1, rfl, g1⟩ := open_intV Try.underlying3 h1
  obtain ⟨z2, rfl, g2⟩ := open_intV Try.underlying3 h2
  obtain ⟨z3, rfl, g3⟩ := open_intV Try.underlying3 h3
  exact ⟨z0, z1, z2, z3, rfl, g0, g1, g2, g3⟩
end
end Go.Proofs.Ytojdpegkbndklaa
