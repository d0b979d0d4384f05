/- The readings of slices of numbers, of raw things, tapes, sessions, worlds. No condition. -/
import Derived.Test.YtbenfbfbohecmaaOpen
namespace Go.Proofs.Ytbenfbfbohecmaa
open Go Go.RowKit Go.ChangeShapes Go.WideShapes Go.Deep
set_option linter.unusedVariables false

section
variable {H : Type} {enc : TypeId × Value → H} {w : World} {held : Bool}

theorem open_byteV {P : Program} {e : TypeId} (he : P.underlying e = some (.int .u8)) {n : Nat} {v : Value} {d : DataW H} {p : List MemPlace} (h : DataW.trod enc P w 0 (fun _ => true) held n e [v] = some (d, p)) : ∃ z, ByteV v z := by
  obtain ⟨a, e0, _, wa⟩ := DataW.trod_int he h
  simp only [List.cons.injEq, and_true] at e0
  simp [Lit.wf, IntKind.min, IntKind.max, IntKind.signed, IntKind.bits] at wa
  refine ⟨UInt8.ofNat a.toNat, ?_⟩
  unfold ByteV
  rw [e0]
  congr 1
  simp [UInt8.toNat_ofNat']
  omega

set_option maxRecDepth 100000 in
theorem open_intsA {r : Reach} {b0 : Nat} {v : Value} {d : DataW H} {p : List MemPlace} (ok : Value.okWide Try.prog w r b0 22 v) (h : DataW.Trod enc Try.prog w 0 (fun _ => true) held 22 v d p) (hf : Fits Try.prog 22 d) : ∃ zs, Ints w.heap.size w v zs := by
  obtain ⟨a, len, cap, rfl⟩ := okWide_slice Try.underlying22 ok
  obtain ⟨n, hn⟩ := h
  exact open_intsR hn hf

end
end Go.Proofs.Ytbenfbfbohecmaa
