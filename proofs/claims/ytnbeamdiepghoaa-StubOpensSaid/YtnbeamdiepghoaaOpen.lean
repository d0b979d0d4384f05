/- The readings of this program's argument types, as plain Lean data. No condition. -/
import Derived.Test.YtnbeamdiepghoaaChecked
import Derived.Test.YtnbeamdiepghoaaMem
import Derived.KernelRfl
namespace Go.Proofs.Ytnbeamdiepghoaa
open Go Go.RowKit Go.ChangeShapes Go.WideShapes Go.Deep
set_option linter.unusedVariables false

theorem Try.cells3 : Try.prog.cellsOf 3 = 1 := by kernel_rfl
theorem Try.bytes3 : Try.prog.bytesOf 3 = 8 := by kernel_rfl
theorem Try.cells32 : Try.prog.cellsOf 32 = 1 := by kernel_rfl
theorem Try.bytes32 : Try.prog.bytesOf 32 = 24 := by kernel_rfl

section
variable {H : Type} {enc : TypeId × Value → H} {w : World} {held : Bool}

theorem reach8 (n : Nat) (h : n * 8 ≤ reachBytes) : n ≤ 17592186043904 := by unfold reachBytes at h; omega
theorem reach24 (n : Nat) (h : n * 24 ≤ reachBytes) : n ≤ 5864062014634 := by unfold reachBytes at h; omega
theorem reach1 (n : Nat) (h : n * 1 ≤ reachBytes) : n ≤ 140737488351232 := by unfold reachBytes at h; omega

theorem open_intsR {n : Nat} {v : Value} {d : DataW H} {p : List MemPlace} (h : DataW.trod enc Try.prog w 0 (fun _ => true) held n 32 [v] = some (d, p)) (hf : Fits Try.prog 32 d) : ∃ zs, Ints w.heap.size w v zs :=
  open_sl1 17592186043904 8 Try.underlying32 Try.cells3 Try.bytes3 reach8 IntV (fun _ _ _ _ h _ => open_intV Try.underlying3 h) h hf

theorem open_rowsR {n : Nat} {v : Value} {d : DataW H} {p : List MemPlace} (h : DataW.trod enc Try.prog w 0 (fun _ => true) held n 46 [v] = some (d, p)) (hf : Fits Try.prog 46 d) : ∃ zs, RowsR w.heap.size w v zs :=
  open_sl1 5864062014634 24 Try.underlying46 Try.cells32 Try.bytes32 reach24 (Ints w.heap.size w) (fun _ _ _ _ h hf => open_intsR h hf) h hf

/-- Frames: their words, and how many know each one. -/
def FramesR (B : Nat) (w : World) (v : Value) (rs : List (List Int)) (zs : List Int) : Prop := ∃ vd vr, v = .agg #[vd, vr] ∧ RowsR B w vd rs ∧ Ints B w vr zs

set_option maxRecDepth 100000 in
theorem open_framesR {r : Reach} {b0 : Nat} {v : Value} {d : DataW H} {p : List MemPlace} (ok : Value.okWide Try.prog w r b0 48 v) (h : DataW.Trod enc Try.prog w 0 (fun _ => true) held 48 v d p) (hf : Fits Try.prog 48 d) : ∃ rs zs, FramesR w.heap.size w v rs zs := by
  obtain ⟨cs, rfl, hl, k, hk⟩ := open_agg Try.underlying48 (by kernel_rfl) ok h hf
  obtain ⟨c0, c1, rfl⟩ := len2 (hl.trans (by kernel_rfl))
  obtain ⟨d0, p0, h0, f0⟩ := hk 0 _ rfl
  obtain ⟨d1, p1, h1, f1⟩ := hk 1 _ rfl
  obtain ⟨rs, hrs⟩ := open_rowsR h0 f0
  obtain ⟨zs, hzs⟩ := open_intsR h1 f1
  exact ⟨rs, zs, c0, c1, rfl, hrs, hzs⟩
end
end Go.Proofs.Ytnbeamdiepghoaa
