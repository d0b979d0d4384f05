/- The readings of this program's argument types, as plain Lean data. No condition. -/
import Derived.Test.YtiekilpddmdhnaaDoorChecked
import Derived.Test.YtiekilpddmdhnaaDoorMem
import Derived.KernelRfl
namespace Go.Proofs.YtiekilpddmdhnaaDoor
open Go Go.RowKit Go.ChangeShapes Go.WideShapes Go.Deep
set_option linter.unusedVariables false

theorem Tryd.cells3 : Tryd.prog.cellsOf 3 = 1 := by kernel_rfl
theorem Tryd.bytes3 : Tryd.prog.bytesOf 3 = 8 := by kernel_rfl
theorem Tryd.cells29 : Tryd.prog.cellsOf 29 = 1 := by kernel_rfl
theorem Tryd.bytes29 : Tryd.prog.bytesOf 29 = 24 := by kernel_rfl

section
variable {H : Type} {enc : TypeId × Value → H} {w : World} {held : Bool}

theorem reach8 (n : Nat) (h : n * 8 ≤ reachBytes) : n ≤ 17592186043904 := by unfold reachBytes at h; omega
theorem reach24 (n : Nat) (h : n * 24 ≤ reachBytes) : n ≤ 5864062014634 := by unfold reachBytes at h; omega
theorem reach1 (n : Nat) (h : n * 1 ≤ reachBytes) : n ≤ 140737488351232 := by unfold reachBytes at h; omega

theorem open_intsR {n : Nat} {v : Value} {d : DataW H} {p : List MemPlace} (h : DataW.trod enc Tryd.prog w 0 (fun _ => true) held n 29 [v] = some (d, p)) (hf : Fits Tryd.prog 29 d) : ∃ zs, Ints w.heap.size w v zs :=
  open_sl1 17592186043904 8 Tryd.underlying29 Tryd.cells3 Tryd.bytes3 reach8 IntV (fun _ _ _ _ h _ => open_intV Tryd.underlying3 h) h hf

theorem open_rowsR {n : Nat} {v : Value} {d : DataW H} {p : List MemPlace} (h : DataW.trod enc Tryd.prog w 0 (fun _ => true) held n 34 [v] = some (d, p)) (hf : Fits Tryd.prog 34 d) : ∃ zs, RowsR w.heap.size w v zs :=
  open_sl1 5864062014634 24 Tryd.underlying34 Tryd.cells29 Tryd.bytes29 reach24 (Ints w.heap.size w) (fun _ _ _ _ h hf => open_intsR h hf) h hf

def InstrR (v : Value) (a b c d : Int) : Prop := v = .agg #[.int .i64 a, .int .i64 b, .int .i64 c, .int .i64 d] ∧ I64 a ∧ I64 b ∧ I64 c ∧ I64 d
set_option maxRecDepth 100000 in
theorem open_instrR {r : Reach} {b0 : Nat} {v : Value} {d : DataW H} {p : List MemPlace} (ok : Value.okWide Tryd.prog w r b0 76 v) (h : DataW.Trod enc Tryd.prog w 0 (fun _ => true) held 76 v d p) (hf : Fits Tryd.prog 76 d) : ∃ a b c d, InstrR v a b c d := by
  obtain ⟨cs, rfl, hl, k, hk⟩ := open_agg Tryd.underlying76 (by kernel_rfl) ok h hf
  obtain ⟨c0, c1, c2, c3, rfl⟩ := len4 (hl.trans (by kernel_rfl))
  obtain ⟨d0, p0, h0, f0⟩ := hk 0 _ rfl
  obtain ⟨d1, p1, h1, f1⟩ := hk 1 _ rfl
  obtain ⟨d2, p2, h2, f2⟩ := hk 2 _ rfl
  obtain ⟨d3, p3, h3, f3⟩ := hk 3 _ rfl
  obtain ⟨z0, rfl, g0⟩ := open_intV Tryd.underlying3 h0
  obtain ⟨z1, rfl, g1⟩ := open_intV Tryd.underlying3 h1
  obtain ⟨z2, rfl, g2⟩ := open_intV Tryd.underlying3 h2
  obtain ⟨z3, rfl, g3⟩ := open_intV Tryd.underlying3 h3
  exact ⟨z0, z1, z2, z3, rfl, g0, g1, g2, g3⟩
end
end Go.Proofs.YtiekilpddmdhnaaDoor
