/- The readings of this program's argument types, as plain Lean data. No condition. -/
import Derived.Test.YtnhccnjdpdhhaaaDoorChecked
import Derived.Test.YtnhccnjdpdhhaaaDoorMem
import Derived.KernelRfl
namespace Go.Proofs.YtnhccnjdpdhhaaaDoor
open Go Go.RowKit Go.ChangeShapes Go.WideShapes Go.Deep
set_option linter.unusedVariables false

theorem Tryd.cells3 : Tryd.prog.cellsOf 3 = 1 := by kernel_rfl
theorem Tryd.bytes3 : Tryd.prog.bytesOf 3 = 8 := by kernel_rfl
theorem Tryd.cells32 : Tryd.prog.cellsOf 32 = 1 := by kernel_rfl
theorem Tryd.bytes32 : Tryd.prog.bytesOf 32 = 24 := by kernel_rfl

section
variable {H : Type} {enc : TypeId × Value → H} {w : World} {held : Bool}

theorem reach8 (n : Nat) (h : n * 8 ≤ reachBytes) : n ≤ 17592186043904 := by unfold reachBytes at h; omega
theorem reach24 (n : Nat) (h : n * 24 ≤ reachBytes) : n ≤ 5864062014634 := by unfold reachBytes at h; omega
theorem reach1 (n : Nat) (h : n * 1 ≤ reachBytes) : n ≤ 140737488351232 := by unfold reachBytes at h; omega

theorem open_intsR {n : Nat} {v : Value} {d : DataW H} {p : List MemPlace} (h : DataW.trod enc Tryd.prog w 0 (fun _ => true) held n 32 [v] = some (d, p)) (hf : Fits Tryd.prog 32 d) : ∃ zs, Ints w.heap.size w v zs :=
  open_sl1 17592186043904 8 Tryd.underlying32 Tryd.cells3 Tryd.bytes3 reach8 IntV (fun _ _ _ _ h _ => open_intV Tryd.underlying3 h) h hf

end
end Go.Proofs.YtnhccnjdpdhhaaaDoor
