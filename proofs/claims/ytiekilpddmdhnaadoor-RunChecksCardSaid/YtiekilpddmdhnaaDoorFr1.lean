/- Contracts of frames.New and of the reference's FramesNew. No condition. -/
import Derived.Test.YtiekilpddmdhnaaDoorBase
namespace Go.Proofs.YtiekilpddmdhnaaDoor
open Go Go.RowKit Go.ChangeShapes Go.WideShapes Go.Deep
set_option linter.unusedVariables false

theorem i64_small {z : Int} (h : -1000000000000 ≤ z ∧ z ≤ 1000000000000) : I64 z := by unfold I64; omega

theorem rowsNil_of_owns {w : World} {base : Nat} {v : Value} {k : Nat} {e : TypeId} (h : w.ownsRow base e 1 v k (List.replicate k (.slice none 0 0))) (hk : k ≤ 1000000) : RowsR w.heap.size w v (List.replicate k []) :=
  sl1_of_owns (xs := List.replicate k []) (by rw [List.length_replicate]; exact h) (by rw [List.length_replicate]; omega) (fun i hi hv => by rw [List.getElem_replicate, List.getElem_replicate]; exact Ints.nil _ _)
theorem zeros_of_owns {w : World} {base : Nat} {v : Value} {k : Nat} {e : TypeId} (h : w.ownsRow base e 1 v k (List.replicate k (.int .i64 0))) (hk : k ≤ 1000000) : Ints w.heap.size w v (List.replicate k 0) :=
  sl1_of_owns (xs := List.replicate k 0) (by rw [List.length_replicate]; exact h) (by rw [List.length_replicate]; omega) (fun i hi hv => by rw [List.getElem_replicate, List.getElem_replicate]; exact ⟨rfl, i64_small (by omega)⟩)

theorem heap_new (w : World) (o : Obj) : (w.alloc o).heap[w.heap.size]? = some o := heap_alloc_new w o

end Go.Proofs.YtiekilpddmdhnaaDoor
