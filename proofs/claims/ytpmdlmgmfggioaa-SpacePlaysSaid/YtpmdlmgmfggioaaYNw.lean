/- The contract of cpu.New. No condition beyond the reading. -/
import Derived.Test.YtpmdlmgmfggioaaYCm
import Derived.Laws.CopyOwn
namespace Go.Proofs.Ytpmdlmgmfggioaa
open Go Go.RowKit Go.ChangeShapes Go.WideShapes Go.Deep
set_option linter.unusedVariables false

theorem zeroInts_eq (n : Nat) : zeroInts n = ((List.replicate n (0 : Int)).map (Value.int .i64)).toArray := by
  rw [List.map_replicate, ← zeroInts_list, Array.toArray_toList]
theorem own_block {w : World} {g base n : Nat} {zs : List Int} (h : w.heap[g]? = some (.cells (zs.map (Value.int .i64)).toArray 3 (0, 0))) (hb : base ≤ g) (hn : zs.length = n) (hm : n ≤ 1000000) : w.ownsRow base 3 1 (.slice (some ⟨g, 0, none⟩) n n) n (zs.map (Value.int .i64)) :=
  ⟨by simp [hn], .inr ⟨g, n, _, rfl, hb, h, Nat.le_refl _, by unfold maxLen; omega, by simp [hn], by rw [← hn]; simp [List.take_of_length_le]⟩⟩

end Go.Proofs.Ytpmdlmgmfggioaa
