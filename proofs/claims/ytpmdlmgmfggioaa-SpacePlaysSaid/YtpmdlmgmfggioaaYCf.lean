/- Contracts of slices.IndexFunc and slices.ContainsFunc at numbers, for whatever predicate that writes nothing. No condition beyond the readings. -/
import Derived.Test.YtpmdlmgmfggioaaYMem
import Derived.Lib.Walk
import Derived.Shelf.Abstract
import Derived.Deep.LoopGhost
import Derived.Deep.Draws
namespace Go.Proofs.Ytpmdlmgmfggioaa
open Go Go.RowKit Go.ChangeShapes Go.WideShapes Go.Deep
set_option linter.unusedVariables false

/-- A number that is no word. -/
def oddB (z : Int) : Bool := !(decide (-1099511627776 ≤ z) && decide (z ≤ 1099511627776))
theorem odd_false {z : Int} (h : -1099511627776 ≤ z ∧ z ≤ 1099511627776) : oddB z = false := by simp [oddB, h]

end Go.Proofs.Ytpmdlmgmfggioaa
