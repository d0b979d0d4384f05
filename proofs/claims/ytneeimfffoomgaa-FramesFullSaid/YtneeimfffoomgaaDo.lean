/- The contract of the reference's DroppedOf. No condition. -/
import Derived.Test.YtneeimfffoomgaaDr
namespace Go.Proofs.Ytneeimfffoomgaa
open Go Go.RowKit Go.ChangeShapes Go.WideShapes Go.Deep
set_option linter.unusedVariables false

end Go.Proofs.Ytneeimfffoomgaa
