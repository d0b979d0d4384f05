/- The contract of the reference's WroteOf where it writes. No condition. -/
import Derived.Test.YtneeimfffoomgaaWo
import Derived.IntWalk
namespace Go.Proofs.Ytneeimfffoomgaa
open Go Go.RowKit Go.ChangeShapes Go.WideShapes Go.Deep
set_option linter.unusedVariables false
attribute [local go_sem ↓] Go.wp_at_zero Go.wp_at_succ

end Go.Proofs.Ytneeimfffoomgaa
