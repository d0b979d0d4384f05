/- Write and WroteOf answer alike. No condition. -/
import Derived.Test.YtneeimfffoomgaaWq
namespace Go.Proofs.Ytneeimfffoomgaa
open Go Go.RowKit Go.ChangeShapes Go.WideShapes Go.Deep
set_option linter.unusedVariables false

end Go.Proofs.Ytneeimfffoomgaa
