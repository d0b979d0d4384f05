/- Take and TakenOf answer alike. No condition. -/
import Derived.Test.YtneeimfffoomgaaTo
namespace Go.Proofs.Ytneeimfffoomgaa
open Go Go.RowKit Go.ChangeShapes Go.WideShapes Go.Deep
set_option linter.unusedVariables false

end Go.Proofs.Ytneeimfffoomgaa
