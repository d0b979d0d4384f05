/- The contract of the document's SteppedOf. No condition beyond the readings. -/
import Derived.Test.YtbenfbfbohecmaaSfa
import Derived.Test.YtbenfbfbohecmaaSfb
import Derived.Test.YtbenfbfbohecmaaSfc
namespace Go.Proofs.Ytbenfbfbohecmaa
open Go Go.RowKit Go.ChangeShapes Go.WideShapes Go.Deep
set_option linter.unusedVariables false
attribute [local go_sem ↓] Go.wp_at_zero Go.wp_at_succ


theorem sof_any (v vb : Value) (m : Mach) (irq : Bool) (b : List Int) (value : Int) (w : World) (hm : MachR w.heap.size w v m) (hb : Ints w.heap.size w vb b) (hv : I64 value) : Calls Try.prog 6 #[v, .bool irq, vb, .int .i64 value] w (StepPost m irq b value w) := by
  obtain ⟨ar, cr, am, cm, ao, co, rfl, h1, h2, h3⟩ := hm
  obtain ⟨ba, bc, rfl, hx⟩ := id hb
  by_cases hok : MOk m
  · by_cases hl : b.length = 0 ∨ b.length = 16
    · by_cases hg : oddB value = true ∨ b.any oddB = true ∨ m.count = 1099511627776
      · exact sof_odd m ar am ao cr cm co irq ba b bc value w h1 h2 h3 hb hv hok hl hg
      · exact sof_ok m ar am ao cr cm co irq ba b bc value w h1 h2 h3 hb hv hok hl hg
    · exact sof_len m ar am ao cr cm co irq ba b bc value w h1 h2 h3 hb hv hok hl
  · exact sof_bad m ar am ao cr cm co irq ba b bc value w h1 h2 h3 hb hv hok
end Go.Proofs.Ytbenfbfbohecmaa
