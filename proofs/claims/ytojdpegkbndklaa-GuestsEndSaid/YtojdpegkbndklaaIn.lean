/- The contract of instr: an instruction that may be. No condition. -/
import Derived.Test.YtojdpegkbndklaaInB
import Derived.Test.YtojdpegkbndklaaInC
import Derived.Test.YtojdpegkbndklaaInD
import Derived.Test.YtojdpegkbndklaaInE
import Derived.Test.YtojdpegkbndklaaInF
import Derived.Test.YtojdpegkbndklaaInG
import Derived.Test.YtojdpegkbndklaaInH
namespace Go.Proofs.Ytojdpegkbndklaa
open Go Go.RowKit Go.ChangeShapes Go.WideShapes Go.Deep
set_option linter.unusedVariables false

theorem instr_any (v : Value) (k a b c : Int) (w : World) (hv : RawR v k a b c) : Calls Try.prog 37 #[v] w (InPost w) := by
  have r := pick_rng k 24 (by omega)
  by_cases h1 : pickZ k 24 < 3
  · exact instr_0 v k a b c w hv (by omega)
  by_cases h2 : pickZ k 24 < 5
  · have q := pick_rng (c.tdiv 8) 2 (by omega)
    rcases (show pickZ (c.tdiv 8) 2 = 0 ∨ pickZ (c.tdiv 8) 2 = 1 by omega) with e | e
    · exact instr_3_0 v k a b c w hv (by omega) e
    · exact instr_3_1 v k a b c w hv (by omega) e
  by_cases h3 : pickZ k 24 < 8
  · exact instr_5 v k a b c w hv (by omega)
  by_cases h4 : pickZ k 24 < 11
  · exact instr_8 v k a b c w hv (by omega)
  by_cases h5 : pickZ k 24 < 13
  · exact instr_11 v k a b c w hv (by omega)
  by_cases h6 : pickZ k 24 < 14
  · exact instr_13 v k a b c w hv (by omega)
  by_cases h7 : pickZ k 24 < 15
  · exact instr_14 v k a b c w hv (by omega)
  by_cases h8 : pickZ k 24 < 16
  · exact instr_15 v k a b c w hv (by omega)
  by_cases h9 : pickZ k 24 < 18
  · exact instr_16 v k a b c w hv (by omega)
  by_cases h10 : pickZ k 24 < 19
  · exact instr_18 v k a b c w hv (by omega)
  by_cases h11 : pickZ k 24 < 20
  · have q := pick_rng c 2 (by omega)
    rcases (show pickZ c 2 = 0 ∨ pickZ c 2 = 1 by omega) with e | e
    · exact instr_19_0 v k a b c w hv (by omega) e
    · exact instr_19_1 v k a b c w hv (by omega) e
  by_cases h12 : pickZ k 24 < 21
  · exact instr_20 v k a b c w hv (by omega)
  by_cases h13 : pickZ k 24 < 22
  · exact instr_21 v k a b c w hv (by omega)
  by_cases h14 : pickZ k 24 < 23
  · exact instr_22 v k a b c w hv (by omega)
  have q := pick_rng c 5 (by omega)
  rcases (show pickZ c 5 = 0 ∨ pickZ c 5 = 1 ∨ pickZ c 5 = 2 ∨ pickZ c 5 = 3 ∨ pickZ c 5 = 4 by omega) with e | e | e | e | e
  · exact instr_23_0 v k a b c w hv (by omega) e
  · exact instr_23_1 v k a b c w hv (by omega) e
  · exact instr_23_2 v k a b c w hv (by omega) e
  · exact instr_23_3 v k a b c w hv (by omega) e
  · exact instr_23_4 v k a b c w hv (by omega) e
end Go.Proofs.Ytojdpegkbndklaa
