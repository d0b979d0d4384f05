/- A recording of the keep's things is always made: few events, small words. No condition. -/
import Derived.Test.YtflonfcemlfbdaaDoorYSm
import Derived.Test.YtflonfcemlfbdaaDoorYWa
import Derived.Test.YtflonfcemlfbdaaDoorYDe
import Derived.Test.YtflonfcemlfbdaaDoorYPr
namespace Go.Proofs.YtflonfcemlfbdaaDoor
open Go Go.RowKit Go.ChangeShapes Go.WideShapes Go.Deep
set_option linter.unusedVariables false
structure KRec(img is vs:List Int)(bs:List (List Int))(ds:List Int)(n:Int)(l:List UInt8)(N:Nat)(m:Mach):Prop where
 tape:RecT is vs bs ds (zbI img) N
 le:(N:Int)≤n
 end_:(N:Int)=n∨(recI is vs bs ds (zbI img) N).m.fin≠0
 mach:m=(recI is vs bs ds (zbI img) N).m
 enc:l=encE (recI is vs bs ds (zbI img) N).all
 res:EvRes (recI is vs bs ds (zbI img) N).all 0
 dec:DecR l 0 (recI is vs bs ds (zbI img) N).all
 l60:l.length≤60000
end Go.Proofs.YtflonfcemlfbdaaDoor
