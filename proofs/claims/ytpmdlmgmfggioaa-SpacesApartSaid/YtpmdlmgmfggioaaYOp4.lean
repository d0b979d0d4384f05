/- The reading of slices of arrays of numbers: [][2]int, [][3]int. No condition. -/
import Derived.Test.YtpmdlmgmfggioaaYMem
namespace Go.Proofs.Ytpmdlmgmfggioaa
open Go Go.RowKit Go.ChangeShapes Go.WideShapes Go.Deep
set_option linter.unusedVariables false

section
variable {H : Type} {enc : TypeId × Value → H} {w : World} {held : Bool} {P : Program}
end
/-- Two numbers; three. -/
def P2C (cs : List Value) (x : Int × Int) : Prop := cs = [.int .i64 x.1, .int .i64 x.2] ∧ I64 x.1 ∧ I64 x.2
def P3C (cs : List Value) (x : Int × Int × Int) : Prop := cs = [.int .i64 x.1, .int .i64 x.2.1, .int .i64 x.2.2] ∧ I64 x.1 ∧ I64 x.2.1 ∧ I64 x.2.2
def P2R (B : Nat) (w : World) (v : Value) (xs : List (Int × Int)) : Prop := SlN 2 8796093021952 B w P2C v xs
def P3R (B : Nat) (w : World) (v : Value) (xs : List (Int × Int × Int)) : Prop := SlN 3 5864062014634 B w P3C v xs
theorem P2R.to {B B' : Nat} {w w' : World} {v : Value} {xs : List (Int × Int)} (hB : B ≤ B') (hw : Same B w w') (h : P2R B w v xs) : P2R B' w' v xs := SlN.to (Nat.le_refl _) hB hw (fun _ _ h => h) h
theorem P3R.to {B B' : Nat} {w w' : World} {v : Value} {xs : List (Int × Int × Int)} (hB : B ≤ B') (hw : Same B w w') (h : P3R B w v xs) : P3R B' w' v xs := SlN.to (Nat.le_refl _) hB hw (fun _ _ h => h) h
section
variable {H : Type} {enc : TypeId × Value → H} {w : World} {held : Bool}
end
end Go.Proofs.Ytpmdlmgmfggioaa
