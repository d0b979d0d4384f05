/- The contract of sameFrames at frames that read alike. No condition. -/
import Derived.Test.YtneeimfffoomgaaFr1
namespace Go.Proofs.Ytneeimfffoomgaa
open Go Go.RowKit Go.ChangeShapes Go.WideShapes Go.Deep
set_option linter.unusedVariables false

theorem FramesR.to {B B' : Nat} {w w' : World} {v : Value} {rs : List (List Int)} {zs : List Int} (hB : B ≤ B') (hw : Same B w w') (h : FramesR B w v rs zs) : FramesR B' w' v rs zs := by
  obtain ⟨vd, vr, hv, h1, h2⟩ := h
  exact ⟨vd, vr, hv, h1.to hB hw, h2.to hB hw⟩

theorem FramesR.shape {B : Nat} {w : World} {v : Value} {rs : List (List Int)} {zs : List Int} (h : FramesR B w v rs zs) : ∃ a c a' c', v = .agg #[.slice a rs.length c, .slice a' zs.length c'] := by
  obtain ⟨vd, vr, rfl, ⟨a, c, rfl, _⟩, ⟨a', c', rfl, _⟩⟩ := h
  exact ⟨a, c, a', c', rfl⟩

theorem same_drewN (B : Nat) (w : World) (n : Nat) : Same B w (w.drewN n) := fun _ _ _ => rfl

end Go.Proofs.Ytneeimfffoomgaa
