/- The contract of a core's do, what it leaves. No condition beyond the readings. -/
import Derived.Test.YtbenfbfbohecmaaCo
import Derived.Deep.RegionWith
import Derived.Deep.RegionLaw
import Derived.Deep.CutBlock
import Derived.Deep.RegionHeld3
namespace Go.Proofs.Ytbenfbfbohecmaa
open Go Go.RowKit Go.ChangeShapes Go.WideShapes Go.Deep
set_option linter.unusedVariables false
attribute [local go_sem ↓] Go.wp_at_zero Go.wp_at_succ

theorem cell_new_set (w : World) (g a : Nat) (u : Value) (cs : Array Value) (t : TypeId) (i : Nat) : (((w.setCell ⟨g, a, none⟩ u).alloc (.cells cs t)).drew).cell? ⟨w.heap.size, i, none⟩ = cs[i]? :=
  cell_block (w := (w.setCell ⟨g, a, none⟩ u).alloc (.cells cs t)) (alloc_at (by simp [World.setCell])) i
/-- What do leaves. -/
def DoPost (St : World → (Nat → Prop) → List Int → Bool → Prop) (w0 : World) (D : Nat → Prop) (cb gr cr : Nat) (vm : Value) (m : Mach) (x : Bool) (r : Mach × Int × Int) (e : Ending) (w' : World) : Prop :=
  ∃ en m' wr' x', e = .returned (.int .i64 en) ∧ GS St w0 D cb gr cr vm m' wr' x' w' ∧ MOk m' ∧ 0 ≤ en ∧ en ≤ 4 ∧ m'.count = m.count ∧ ((x' = x ∧ m' = r.1 ∧ en = r.2.1 ∧ wr' = r.2.2) ∨ x' = true)
theorem DoPost.ok {St : World → (Nat → Prop) → List Int → Bool → Prop} {w0 : World} {D : Nat → Prop} {cb gr cr : Nat} {vm : Value} {m : Mach} {x : Bool} {r : Mach × Int × Int} {w' : World} {en : Int} (hr : DoOk m r) (he : en = r.2.1) (h : GS St w0 D cb gr cr vm r.1 r.2.2 x w') : DoPost St w0 D cb gr cr vm m x r (.returned (.int .i64 en)) w' := by
  subst he
  exact ⟨_, _, _, _, rfl, h, hr.1, hr.2.1, hr.2.2.1, hr.2.2.2, Or.inl ⟨rfl, rfl, rfl, rfl⟩⟩

end Go.Proofs.Ytbenfbfbohecmaa
