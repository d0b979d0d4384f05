/- Drop and DroppedOf answer alike. No condition. -/
import Derived.Test.YtneeimfffoomgaaDp
namespace Go.Proofs.Ytneeimfffoomgaa
open Go Go.RowKit Go.ChangeShapes Go.WideShapes Go.Deep
set_option linter.unusedVariables false

theorem FBd.setNil {rs : List (List Int)} {zs : List Int} (h : FBd rs zs) (k : Nat) : FBd (rs.set k []) zs :=
  ⟨fun x hx => (List.mem_or_eq_of_mem_set hx).elim (h.row x) (fun e => e ▸ ⟨fun z hz => by simp at hz, by simp⟩), h.ref, by rw [List.length_set]; exact h.nd, h.nr⟩

end Go.Proofs.Ytneeimfffoomgaa
