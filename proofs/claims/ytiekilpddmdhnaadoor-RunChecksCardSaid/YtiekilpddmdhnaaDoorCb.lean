/- 'string(b)' of bytes that are read. No condition beyond the reading. -/
import Derived.Test.YtiekilpddmdhnaaDoorDe
import Derived.Laws.IdiomStrings
import Derived.Laws.BytesArg
namespace Go.Proofs.YtiekilpddmdhnaaDoor
open Go Go.RowKit Go.ChangeShapes Go.WideShapes Go.Deep
set_option linter.unusedVariables false

set_option maxRecDepth 100000 in
theorem conv_bytes {w : World} {B : Nat} {a : Option Addr} {c n : Nat} {bs : List UInt8} (h : BytesR B w (.slice a n c) bs) : (convert 22 9 (.slice a n c)).run Tryd.prog w = .ok (.string ⟨bs.toArray⟩) w := by
  obtain ⟨a', cap, hv, _, _, hc⟩ := h
  injection hv with h1 h2 h3
  subst h1 h2
  cases a with
  | none =>
    have h0 : bs.length = 0 := by
      rcases Nat.eq_zero_or_pos bs.length with h | h
      · exact h
      · obtain ⟨_, _, _, hh, _⟩ := hc 0 h; cases hh
    have e0 : bs = [] := List.eq_nil_of_length_eq_zero h0
    subst e0
    exact run_convert_bytes_nil w 22 5 Tryd.underlying22 Tryd.underlying5 _ _ _ Tryd.underlying9
  | some ad =>
    refine run_convert_bytes_back w 22 9 5 ad c bs Tryd.underlying22 Tryd.underlying5 Tryd.underlying9 (fun j hj => ?_)
    obtain ⟨b, off, vi, ha, _, hcell, hvi⟩ := hc j hj
    injection ha with ha
    subst ha
    rw [add_plain, hcell, hvi]
end Go.Proofs.YtiekilpddmdhnaaDoor
