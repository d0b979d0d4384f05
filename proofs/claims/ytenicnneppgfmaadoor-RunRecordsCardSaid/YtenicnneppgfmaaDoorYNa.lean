/- Several texts joined, each with its own heading in the notes: The contracts of cpu. What a tape's check answers, in plain Lean, and run. No condition beyond those of each row. -/
import Derived.Test.YtenicnneppgfmaaDoorYNg
import Derived.Test.YtenicnneppgfmaaDoorYEv
import Derived.Test.YtenicnneppgfmaaDoorYDe
namespace Go.Proofs.YtenicnneppgfmaaDoor
open Go Go.RowKit Go.ChangeShapes Go.WideShapes Go.ChangeAt
set_option linter.unusedVariables false

def MI64 (m : Mach) : Prop := (∀ z ∈ m.regs, I64 z) ∧ (∀ z ∈ m.mem, I64 z) ∧ (∀ z ∈ m.out, I64 z) ∧ m.regs.length ≤ 256 ∧ m.mem.length ≤ 256 ∧ m.out.length ≤ 256
theorem zeroM_i64 : MI64 zeroM := ⟨fun z hz => (by cases hz), fun z hz => (by cases hz), fun z hz => (by cases hz), by decide, by decide, by decide⟩
theorem cnew_all (v : Value) (img : List Int) (w : World) (hv : Ints w.heap.size w v img) : Calls Tryd.prog 36 #[v] w (NewPost w (newM img) (newC img)) := by
  by_cases h1 : 256 < img.length
  · have e : newM img = zeroM := by unfold newM; rw [if_pos h1]
    rw [e]; exact new_bad v img w hv (Or.inl h1)
  · cases h2 : img.any oddB with
    | true =>
      have e : newM img = zeroM := by unfold newM; rw [if_neg h1, if_pos h2]
      rw [e]; exact new_bad v img w hv (Or.inr h2)
    | false =>
      have e : newM img = imageM img := by unfold newM; rw [if_neg h1, if_neg (by rw [h2]; decide)]
      have e' : newC img = 0 := by unfold newC; rw [if_neg h1, if_neg (by rw [h2]; decide)]
      rw [e, e']; exact new_good v img w hv (by omega) h2
theorem guestnew_all (v : Value) (img : List Int) (w : World) (hv : Ints w.heap.size w v img) : Calls Tryd.prog 48 #[v] w (NewPost w (newM img) (newC img)) := by
  by_cases h1 : 256 < img.length
  · have e : newM img = zeroM := by unfold newM; rw [if_pos h1]
    rw [e]; exact guest_bad v img w hv (Or.inl h1)
  · cases h2 : img.any oddB with
    | true =>
      have e : newM img = zeroM := by unfold newM; rw [if_neg h1, if_pos h2]
      rw [e]; exact guest_bad v img w hv (Or.inr h2)
    | false =>
      have e : newM img = imageM img := by unfold newM; rw [if_neg h1, if_neg (by rw [h2]; decide)]
      have e' : newC img = 0 := by unfold newC; rw [if_neg h1, if_neg (by rw [h2]; decide)]
      rw [e, e']; exact guest_good v img w hv (by omega) h2

end Go.Proofs.YtenicnneppgfmaaDoor
namespace Go.Proofs.YtenicnneppgfmaaDoor
open Go Go.RowKit Go.ChangeShapes Go.WideShapes Go.ChangeAt
set_option linter.unusedVariables false

/-- What a tape's check answers: its error and its events. -/
def ChkR (img : List Int) (b : List UInt8) (cnt c : Int) (l : List Ev) : Prop :=
  (newC img ≠ 0 ∧ c = newC img ∧ l = []) ∨
  (newC img = 0 ∧ (cnt < 0 ∨ 3000 < cnt) ∧ c = 2 ∧ l = []) ∨
  (newC img = 0 ∧ 0 ≤ cnt ∧ cnt ≤ 3000 ∧ ∃ d m, DecR b d m ∧ ((d ≠ 0 ∧ c = d ∧ l = []) ∨ (d = 0 ∧ (∃ (i : Nat) (h : i < m.length), cnt ≤ m[i].at_) ∧ c = 9 ∧ l = []) ∨ (d = 0 ∧ (∀ (i : Nat) (h : i < m.length), m[i].at_ < cnt) ∧ c = 0 ∧ l = m)))
theorem ChkR.det {img : List Int} {b : List UInt8} {cnt c d : Int} {l m : List Ev} (h : ChkR img b cnt c l) (k : ChkR img b cnt d m) : c = d ∧ l = m := by
  rcases h with ⟨h1, rfl, rfl⟩ | ⟨h1, h2, rfl, rfl⟩ | ⟨h1, h2, h3, e, x, hd, h⟩ <;> rcases k with ⟨k1, rfl, rfl⟩ | ⟨k1, k2, rfl, rfl⟩ | ⟨k1, k2, k3, e', x', hd', k⟩
  · exact ⟨rfl, rfl⟩
  · exact absurd k1 h1
  · exact absurd k1 h1
  · exact absurd h1 k1
  · exact ⟨rfl, rfl⟩
  · rcases h2 with h2 | h2
    · exact absurd k2 (Int.not_le.2 h2)
    · exact absurd k3 (Int.not_le.2 h2)
  · exact absurd h1 k1
  · rcases k2 with k2 | k2
    · exact absurd h2 (Int.not_le.2 k2)
    · exact absurd h3 (Int.not_le.2 k2)
  · obtain ⟨rfl, rfl⟩ := hd.det hd'
    rcases h with ⟨h4, rfl, rfl⟩ | ⟨h4, ⟨i, hi, h5⟩, rfl, rfl⟩ | ⟨h4, h5, rfl, rfl⟩ <;> rcases k with ⟨k4, rfl, rfl⟩ | ⟨k4, ⟨j, hj, k5⟩, rfl, rfl⟩ | ⟨k4, k5, rfl, rfl⟩
    · exact ⟨rfl, rfl⟩
    · exact absurd k4 h4
    · exact absurd k4 h4
    · exact absurd h4 k4
    · exact ⟨rfl, rfl⟩
    · exact absurd h5 (Int.not_le.2 (k5 i hi))
    · exact absurd h4 k4
    · exact absurd k5 (Int.not_le.2 (h5 j hj))
    · exact ⟨rfl, rfl⟩
def ChkPost (img : List Int) (b : List UInt8) (cnt : Int) (w : World) (en : Ending) (w' : World) : Prop := ∃ c l vo, ChkR img b cnt c l ∧ en = .returned (.tuple #[vo, .int .i64 c]) ∧ EvsR w'.heap.size w' vo l ∧ Below w.heap.size w w'
theorem ChkPost.no {img : List Int} {b : List UInt8} {cnt : Int} {w w' : World} {c : Int} (h : ChkR img b cnt c []) (hb : Below w.heap.size w w') : ChkPost img b cnt w (.returned (.tuple #[.slice none 0 0, .int .i64 c])) w' := ⟨c, [], _, h, rfl, SlN.nil _ _ _ _ _, hb⟩

end Go.Proofs.YtenicnneppgfmaaDoor
