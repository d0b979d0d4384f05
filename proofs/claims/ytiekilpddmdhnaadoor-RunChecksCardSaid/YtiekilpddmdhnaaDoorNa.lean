/- The contracts of cpu.New and of the document's GuestNew, at every image. No condition beyond the reading. -/
import Derived.Test.YtiekilpddmdhnaaDoorNg
import Derived.Test.YtiekilpddmdhnaaDoorOp2
namespace Go.Proofs.YtiekilpddmdhnaaDoor
open Go Go.RowKit Go.ChangeShapes Go.WideShapes Go.ChangeAt
set_option linter.unusedVariables false

def MI64 (m : Mach) : Prop := (∀ z ∈ m.regs, I64 z) ∧ (∀ z ∈ m.mem, I64 z) ∧ (∀ z ∈ m.out, I64 z) ∧ m.regs.length ≤ 256 ∧ m.mem.length ≤ 256 ∧ m.out.length ≤ 256
theorem zeroM_i64 : MI64 zeroM := ⟨fun z hz => (by cases hz), fun z hz => (by cases hz), fun z hz => (by cases hz), by decide, by decide, by decide⟩
theorem imageM_i64 (img : List Int) (hl : img.length ≤ 256) (h : ∀ z ∈ img, I64 z) : MI64 (imageM img) := by
  refine ⟨fun z hz => ?_, fun z hz => ?_, fun z hz => (by cases hz), by simp [imageM], by simp [imageM]; omega, by simp [imageM]⟩
  · have hz' : z ∈ List.replicate 8 (0 : Int) := hz
    rw [List.eq_of_mem_replicate hz']; unfold I64; omega
  · have hz' : z ∈ img ++ List.replicate (256 - img.length) (0 : Int) := hz
    rcases List.mem_append.1 hz' with hz | hz
    · exact h z hz
    · rw [List.eq_of_mem_replicate hz]; unfold I64; omega
theorem newM_i64 (img : List Int) (h : ∀ z ∈ img, I64 z) : MI64 (newM img) := by
  unfold newM
  split
  · exact zeroM_i64
  · split
    · exact zeroM_i64
    · exact imageM_i64 img (by omega) h

theorem cnew_all (v : Value) (img : List Int) (w : World) (hv : Ints w.heap.size w v img) : Calls Tryd.prog 29 #[v] w (NewPost w (newM img) (newC img)) := by
  by_cases h1 : 256 < img.length
  · have e : newM img = zeroM := by unfold newM; rw [if_pos h1]
    rw [e]; exact new_bad v img w hv (Or.inl h1)
  · cases h2 : img.any oddB with
    | true =>
      have e : newM img = zeroM := by unfold newM; rw [if_neg h1, if_pos h2]
      rw [e]; exact new_bad v img w hv (Or.inr h2)
    | false =>
      have e : newM img = imageM img := by unfold newM; rw [if_neg h1, if_neg (by rw [h2]; decide)]
      have e' : newC img = 0 := by unfold newC; rw [if_neg h1, if_neg (by rw [h2]; decide)]
      rw [e, e']; exact new_good v img w hv (by omega) h2
theorem guestnew_all (v : Value) (img : List Int) (w : World) (hv : Ints w.heap.size w v img) : Calls Tryd.prog 30 #[v] w (NewPost w (newM img) (newC img)) := by
  by_cases h1 : 256 < img.length
  · have e : newM img = zeroM := by unfold newM; rw [if_pos h1]
    rw [e]; exact guest_bad v img w hv (Or.inl h1)
  · cases h2 : img.any oddB with
    | true =>
      have e : newM img = zeroM := by unfold newM; rw [if_neg h1, if_pos h2]
      rw [e]; exact guest_bad v img w hv (Or.inr h2)
    | false =>
      have e : newM img = imageM img := by unfold newM; rw [if_neg h1, if_neg (by rw [h2]; decide)]
      have e' : newC img = 0 := by unfold newC; rw [if_neg h1, if_neg (by rw [h2]; decide)]
      rw [e, e']; exact guest_good v img w hv (by omega) h2

end Go.Proofs.YtiekilpddmdhnaaDoor
