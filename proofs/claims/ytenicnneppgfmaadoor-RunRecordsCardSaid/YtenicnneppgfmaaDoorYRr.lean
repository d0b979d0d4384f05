/- run.Replay. No condition beyond the readings and the table. -/
import Derived.Test.YtenicnneppgfmaaDoorYSu
import Derived.Test.YtenicnneppgfmaaDoorYNa
import Derived.StillTailTactics
import Derived.Deep.CutBlock
import Derived.Deep.CutRange
import Derived.Deep.LoopGhost
namespace Go.Proofs.YtenicnneppgfmaaDoor
open Go Go.RowKit Go.ChangeShapes Go.WideShapes Go.Deep
set_option linter.unusedVariables false
attribute [local go_sem ↓] Go.wp_at_zero Go.wp_at_succ

theorem imgM_ok {zs : List Int} (h : newC zs = 0) : MOk (imageM zs) ∧ newM zs = imageM zs := by
  by_cases h1 : 256 < zs.length
  · unfold newC at h; rw [if_pos h1] at h; cases h
  · by_cases h2 : zs.any oddB = true
    · unfold newC at h; rw [if_neg h1, if_pos h2] at h; cases h
    · refine ⟨⟨rfl, image_len _ (by omega), Nat.zero_le _, rfl, ?_, rfl, ?_, ?_, ?_, ?_, ?_, ?_, ?_⟩, by unfold newM; rw [if_neg h1, if_neg h2]⟩
      · refine of_words (fun z hz => ?_)
        have hz' : z ∈ zs ++ List.replicate (256 - zs.length) (0 : Int) := hz
        rcases List.mem_append.1 hz' with hz | hz
        · exact words_of (by simpa using h2) z hz
        · rw [List.eq_of_mem_replicate hz]; unfold WordZ; omega
      all_goals (show _ ∧ _; simp [imageM])
/-- What a replay answers: the guest and the error. -/
def RepR (img : List Int) (b : List UInt8) (cnt n : Int) (m : Mach) (c : Int) : Prop :=
  ∃ d l, ChkR img b cnt d l ∧ ((d ≠ 0 ∧ c = d ∧ m = zeroM) ∨ (d = 0 ∧ (n < 0 ∨ cnt < n) ∧ c = 2 ∧ m = zeroM) ∨ (d = 0 ∧ 0 ≤ n ∧ n ≤ cnt ∧ c = 0 ∧ m = runM l (imageM img) n.toNat))
theorem RepR.det {img : List Int} {b : List UInt8} {cnt n c d : Int} {m q : Mach} (h : RepR img b cnt n m c) (k : RepR img b cnt n q d) : c = d ∧ m = q := by
  obtain ⟨e, l, h1, h⟩ := h
  obtain ⟨f, l2, k1, k⟩ := k
  obtain ⟨rfl, rfl⟩ := h1.det k1
  rcases h with ⟨h2, rfl, rfl⟩ | ⟨h2, h3, rfl, rfl⟩ | ⟨h2, h3, h4, rfl, rfl⟩ <;> rcases k with ⟨k2, rfl, rfl⟩ | ⟨k2, k3, rfl, rfl⟩ | ⟨k2, k3, k4, rfl, rfl⟩
  · exact ⟨rfl, rfl⟩
  · exact absurd k2 h2
  · exact absurd k2 h2
  · exact absurd h2 k2
  · exact ⟨rfl, rfl⟩
  · omega
  · exact absurd h2 k2
  · omega
  · exact ⟨rfl, rfl⟩
def RepPost (img : List Int) (b : List UInt8) (cnt n : Int) (w : World) (e : Ending) (w' : World) : Prop := ∃ m c, RepR img b cnt n m c ∧ NewPost w m c e w'
theorem RepPost.no {img : List Int} {b : List UInt8} {cnt n c : Int} {w w' : World} (h : RepR img b cnt n zeroM c) (hb : Below w.heap.size w w') : RepPost img b cnt n w (.returned (.tuple #[.agg #[.slice none 0 0, .int .i64 0, .int .i64 0, .bool false, .bool false, .int .i64 0, .int .i64 0, .int .i64 0, .slice none 0 0, .slice none 0 0, .int .i64 0, .int .i64 0], .int .i64 c])) w' := ⟨zeroM, c, h, zero_post hb⟩
theorem mown_below {base : Nat} {w w' : World} {m : Mach} {vr vm vo : Value} (h : MachOwn base w m vr vm vo) (hb : Below w.heap.size w w') : MachOwn base w' m vr vm vo :=
  ⟨own_below h.hr hb (Nat.le_refl _), own_below h.hm hb (Nat.le_refl _), own_below h.ho hb (Nat.le_refl _), h.rm, h.ro, h.mo, h.mr, h.or, h.om⟩

end Go.Proofs.YtenicnneppgfmaaDoor
