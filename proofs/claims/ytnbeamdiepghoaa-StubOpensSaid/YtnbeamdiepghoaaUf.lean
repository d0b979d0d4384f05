/- stub.Frame and the document's FramedOf: the same, of any text. -/
import Derived.Test.YtnbeamdiepghoaaUe
namespace Go.Proofs.Ytnbeamdiepghoaa
open Go Go.RowKit Go.ChangeShapes Go.WideShapes Go.ChangeAt Go.Deep
set_option linter.unusedVariables false

def hasM (s : ByteArray) : Bool := Lib.containsAny s.data.toList marks.data.toList
/-- A text framed. -/
def framedT (s : ByteArray) : ByteArray := ⟨#[36]⟩ ++ s ++ ⟨#[35]⟩ ++ hexT s.data.toList
/-- What framing answers. -/
def FrameR (s r : ByteArray) (c : Int) : Prop := (60000 < s.size ∧ r = ⟨#[]⟩ ∧ c = 1) ∨ (s.size ≤ 60000 ∧ hasM s = true ∧ r = ⟨#[]⟩ ∧ c = 4) ∨ (s.size ≤ 60000 ∧ hasM s = false ∧ r = framedT s ∧ c = 0)
theorem FrameR.det {s r q : ByteArray} {c d : Int} (h : FrameR s r c) (k : FrameR s q d) : r = q ∧ c = d := by
  rcases h with ⟨h1, rfl, rfl⟩ | ⟨h1, h2, rfl, rfl⟩ | ⟨h1, h2, rfl, rfl⟩ <;> rcases k with ⟨k1, rfl, rfl⟩ | ⟨k1, k2, rfl, rfl⟩ | ⟨k1, k2, rfl, rfl⟩
  · exact ⟨rfl, rfl⟩
  · omega
  · omega
  · omega
  · exact ⟨rfl, rfl⟩
  · rw [h2] at k2; cases k2
  · omega
  · rw [h2] at k2; cases k2
  · exact ⟨rfl, rfl⟩
def FramePost (s : ByteArray) (w : World) (e : Ending) (w' : World) : Prop := ∃ r c, FrameR s r c ∧ e = .returned (.tuple #[.string r, .int .i64 c]) ∧ Below w.heap.size w w'
set_option maxHeartbeats 4000000 in
set_option maxRecDepth 100000 in
theorem frame_any (s : ByteArray) (w : World) : Calls Try.prog 8 #[.string s] w (FramePost s w) := by
  by_cases hbig : 60000 < s.size
  · have h1 : (60000 : Int) < (s.size : Int) := by omega
    have HB := Lib.hid hbig
    clear hbig
    go_enter Try.func8, Try.ntmps8
    go_wp2
    go_ret2
    exact ⟨_, _, Or.inl ⟨HB.out, rfl, rfl⟩, rfl, Below.refl _ _⟩
  · have h1 : ¬ (60000 : Int) < (s.size : Int) := by omega
    have HC := Lib.hid (containsM_any s w (by omega))
    have HS := Lib.hid (fun w => sumhex_any s w (by omega))
    have HB := Lib.hid (show s.size ≤ 60000 by omega)
    clear hbig
    go_enter Try.func8, Try.ntmps8
    go_wp2_with fail
    refine HC.out.mono ?_
    rintro e w1 ⟨rfl, hb1⟩
    have HB1 := Lib.hid hb1
    clear hb1 HC
    cases hm : Lib.containsAny s.data.toList marks.data.toList with
    | true =>
      have HM := Lib.hid hm
      go_wp2_with fail
      go_ret2
      exact ⟨_, _, Or.inr (Or.inl ⟨HB.out, HM.out, rfl, rfl⟩), rfl, HB1.out⟩
    | false =>
      have HM := Lib.hid hm
      go_wp2_with fail
      refine (HS.out _).mono ?_
      rintro e w2 ⟨rfl, hb2⟩
      have HB2 := Lib.hid (HB1.out.trans (hb2.mono HB1.out.size))
      clear hb2
      have hh : (hexT s.data.toList).size = 2 := rfl
      have hbb := HB.out
      go_wp2_with fail
      all_goals first | (exfalso; omega; done) | skip
      go_ret2
      exact ⟨_, _, Or.inr (Or.inr ⟨HB.out, HM.out, rfl, rfl⟩), rfl, HB2.out⟩
set_option maxHeartbeats 4000000 in
set_option maxRecDepth 100000 in
theorem framedof_any (s : ByteArray) (w : World) : Calls Try.prog 9 #[.string s] w (FramePost s w) := by
  by_cases hbig : 60000 < s.size
  · have h1 : (60000 : Int) < (s.size : Int) := by omega
    have HB := Lib.hid hbig
    clear hbig
    go_enter Try.func9, Try.ntmps9
    go_wp2
    go_ret2
    exact ⟨_, _, Or.inl ⟨HB.out, rfl, rfl⟩, rfl, Below.refl _ _⟩
  · have h1 : ¬ (60000 : Int) < (s.size : Int) := by omega
    have HC := Lib.hid (hasmark_any s w (by omega))
    have HS := Lib.hid (fun w => twohex_any s w (by omega))
    have HB := Lib.hid (show s.size ≤ 60000 by omega)
    clear hbig
    go_enter Try.func9, Try.ntmps9
    go_wp2_with fail
    refine HC.out.mono ?_
    rintro e w1 ⟨rfl, rfl⟩
    cases hm : Lib.containsAny s.data.toList marks.data.toList with
    | true =>
      have HM := Lib.hid hm
      go_wp2_with fail
      go_ret2
      exact ⟨_, _, Or.inr (Or.inl ⟨HB.out, HM.out, rfl, rfl⟩), rfl, Below.refl _ _⟩
    | false =>
      have HM := Lib.hid hm
      go_wp2_with fail
      refine (HS.out _).mono ?_
      rintro e w2 ⟨rfl, hb2⟩
      have HB2 := Lib.hid hb2
      clear hb2
      have hh : (hexT s.data.toList).size = 2 := rfl
      have hbb := HB.out
      go_wp2_with fail
      all_goals first | (exfalso; omega; done) | skip
      go_ret2
      exact ⟨_, _, Or.inr (Or.inr ⟨HB.out, HM.out, rfl, rfl⟩), rfl, HB2.out⟩
end Go.Proofs.Ytnbeamdiepghoaa
