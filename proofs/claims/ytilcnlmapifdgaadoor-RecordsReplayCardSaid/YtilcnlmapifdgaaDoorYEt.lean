/- Bytes that were written are read as they were; a beginning of them is not read; in plain Lean. No condition beyond those of each row. -/
import Derived.Test.YtilcnlmapifdgaaDoorYDe
namespace Go.Proofs.YtilcnlmapifdgaaDoor
set_option linter.unusedVariables false

def GoodE : Int → List Ev → Prop
  | _, [] => True
  | a, x :: l => (0 ≤ a ∧ a ≤ x.at_ ∧ x.at_ < 3000 ∧ 1 ≤ x.kind ∧ x.kind ≤ 3 ∧ (x.data.length : Int) = evW x.kind ∧ ∀ z ∈ x.data, Word z) ∧ GoodE x.at_ l
theorem good_drop {l : List Ev} (h : EvOk l) : ∀ n k, k + n = l.length → GoodE (lastAt 0 (l.take k)) (l.drop k) := by
  intro n
  induction n with
  | zero => intro k hk; rw [List.drop_eq_nil_of_le (by omega)]; exact trivial
  | succ n ih =>
    intro k hk
    have hkl : k < l.length := by omega
    obtain ⟨h1, h2, h3, h4, h5, h6, h7, h8⟩ := ev_at h hkl
    rw [List.drop_eq_getElem_cons hkl]
    refine ⟨⟨h7, h8, h4, h1, h2, h6, any_word h5⟩, ?_⟩
    have := ih (k + 1) (by omega)
    rw [lastAt_take (by omega)] at this
    exact this
theorem good_of {l : List Ev} (h : EvOk l) : GoodE 0 l := by
  have := good_drop h l.length 0 (by omega)
  simpa [lastAt] using this
theorem evP_write {a : Int} {x : Ev} (h : 0 ≤ a ∧ a ≤ x.at_ ∧ x.at_ < 3000 ∧ 1 ≤ x.kind ∧ x.kind ≤ 3 ∧ (x.data.length : Int) = evW x.kind ∧ ∀ z ∈ x.data, Word z) (r : List UInt8) : evP a (evE a x ++ r) = (0, x, r) := by
  obtain ⟨at_, kind, data⟩ := x
  obtain ⟨h0, h1, h2, h3, h4, h5, h6⟩ := h
  simp only at h1 h2 h3 h4 h5 h6
  have hn : (4 * (at_ - a) + kind).toNat < 128 ^ 7 := by
    have : (128 : Nat) ^ 7 = 562949953421312 := by decide
    rw [this]; omega
  have hw := numP_write hn (dataE ⟨at_, kind, data⟩ ++ r)
  unfold evE
  simp only
  rw [List.append_assoc]
  have hat : a + (((4 * (at_ - a) + kind).toNat / 4 : Nat) : Int) = at_ := by omega
  rcases (show kind = 1 ∨ kind = 2 ∨ kind = 3 by omega) with rfl | rfl | rfl
  · have hd : data = [] := List.eq_nil_of_length_eq_zero (by rw [show evW 1 = 0 from rfl] at h5; omega)
    subst hd
    rw [evP_1 hw (by omega), hat]
    rfl
  · rw [show evW 2 = 16 from rfl] at h5
    have hb := blkP_runs data.length data rfl 16 [] 0 r (by simp; omega) (by omega) (Or.inl rfl) (by unfold Word; omega) h6
    rw [evP_2 hw (by omega) (show blkP 16 [] 0 (dataE ⟨at_, 2, data⟩ ++ r) = (0, data, r) from hb), hat]
  · rw [show evW 3 = 1 from rfl] at h5
    obtain ⟨z, rfl⟩ := len1 (show data.length = 1 by omega)
    have hz := h6 z (by simp)
    unfold Word at hz
    have hb := numP_write (zig_lt (z := z) (by omega)) r
    rw [evP_3 hw (by omega) (show numP 0 0 (dataE ⟨at_, 3, [z]⟩ ++ r) = (0, zig z, r) from hb), hat, zag_zig]
theorem evsP_write : ∀ (l : List Ev) (a : Int) (r : List UInt8), GoodE a l → evsP l.length a (evsE a l ++ r) = (0, l, r) := by
  intro l
  induction l with
  | nil => intro a r _; rfl
  | cons x l ih =>
    intro a r h
    obtain ⟨h1, h2⟩ := h
    have hx := evP_write h1 (evsE x.at_ l ++ r)
    rw [evsE, List.append_assoc, List.length_cons, evsP_go hx, ih _ _ h2]
theorem pay_read {l : List Ev} (h : EvOk l) (hl : l.length ≤ 1000) (r : List UInt8) : numP 0 0 (payE l ++ r) = (0, l.length, evsE 0 l ++ r) ∧ evsP l.length 0 (evsE 0 l ++ r) = (0, l, r) := by
  unfold payE
  rw [List.append_assoc]
  exact ⟨numP_write (small_lt (by omega)) _, evsP_write l 0 r (good_of h)⟩
theorem dec_enc {l : List Ev} (h : EvRes l 0) (h1 : 5 ≤ (encE l).length) (h2 : (encE l).length ≤ 60000) : DecR (encE l) 0 l := by
  obtain ⟨hok, hl⟩ := h.ok
  have hlen : (encE l).length = (payE l).length + 4 := by unfold encE; rw [List.length_append]; rfl
  have ht : (encE l).take ((encE l).length - 4) = payE l := by rw [hlen, Nat.add_sub_cancel]; unfold encE; exact List.take_left' rfl
  have hd : (encE l).drop ((encE l).length - 4) = sumB (payE l) := by rw [hlen, Nat.add_sub_cancel]; unfold encE; exact List.drop_left' rfl
  obtain ⟨k1, k2⟩ := pay_read hok hl []
  rw [List.append_nil, List.append_nil] at k1
  rw [List.append_nil] at k2
  exact Or.inr (Or.inr (Or.inr ⟨h1, h2, by rw [ht, hd], by rw [ht]; exact ⟨0, l.length, _, k1, Or.inr (Or.inr ⟨hl, rfl, 0, l, [], k2, Or.inr (Or.inr ⟨rfl, rfl, h, rfl⟩)⟩)⟩⟩))
end Go.Proofs.YtilcnlmapifdgaaDoor
