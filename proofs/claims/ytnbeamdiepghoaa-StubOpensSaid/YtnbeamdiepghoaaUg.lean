/- stub.Open and the document's OpenedOf: the same, of any packet. -/
import Derived.Test.YtnbeamdiepghoaaUf
import Derived.Deep.RegionWith
import Derived.Deep.QuietTactic
namespace Go.Proofs.Ytnbeamdiepghoaa
open Go Go.RowKit Go.ChangeShapes Go.WideShapes Go.ChangeAt Go.Deep
set_option linter.unusedVariables false

/-- The text within a packet, and what it says of its sum. -/
def inT (p : ByteArray) : ByteArray := p.extract 1 (p.size - 3)
def sumP (p : ByteArray) : ByteArray := p.extract (p.size - 2) p.size
def formP (p : ByteArray) : Prop := 4 ≤ p.size ∧ p.get! 0 = 36 ∧ p.get! (p.size - 3) = 35 ∧ hasM (inT p) = false
/-- What opening answers. -/
def OpenR (p r : ByteArray) (c : Int) : Prop := (200 < p.size ∧ r = ⟨#[]⟩ ∧ c = 1) ∨ (p.size ≤ 200 ∧ ¬ formP p ∧ r = ⟨#[]⟩ ∧ c = 4) ∨ (p.size ≤ 200 ∧ formP p ∧ hexT (inT p).data.toList ≠ sumP p ∧ r = ⟨#[]⟩ ∧ c = 10) ∨ (p.size ≤ 200 ∧ formP p ∧ hexT (inT p).data.toList = sumP p ∧ r = inT p ∧ c = 0)
set_option maxHeartbeats 2000000 in
theorem OpenR.det {p r q : ByteArray} {c d : Int} (h : OpenR p r c) (k : OpenR p q d) : r = q ∧ c = d := by
  unfold OpenR at h k
  generalize formP p = F at *
  generalize hexT (inT p).data.toList = x at *
  generalize sumP p = y at *
  generalize inT p = i at *
  rcases h with ⟨h1, rfl, rfl⟩ | ⟨h1, h2, rfl, rfl⟩ | ⟨h1, h2, h3, rfl, rfl⟩ | ⟨h1, h2, h3, rfl, rfl⟩ <;> rcases k with ⟨k1, rfl, rfl⟩ | ⟨k1, k2, rfl, rfl⟩ | ⟨k1, k2, k3, rfl, rfl⟩ | ⟨k1, k2, k3, rfl, rfl⟩ <;> first | exact ⟨rfl, rfl⟩ | omega | exact absurd h2 k2 | exact absurd k2 h2 | exact absurd k3 h3 | exact absurd h3 k3
def OpenPost (s : ByteArray) (w : World) (e : Ending) (w' : World) : Prop := ∃ r c, OpenR s r c ∧ e = .returned (.tuple #[.string r, .int .i64 c]) ∧ Below w.heap.size w w'
theorem get_eq (s : ByteArray) (j : Nat) (h : j < s.size) : s[j] = s.get! j := by
  simp [ByteArray.get!, getElem!_pos, h]
  rfl
theorem inT_size {p : ByteArray} (h : 4 ≤ p.size) : (inT p).size = p.size - 4 := by unfold inT; rw [ByteArray.size_extract]; omega
theorem ne_list {a b : ByteArray} (h : ¬ a = b) : (!a.toList == b.toList) = true := by
  have e : (a.toList == b.toList) = false := beq_eq_false_iff_ne.2 (fun q => h (by
    rw [Go.Lib.toList_data, Go.Lib.toList_data] at q
    cases a; cases b; simp only [ByteArray.mk.injEq]; exact Array.toList_inj.1 q))
  rw [e]; rfl
set_option maxHeartbeats 8000000 in
set_option maxRecDepth 100000 in
theorem open_any (p : ByteArray) (w : World) : Calls Try.prog 10 #[.string p] w (OpenPost p w) := by
  by_cases hbig : 200 < p.size
  · have h1 : (200 : Int) < (p.size : Int) := by omega
    have HB := Lib.hid hbig
    clear hbig
    go_enter Try.func10, Try.ntmps10
    go_wp2
    go_ret2
    exact ⟨_, _, Or.inl ⟨HB.out, rfl, rfl⟩, rfl, Below.refl _ _⟩
  · have h1 : ¬ (200 : Int) < (p.size : Int) := by omega
    have HB := Lib.hid (show p.size ≤ 200 by omega)
    by_cases h4 : 4 ≤ p.size
    · have i0 : 0 < p.size := by omega
      have i3 : p.size - 3 < p.size := by omega
      have g0 := get_eq p 0 i0
      have g3 := get_eq p (p.size - 3) i3
      have w3 : IntKind.i64.wrap ((p.size : Int) - 3) = ((p.size - 3 : Nat) : Int) := by rw [IntWalk.i64_in _ (by omega)]; omega
      have w2 : IntKind.i64.wrap ((p.size : Int) - 2) = ((p.size - 2 : Nat) : Int) := by rw [IntWalk.i64_in _ (by omega)]; omega
      by_cases hf : p.get! 0 = 36 ∧ p.get! (p.size - 3) = 35
      · obtain ⟨e0, e3⟩ := hf
        rw [e0] at g0
        rw [e3] at g3
        have HE := Lib.hid (And.intro e0 e3)
        have HI := Lib.hid (inT_size h4)
        have HC := Lib.hid (containsM_any (inT p) w (by have := HI.out; omega))
        obtain ⟨hx, hhx⟩ : ∃ hx, hx = hexT (inT p).data.toList := ⟨_, rfl⟩
        have HS : Hid (∀ w, Calls Try.prog 19 #[.string (p.extract 1 (p.size - 3))] w fun e w' => e = .returned (.string hx) ∧ Below w.heap.size w w') := Lib.hid (fun w => hhx ▸ sumhex_any (p.extract 1 (p.size - 3)) w (by have := HI.out; unfold inT at this; omega))
        clear e0 e3
        go_enter Try.func10, Try.ntmps10
        go_wp2_with fail
        refine HC.out.mono ?_
        rintro e w1 ⟨rfl, hb1⟩
        have HB1 := Lib.hid hb1
        clear hb1 HC
        cases hm : Lib.containsAny (inT p).data.toList marks.data.toList with
        | true =>
          have HM := Lib.hid (show ¬ formP p from fun h => by have h4 := h.2.2.2; unfold hasM at h4; rw [hm] at h4; cases h4)
          go_wp2_with fail
          go_ret2
          exact ⟨_, _, Or.inr (Or.inl ⟨HB.out, HM.out, rfl, rfl⟩), rfl, HB1.out⟩
        | false =>
          have HF := Lib.hid (show formP p from ⟨h4, HE.out.1, HE.out.2, hm⟩)
          by_cases hs : hexT (inT p).data.toList = sumP p
          · have HQ := Lib.hid hs
            have hq : hx = p.extract (p.size - 2) p.size := hhx.trans hs
            clear hs hm hhx
            go_wp2_with fail
            go_region_with (first | (go_at_call 19; (with_reducible refine (HS.out _).mono ?_); rintro e w2 ⟨rfl, hb2⟩; have HB2 := Lib.hid hb2; rw [hq]; clear hb2))
            all_goals go_wp2_with fail
            all_goals go_ret2
            all_goals exact ⟨_, _, Or.inr (Or.inr (Or.inr ⟨HB.out, HF.out, HQ.out, rfl, rfl⟩)), rfl, HB1.out.trans ((below_drewN (Below.refl _ _) 1).trans (HB2.out.mono (by simp)) |>.mono HB1.out.size)⟩
          · have HQ := Lib.hid hs
            have hq : (!hx.toList == (p.extract (p.size - 2) p.size).toList) = true := ne_list (fun h => hs (hhx.symm.trans h))
            clear hs hm hhx
            go_wp2_with fail
            go_region_with (first | (go_at_call 19; (with_reducible refine (HS.out _).mono ?_); rintro e w2 ⟨rfl, hb2⟩; have HB2 := Lib.hid hb2; clear hb2))
            all_goals go_wp2_with fail
            all_goals go_ret2
            all_goals exact ⟨_, _, Or.inr (Or.inr (Or.inl ⟨HB.out, HF.out, HQ.out, rfl, rfl⟩)), rfl, HB1.out.trans ((below_drewN (Below.refl _ _) 1).trans (HB2.out.mono (by simp)) |>.mono HB1.out.size)⟩
      · have HM := Lib.hid (show ¬ formP p from fun h => hf ⟨h.2.1, h.2.2.1⟩)
        have hb0 := (p.get! 0).toNat_lt
        have hb3 := (p.get! (p.size - 3)).toNat_lt
        by_cases e0 : p.get! 0 = 36
        · have e3 : ¬ p.get! (p.size - 3) = 35 := fun h => hf ⟨e0, h⟩
          rw [e0] at g0
          generalize p.get! (p.size - 3) = y at *
          have ey : ((y.toNat : Int) == 35) = false := beq_eq_false_iff_ne.2 (fun h => e3 (UInt8.toNat_inj.1 (by show y.toNat = 35; omega)))
          have ey2 : ((y.toNat : Int) != 35) = true := by rw [bne, ey]; rfl
          clear e0 e3 hf hb0
          go_enter Try.func10, Try.ntmps10
          go_wp2_with fail
          go_ret2
          exact ⟨_, _, Or.inr (Or.inl ⟨HB.out, HM.out, rfl, rfl⟩), rfl, Below.refl _ _⟩
        · generalize p.get! 0 = y at *
          have ey : ((y.toNat : Int) == 36) = false := beq_eq_false_iff_ne.2 (fun h => e0 (UInt8.toNat_inj.1 (by show y.toNat = 36; omega)))
          have ey2 : ((y.toNat : Int) != 36) = true := by rw [bne, ey]; rfl
          clear e0 hf hb3
          go_enter Try.func10, Try.ntmps10
          go_wp2_with fail
          go_ret2
          exact ⟨_, _, Or.inr (Or.inl ⟨HB.out, HM.out, rfl, rfl⟩), rfl, Below.refl _ _⟩
    · have HM := Lib.hid (show ¬ formP p from fun h => h4 h.1)
      have h4z : (p.size : Int) < 4 := by omega
      clear h4
      go_enter Try.func10, Try.ntmps10
      go_wp2_with fail
      go_ret2
      exact ⟨_, _, Or.inr (Or.inl ⟨HB.out, HM.out, rfl, rfl⟩), rfl, Below.refl _ _⟩
end Go.Proofs.Ytnbeamdiepghoaa
