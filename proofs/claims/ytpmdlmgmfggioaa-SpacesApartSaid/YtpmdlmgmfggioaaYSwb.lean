/- PLAIN: two spaces, a store of the first one. No condition. -/
import Derived.Test.YtpmdlmgmfggioaaYSw
namespace Go.Proofs.Ytpmdlmgmfggioaa
open Go
set_option linter.unusedVariables false
set_option linter.unusedSimpArgs false

section
variable {N : Nat} {rs rs' : List (List Int)} {zs zs' pa pb pa' : List Int} {s : P2S} {p j : Nat} {v : Int}
theorem put_page (hj : j < 16) : (16 * p + j) / 16 = p := by omega
theorem In2.yes (i : In2 N rs zs pa pb s) (hp : p < 16) (hj : j < 16) (hv : I64 v) (hr : StR rs zs pa p j v rs' zs' pa') (hw : s.wants false p = false) : In2 N rs' zs' pa' pb (s.put false (16 * p + j) v false) := by
  have hok := StR.ok i.ok hp hj hv hr
  have hm : memP rs' pb = memP rs pb := by have := hok.2.2.1; simpa using this
  unfold P2S.wants P2S.own at hw
  simp only [Bool.or_eq_false_iff, Bool.not_eq_false', Bool.false_eq_true, if_false] at hw
  obtain ⟨w1, w2⟩ := hw
  have e : s.put false (16 * p + j) v false = { s with a := s.a.set (16 * p + j) v } := by
    unfold P2S.put
    simp only [put_page hj, w1, Bool.false_eq_true, if_false, if_true, Bool.not_false, Bool.not_true, Bool.and_true, Bool.true_and, Bool.and_false, Bool.false_and, Bool.or_true, Bool.true_or, Bool.false_or, Bool.or_false]
  rw [e]
  rcases i.pg p hp with ⟨h1, _⟩ | ⟨_, ⟨_, f, g1, g2, g3⟩ | ⟨h2, _⟩, _⟩
  · rw [h1] at w1; cases w1
  · cases hr with
    | take q he hz hk => omega
    | one n he hn h0 => exact ⟨hok.1, i.n, by show s.a.set _ _ = _; rw [hok.2.1, i.ma], by rw [hm]; exact i.mb, i.known, i.ls, i.la, i.lb, i.pg⟩
    | copy n q z he hn h0 h4 hz hk =>
      have : f = n := by omega
      subst this
      omega
  · rw [h2] at w2; cases w2
theorem In2.new (i : In2 N rs zs pa pb s) (hp : p < 16) (hj : j < 16) (hv : I64 v) (hr : StR rs zs pa p j v rs' zs' pa') (hw : s.wants false p = true) : In2 N rs' zs' pa' pb (s.put false (16 * p + j) v true) ∧ s.k ≠ N := by
  have hok := StR.ok i.ok hp hj hv hr
  have hm : memP rs' pb = memP rs pb := by have := hok.2.2.1; simpa using this
  have hla : pa.length = 16 := i.ok.len pa (List.mem_cons_self ..)
  have hlb : pb.length = 16 := i.ok.len pb (by simp)
  have l1 := i.ls
  have l2 := i.la
  have l3 := i.lb
  unfold P2S.wants P2S.own at hw
  rcases i.pg p hp with ⟨h1, o1, o2, f, x1, y1, x2, x3⟩ | ⟨h1, ha, hb⟩
  · have e : s.put false (16 * p + j) v true = { a := s.a.set (16 * p + j) v, b := s.b, sh := s.sh.set p false, oa := s.oa.set p true, ob := s.ob.set p true, k := s.k + 1 } := by
      unfold P2S.put
      simp only [put_page hj, h1, Bool.false_eq_true, if_false, if_true, Bool.not_false, Bool.not_true, Bool.and_true, Bool.true_and, Bool.and_false, Bool.false_and, Bool.or_true, Bool.true_or, Bool.false_or, Bool.or_false]
    rw [e]
    cases hr with
    | take q he hz hk => omega
    | one n he hn h0 =>
      have : f = n := by omega
      subst this
      omega
    | copy n q z he hn h0 h4 hz hk =>
      have hfn : f = n := by omega
      subst hfn
      have hz0 := fz_zero hz hk
      have hqn : q ≠ f := fun e => by subst e; omega
      have hzz : z = 2 := by omega
      subst hzz
      have hk1 := k0_less hn h0 h4
      have hq1 : (zs.set f (2 - 1)).getD q 0 = 0 := by rw [getD_set_ne hqn]; exact hz0
      have hk2 := k0_new (zs := zs.set f (2 - 1)) (k := q) (by rw [List.length_set]; exact hk) hq1
      have hroom := k0_room hk hz0
      have hkn := i.known
      have hNN := i.n
      have hcnt : ∀ r, r < 16 → r ≠ p → pa.getD r (-1) ≠ (f : Int) ∧ pb.getD r (-1) ≠ (f : Int) := by
        intro r hr hne
        have hrf := i.ok.ref f hn
        simp only [cntP, Nat.add_zero] at hrf
        have ca := count_pos' (show (f : Int) ∈ pa by rw [← x1]; exact pg_getD (by omega) _)
        have cb := count_pos' (show (f : Int) ∈ pb by rw [← y1]; exact pg_getD (by omega) _)
        have gpa : pa.getD p 0 = f := by rw [getD_of (by omega)] at x1 ⊢; exact x1
        have gpb : pb.getD p 0 = f := by rw [getD_of (by omega)] at y1 ⊢; exact y1
        constructor
        · intro e
          have gr : pa.getD r 0 = f := by rw [getD_of (by omega)] at e ⊢; exact e
          have := count_two (l := pa) (p := p) (q := r) (by omega) (by omega) (fun e => hne e.symm) gpa gr
          omega
        · intro e
          have gr : pb.getD r 0 = f := by rw [getD_of (by omega)] at e ⊢; exact e
          have := count_two (l := pb) (p := p) (q := r) (by omega) (by omega) (fun e => hne e.symm) gpb gr
          omega
      refine ⟨⟨hok.1, by rw [hok.2.2.2.1]; exact i.n, by show s.a.set _ _ = _; rw [hok.2.1, i.ma], by rw [hm]; exact i.mb, by rw [hk2, hk1, hkn], by simp; omega, by simp; omega, by simp; omega, fun r hr => ?_⟩, by show s.k ≠ N; omega⟩
      show Pg2 _ _ _ ((s.sh.set p false).getD r false) ((s.oa.set p true).getD r false) ((s.ob.set p true).getD r false)
      by_cases e : r = p
      · subst e
        rw [getD_set_same (by omega), getD_set_same (by omega), getD_set_same (by omega), getD_set_same (by omega)]
        refine Or.inr ⟨rfl, Or.inl ⟨rfl, q, rfl, by simp; omega, ?_⟩, Or.inl ⟨rfl, f, y1, by simp; omega, ?_⟩⟩
        · rw [getD_set_same (by simp; omega)]
        · rw [getD_set_ne (fun e => hqn e.symm), getD_set_same hn]; rfl
      · rw [getD_set_ne e, getD_set_ne e, getD_set_ne e, getD_set_ne e]
        have hpg := i.pg r hr
        refine hpg.to (by simp) (fun g hg => ?_)
        have hg1 : g ≠ f := fun e2 => by
          subst e2
          rcases hg with hg | hg
          · exact (hcnt r hr e).1 hg
          · exact (hcnt r hr e).2 hg
        have hg2 : g ≠ q := fun e2 => by
          subst e2
          rcases hpg with ⟨_, _, _, f2, g1, g2, g3, g4⟩ | ⟨_, ga, gb⟩
          · have : f2 = g := by rcases hg with hg | hg <;> omega
            subst this; omega
          · rcases hg with hg | hg
            · rcases ga with ⟨_, f2, g1, g3, g4⟩ | ⟨_, g1⟩
              · have : f2 = g := by omega
                subst this; omega
              · omega
            · rcases gb with ⟨_, f2, g1, g3, g4⟩ | ⟨_, g1⟩
              · have : f2 = g := by omega
                subst this; omega
              · omega
        rw [getD_set_ne hg2, getD_set_ne hg1]
  · rw [h1] at hw
    rcases ha with ⟨a1, _⟩ | ⟨a1, a2⟩
    · rw [if_neg (by decide), a1] at hw; cases hw
    · have e : s.put false (16 * p + j) v true = { a := s.a.set (16 * p + j) v, b := s.b, sh := s.sh, oa := s.oa.set p true, ob := s.ob, k := s.k + 1 } := by
        unfold P2S.put
        simp only [put_page hj, h1, Bool.false_eq_true, if_false, if_true, Bool.not_false, Bool.not_true, Bool.and_true, Bool.true_and, Bool.and_false, Bool.false_and, Bool.or_true, Bool.true_or, Bool.false_or, Bool.or_false]
      rw [e]
      cases hr with
      | one n he hn h0 => omega
      | copy n q z he hn h0 h4 hz hk => omega
      | take q he hz hk =>
        have hz0 := fz_zero hz hk
        have hroom := k0_room hk hz0
        have hkn := i.known
        have hNN := i.n
        refine ⟨⟨hok.1, by rw [hok.2.2.2.1]; exact i.n, by show s.a.set _ _ = _; rw [hok.2.1, i.ma], by rw [hm]; exact i.mb, by rw [k0_new hk hz0, hkn], i.ls, by simp; omega, i.lb, fun r hr => ?_⟩, by show s.k ≠ N; omega⟩
        show Pg2 _ _ _ (s.sh.getD r false) ((s.oa.set p true).getD r false) (s.ob.getD r false)
        have far : ∀ (x y : Int) (b1 b2 b3 : Bool), Pg2 zs x y b1 b2 b3 → ∀ g : Nat, (x = g ∨ y = g) → g ≠ q := by
          intro x y b1 b2 b3 hpg g hg e2
          subst e2
          rcases hpg with ⟨_, _, _, f2, g1, g2, g3, g4⟩ | ⟨_, ga, gb⟩
          · have : f2 = g := by rcases hg with hg | hg <;> omega
            subst this; omega
          · rcases hg with hg | hg
            · rcases ga with ⟨_, f2, g1, g3, g4⟩ | ⟨_, g1⟩
              · have : f2 = g := by omega
                subst this; omega
              · omega
            · rcases gb with ⟨_, f2, g1, g3, g4⟩ | ⟨_, g1⟩
              · have : f2 = g := by omega
                subst this; omega
              · omega
        by_cases e : r = p
        · subst e
          rw [getD_set_same (by omega), getD_set_same (by omega), h1]
          refine Or.inr ⟨rfl, Or.inl ⟨rfl, q, rfl, by simp; omega, getD_set_same hk _ _⟩, ?_⟩
          rcases hb with ⟨b1, f, b2, b3, b4⟩ | hb
          · exact Or.inl ⟨b1, f, b2, by simp; omega, by rw [getD_set_ne (fun e => by subst e; omega)]; exact b4⟩
          · exact Or.inr hb
        · rw [getD_set_ne e, getD_set_ne e]
          have hpg := i.pg r hr
          exact hpg.to (by simp) (fun g hg => getD_set_ne (far _ _ _ _ _ hpg g hg) _ _)
theorem In2.no (i : In2 N rs zs pa pb s) (hp : p < 16) (hr : NoR zs pa p) : s.wants false p = true ∧ s.k = N := by
  have hf := fz_full hr.2
  refine ⟨?_, ?_⟩
  · unfold P2S.wants P2S.own
    rcases i.pg p hp with ⟨h1, _⟩ | ⟨h1, ⟨_, f, g1, g2, g3⟩ | ⟨h2, _⟩, _⟩
    · rw [h1]; rfl
    · rcases hr.1 with e | ⟨n, e, hn, h1⟩
      · omega
      · have : f = n := by omega
        subst this
        omega
    · rw [h1]; simp; exact h2
  · have hz : ∀ q, q < zs.length → 0 < zs.getD q 0 := fun q hq => by
      have h1 := i.ok.ref q hq
      have h2 := hf q hq
      omega
    have := k0_full hz
    have := i.known
    have := i.n
    omega
end
end Go.Proofs.Ytpmdlmgmfggioaa
