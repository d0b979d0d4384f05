/- PLAIN: the second space's store; what a fork makes of one space. No condition. -/
import Derived.Test.YtpmdlmgmfggioaaYSwb
namespace Go.Proofs.Ytpmdlmgmfggioaa
open Go
set_option linter.unusedVariables false
set_option linter.unusedSimpArgs false

def P2S.swap (s : P2S) : P2S := { a := s.b, b := s.a, sh := s.sh, oa := s.ob, ob := s.oa, k := s.k }
theorem Pg2.swap {zs : List Int} {x y : Int} {s oa ob : Bool} (h : Pg2 zs x y s oa ob) : Pg2 zs y x s ob oa := by
  rcases h with ⟨h1, h2, h3, f, h4, h5, h6, h7⟩ | ⟨h1, h2, h3⟩
  · exact Or.inl ⟨h1, h3, h2, f, h5, h4, h6, h7⟩
  · exact Or.inr ⟨h1, h3, h2⟩
section
variable {N : Nat} {rs rs' : List (List Int)} {zs zs' pa pb pb' pg a : List Int} {h : List Bool} {k : Nat} {s : P2S} {p j : Nat} {v : Int}
theorem In2.swap (i : In2 N rs zs pa pb s) : In2 N rs zs pb pa s.swap :=
  ⟨i.ok.perm (List.Perm.swap _ _ _), i.n, i.mb, i.ma, i.known, i.ls, i.lb, i.la, fun p hp => (i.pg p hp).swap⟩
theorem put_swap (x : Nat) (m : Bool) : (s.swap.put false x v m).swap = s.put true x v m := by
  unfold P2S.put P2S.swap
  simp only [Bool.false_eq_true, if_false, if_true, Bool.not_false, Bool.not_true, Bool.and_true, Bool.true_and, Bool.and_false, Bool.false_and, Bool.or_false, Bool.false_or]
theorem wants_swap (q : Nat) : s.swap.wants false q = s.wants true q := by
  unfold P2S.wants P2S.own P2S.swap
  simp only [Bool.false_eq_true, if_false, if_true]
theorem In2.yes2 (i : In2 N rs zs pa pb s) (hp : p < 16) (hj : j < 16) (hv : I64 v) (hr : StR rs zs pb p j v rs' zs' pb') (hw : s.wants true p = false) : In2 N rs' zs' pa pb' (s.put true (16 * p + j) v false) := by
  rw [← put_swap]
  exact (i.swap.yes hp hj hv hr (by rw [wants_swap]; exact hw)).swap
theorem In2.new2 (i : In2 N rs zs pa pb s) (hp : p < 16) (hj : j < 16) (hv : I64 v) (hr : StR rs zs pb p j v rs' zs' pb') (hw : s.wants true p = true) : In2 N rs' zs' pa pb' (s.put true (16 * p + j) v true) ∧ s.k ≠ N := by
  rw [← put_swap]
  have h := i.swap.new hp hj hv hr (by rw [wants_swap]; exact hw)
  exact ⟨h.1.swap, h.2⟩
theorem In2.no2 (i : In2 N rs zs pa pb s) (hp : p < 16) (hr : NoR zs pb p) : s.wants true p = true ∧ s.k = N := by
  have h := i.swap.no hp hr
  rw [wants_swap] at h
  exact h
theorem k0_congr : ∀ {l m : List Int}, l.length = m.length → (∀ q, q < l.length → (0 < l.getD q 0 ↔ 0 < m.getD q 0)) → K0 l = K0 m
  | [], [], _, _ => rfl
  | [], y :: m, h, _ => by cases h
  | x :: l, [], h, _ => by cases h
  | x :: l, y :: m, h, hq => by
    have h0 := hq 0 (by simp)
    have ih := k0_congr (l := l) (m := m) (by simpa using h) (fun q hl => by have := hq (q + 1) (by simpa using hl); simpa using this)
    simp only [List.getD_cons_zero] at h0
    unfold K0 at ih ⊢
    rw [List.countP_cons, List.countP_cons, ih]
    congr 1
    by_cases hx : 0 < x
    · rw [if_pos (by simpa using hx), if_pos (by simpa using h0.1 hx)]
    · rw [if_neg (by simpa using hx), if_neg (by simpa using fun q => hx (h0.2 q))]
/-- Behind a fork both have what the one had. -/
theorem In1.fork (i : In1 N rs zs pg a h k) (hok : HOk rs zs' [pg, pg]) (hn : zs'.length = N) : In2 N rs zs' pg pg { a := a, b := a, sh := h, oa := List.replicate 16 false, ob := List.replicate 16 false, k := k } := by
  have key : ∀ q, q < zs.length → zs'.getD q 0 = 2 * zs.getD q 0 := fun q hq => by
    have h1 := i.ok.ref q hq
    have h2 := hok.ref q (by have := i.n; omega)
    simp only [cntP, Nat.add_zero] at h1 h2
    omega
  refine ⟨hok, hn, i.mem, i.mem, ?_, i.hl, by simp, by simp, fun p hp => ?_⟩
  · show K0 zs' = k
    rw [← i.known]
    refine (k0_congr (by have := i.n; omega) (fun q hq => ?_)).symm
    rw [key q hq]
    omega
  · show Pg2 _ _ _ (h.getD p false) ((List.replicate 16 false).getD p false) ((List.replicate 16 false).getD p false)
    have hr : (List.replicate 16 false).getD p false = false := by
      rw [List.getD_eq_getElem?_getD, List.getElem?_replicate]
      split <;> rfl
    rw [hr]
    rcases i.one p hp with ⟨h1, f, h2, h3, h4⟩ | ⟨h1, h2⟩
    · exact Or.inl ⟨h1, rfl, rfl, f, h2, h2, by have := i.n; omega, by rw [key f h3, h4]; rfl⟩
    · exact Or.inr ⟨h1, Or.inr ⟨rfl, h2⟩, Or.inr ⟨rfl, h2⟩⟩
/-- A space that is new. -/
theorem In1.start (hok : HOk rs zs [List.replicate 16 (-1)]) (hn : zs.length = N) : In1 N rs zs (List.replicate 16 (-1)) (List.replicate 256 0) (List.replicate 16 false) 0 := by
  have hz : ∀ q, q < zs.length → zs.getD q 0 = 0 := fun q hq => by
    have h1 := hok.ref q hq
    simp only [cntP, Nat.add_zero] at h1
    rw [h1, List.count_eq_zero.2 (fun hm => by have := List.eq_of_mem_replicate hm; omega)]
    rfl
  refine ⟨hok, hn, ?_, ?_, by simp, fun p hp => Or.inr ⟨?_, ?_⟩⟩
  · unfold memP
    refine (List.ext_getElem (by rw [List.length_map, List.length_range, List.length_replicate]) (fun q h1 h2 => ?_)).symm
    simp only [List.getElem_map, List.getElem_range, List.getElem_replicate]
    unfold pgW
    have e : (List.replicate 16 (-1 : Int)).getD (q / 16) (-1) = -1 := by
      rw [List.getD_eq_getElem?_getD, List.getElem?_replicate]
      split <;> rfl
    rw [e, if_pos (by omega)]
  · unfold K0
    rw [List.countP_eq_zero]
    intro z hm
    obtain ⟨q, hq, rfl⟩ := List.getElem_of_mem hm
    have := hz q hq
    rw [getD_of hq] at this
    simp [this]
  · rw [List.getD_eq_getElem?_getD, List.getElem?_replicate]
    split <;> rfl
  · rw [List.getD_eq_getElem?_getD, List.getElem?_replicate]
    split <;> rfl
end
end Go.Proofs.Ytpmdlmgmfggioaa
