/- PLAIN: what space.Play computes, page by page. No condition. -/
import Derived.Test.YtpmdlmgmfggioaaYHv
namespace Go.Proofs.Ytpmdlmgmfggioaa
open Go
set_option linter.unusedVariables false

/-- How many frames are known. -/
def K0 (zs : List Int) : Nat := zs.countP (fun z => decide (0 < z))
theorem k0_set : ∀ (l : List Int) (i : Nat) (a : Int), i < l.length → K0 (l.set i a) + (if 0 < l.getD i 0 then 1 else 0) = K0 l + (if 0 < a then 1 else 0)
  | [], i, a, h => absurd h (Nat.not_lt_zero _)
  | x :: l, 0, a, h => by
    simp only [K0, List.set_cons_zero, List.countP_cons, List.getD_cons_zero, decide_eq_true_eq]; omega
  | x :: l, i + 1, a, h => by
    have ih := k0_set l i a (by simpa using h)
    simp only [K0, List.set_cons_succ, List.countP_cons, List.getD_cons_succ, decide_eq_true_eq] at ih ⊢; omega
theorem k0_le (l : List Int) : K0 l ≤ l.length := List.countP_le_length
theorem k0_new {zs : List Int} {k : Nat} (hk : k < zs.length) (h0 : zs.getD k 0 = 0) : K0 (zs.set k 1) = K0 zs + 1 := by
  have := k0_set zs k 1 hk
  rw [h0] at this
  simp at this
  omega
theorem k0_less {zs : List Int} {n : Nat} {z : Int} (hn : n < zs.length) (h0 : zs.getD n 0 = z) (h1 : 1 < z) : K0 (zs.set n (z - 1)) = K0 zs := by
  have := k0_set zs n (z - 1) hn
  rw [h0, if_pos (by omega), if_pos (by omega)] at this
  omega
theorem k0_full : ∀ {zs : List Int}, (∀ j, j < zs.length → 0 < zs.getD j 0) → K0 zs = zs.length
  | [], _ => rfl
  | x :: l, h => by
    have h0 := h 0 (by simp)
    have ih := k0_full (zs := l) (fun j hj => by have := h (j + 1) (by simpa using hj); simpa using this)
    simp only [List.getD_cons_zero] at h0
    unfold K0 at ih ⊢
    rw [List.countP_cons, ih]
    simp [h0]
theorem k0_room {zs : List Int} {k : Nat} (hk : k < zs.length) (h0 : zs.getD k 0 = 0) : K0 zs < zs.length := by
  have h1 := k0_new hk h0
  have h2 := k0_le (zs.set k 1)
  rw [List.length_set] at h2
  omega
/-- Two places with the same number: it is there twice. -/
theorem count_two {l : List Int} {p q : Nat} {a : Int} (hp : p < l.length) (hq : q < l.length) (hne : p ≠ q) (h1 : l.getD p 0 = a) (h2 : l.getD q 0 = a) : 2 ≤ l.count a := by
  have h := count_set l p (a + 1) a hp
  rw [if_pos h1, if_neg (by omega)] at h
  have hm : a ∈ l.set p (a + 1) := by
    have e2 : (l.set p (a + 1))[q]'(by simpa using hq) = a := by rw [List.getElem_set_ne hne, ← h2, getD_of hq]
    exact List.mem_of_getElem? (i := q) (by rw [List.getElem?_eq_getElem (by simpa using hq), e2])
  have := count_pos' hm
  omega
/-! ### The document's reckoning, as a function -/
def play1 (N : Nat) : List (Int × Int) → List Int → List Bool → Nat → Int ⊕ (List Int × List Bool × Nat)
  | [], a, h, k => .inr (a, h, k)
  | (x, v) :: l, a, h, k =>
    if x < 0 ∨ 255 < x then .inl 2
    else if h.getD (x.toNat / 16) false = true then play1 N l (a.set x.toNat v) h k
    else if k = N then .inl 7
    else play1 N l (a.set x.toNat v) (h.set (x.toNat / 16) true) (k + 1)
/-- Two spaces: their words, which pages both share, which are each one's own, and how many frames are known. -/
structure P2S where
  a : List Int
  b : List Int
  sh : List Bool
  oa : List Bool
  ob : List Bool
  k : Nat
def P2S.own (s : P2S) (who : Bool) : List Bool := if who then s.ob else s.oa
/-- A word is put; what is whose is said anew. -/
def P2S.put (s : P2S) (who : Bool) (x : Nat) (v : Int) (more : Bool) : P2S :=
  let p := x / 16
  let both := s.sh.getD p false
  { a := if who then s.a else s.a.set x v
    b := if who then s.b.set x v else s.b
    sh := if both then s.sh.set p false else s.sh
    oa := if both || (more && !who) then s.oa.set p true else s.oa
    ob := if both || (more && who) then s.ob.set p true else s.ob
    k := if more then s.k + 1 else s.k }
def P2S.wants (s : P2S) (who : Bool) (p : Nat) : Bool := s.sh.getD p false || !(s.own who).getD p false
def play2 (N : Nat) : List (Int × Int × Int) → P2S → Int ⊕ P2S
  | [], s => .inr s
  | (x, v, z) :: l, s =>
    if x < 0 ∨ 255 < x then .inl 2
    else if s.wants (decide (z ≠ 0)) (x.toNat / 16) = true then
      (if s.k = N then .inl 7 else play2 N l (s.put (decide (z ≠ 0)) x.toNat v true))
    else play2 N l (s.put (decide (z ≠ 0)) x.toNat v false)
/-! ### What the frames say of it -/
/-- One space: each page has a frame of its own or none. -/
structure In1 (N : Nat) (rs : List (List Int)) (zs pg a : List Int) (h : List Bool) (k : Nat) : Prop where
  ok : HOk rs zs [pg]
  n : zs.length = N
  mem : a = memP rs pg
  known : K0 zs = k
  hl : h.length = 16
  one : ∀ p, p < 16 → (h.getD p false = true ∧ ∃ f : Nat, pg.getD p (-1) = f ∧ f < zs.length ∧ zs.getD f 0 = 1) ∨ (h.getD p false = false ∧ pg.getD p (-1) = -1)
/-- A page of two spaces. -/
def Pg2 (zs : List Int) (x y : Int) (s oa ob : Bool) : Prop :=
  (s = true ∧ oa = false ∧ ob = false ∧ ∃ f : Nat, x = f ∧ y = f ∧ f < zs.length ∧ zs.getD f 0 = 2) ∨
  (s = false ∧ ((oa = true ∧ ∃ f : Nat, x = f ∧ f < zs.length ∧ zs.getD f 0 = 1) ∨ (oa = false ∧ x = -1)) ∧ ((ob = true ∧ ∃ f : Nat, y = f ∧ f < zs.length ∧ zs.getD f 0 = 1) ∨ (ob = false ∧ y = -1)))
/-- Two spaces. -/
structure In2 (N : Nat) (rs : List (List Int)) (zs pa pb : List Int) (s : P2S) : Prop where
  ok : HOk rs zs [pa, pb]
  n : zs.length = N
  ma : s.a = memP rs pa
  mb : s.b = memP rs pb
  known : K0 zs = s.k
  ls : s.sh.length = 16
  la : s.oa.length = 16
  lb : s.ob.length = 16
  pg : ∀ p, p < 16 → Pg2 zs (pa.getD p (-1)) (pb.getD p (-1)) (s.sh.getD p false) (s.oa.getD p false) (s.ob.getD p false)
/-- A page stays what it is if its frames are known as before. -/
theorem Pg2.to {zs zs' : List Int} {x y : Int} {s oa ob : Bool} (h : Pg2 zs x y s oa ob) (hl : zs'.length = zs.length) (hz : ∀ f : Nat, (x = f ∨ y = f) → zs'.getD f 0 = zs.getD f 0) : Pg2 zs' x y s oa ob := by
  rcases h with ⟨h1, h2, h3, f, h4, h5, h6, h7⟩ | ⟨h1, h2, h3⟩
  · exact Or.inl ⟨h1, h2, h3, f, h4, h5, by omega, (hz f (Or.inl h4)).trans h7⟩
  · refine Or.inr ⟨h1, ?_, ?_⟩
    · rcases h2 with ⟨k1, f, k2, k3, k4⟩ | k
      · exact Or.inl ⟨k1, f, k2, by omega, (hz f (Or.inl k2)).trans k4⟩
      · exact Or.inr k
    · rcases h3 with ⟨k1, f, k2, k3, k4⟩ | k
      · exact Or.inl ⟨k1, f, k2, by omega, (hz f (Or.inr k2)).trans k4⟩
      · exact Or.inr k
/-! ### One space, a store -/
section
variable {N : Nat} {rs rs' : List (List Int)} {zs zs' pg pg' a : List Int} {h : List Bool} {k p j : Nat} {v : Int}
theorem In1.len (i : In1 N rs zs pg a h k) : pg.length = 16 := i.ok.len pg (List.mem_cons_self ..)
theorem In1.yes (i : In1 N rs zs pg a h k) (hp : p < 16) (hj : j < 16) (hv : I64 v) (hr : StR rs zs pg p j v rs' zs' pg') (hh : h.getD p false = true) : In1 N rs' zs' pg' (a.set (16 * p + j) v) h k := by
  have hok := StR.ok i.ok hp hj hv hr
  rcases i.one p hp with ⟨_, f, h1, h2, h3⟩ | ⟨h1, _⟩
  · cases hr with
    | take q he hz hk => omega
    | one n he hn h0 => exact ⟨hok.1, i.n, by rw [hok.2.1, i.mem], i.known, i.hl, i.one⟩
    | copy n q z he hn h0 h4 hz hk =>
      have : f = n := by omega
      subst this
      omega
  · rw [h1] at hh; cases hh
theorem In1.new (i : In1 N rs zs pg a h k) (hp : p < 16) (hj : j < 16) (hv : I64 v) (hr : StR rs zs pg p j v rs' zs' pg') (hh : h.getD p false = false) : In1 N rs' zs' pg' (a.set (16 * p + j) v) (h.set p true) (k + 1) ∧ k ≠ N := by
  have hok := StR.ok i.ok hp hj hv hr
  have hl := i.len
  have hhl := i.hl
  rcases i.one p hp with ⟨h1, _⟩ | ⟨_, h1⟩
  · rw [h1] at hh; cases hh
  · cases hr with
    | one n he hn h0 => omega
    | copy n q z he hn h0 h4 hz hk => omega
    | take q he hz hk =>
      have hz0 := fz_zero hz hk
      refine ⟨⟨hok.1, by rw [hok.2.2.2.1]; exact i.n, by rw [hok.2.1, i.mem], by rw [k0_new hk hz0, i.known], by rw [List.length_set]; exact hhl, fun r hr => ?_⟩, by have := k0_room hk hz0; have := i.known; have := i.n; omega⟩
      by_cases e : r = p
      · subst e
        exact Or.inl ⟨by rw [getD_set_same (by omega)], q, getD_set_same (by omega) _ _, by rw [List.length_set]; exact hk, getD_set_same hk _ _⟩
      · rw [getD_set_ne e, getD_set_ne e]
        rcases i.one r hr with ⟨g1, f, g2, g3, g4⟩ | g
        · refine Or.inl ⟨g1, f, g2, by rw [List.length_set]; exact g3, ?_⟩
          have hne : f ≠ q := fun e => by subst e; omega
          rw [getD_set_ne hne]
          exact g4
        · exact Or.inr g
theorem In1.no (i : In1 N rs zs pg a h k) (hp : p < 16) (hr : NoR zs pg p) : h.getD p false = false ∧ k = N := by
  have hf := fz_full hr.2
  refine ⟨?_, ?_⟩
  · rcases i.one p hp with ⟨_, f, g2, g3, g4⟩ | g
    · rcases hr.1 with e | ⟨n, e, hn, h1⟩
      · omega
      · have : f = n := by omega
        subst this
        omega
    · exact g.1
  · have hz : ∀ q, q < zs.length → 0 < zs.getD q 0 := fun q hq => by
      have h1 := i.ok.ref q hq
      have h2 := hf q hq
      omega
    have := k0_full hz
    have := i.known
    have := i.n
    omega
end
end Go.Proofs.Ytpmdlmgmfggioaa
