/- PLAIN: with 32 frames a play of words within the memory is never refused. No condition. -/
import Derived.Test.YtpmdlmgmfggioaaYPla
namespace Go.Proofs.Ytpmdlmgmfggioaa
open Go
set_option linter.unusedVariables false
set_option linter.unusedSimpArgs false

theorem i64_setQ {xs : List Int} (h : ∀ z ∈ xs, I64 z) {v : Int} (hv : I64 v) (k : Nat) : ∀ z ∈ xs.set k v, I64 z := fun z hz => (List.mem_or_eq_of_mem_set hz).elim (h z) (fun e => e ▸ hv)
/-- A sum over pages. -/
def SumP (f : Nat → Nat) : Nat → Nat
  | 0 => 0
  | n + 1 => SumP f n + f n
theorem sump_congr {f g : Nat → Nat} : ∀ {n : Nat}, (∀ q, q < n → g q = f q) → SumP g n = SumP f n
  | 0, _ => rfl
  | n + 1, h => by unfold SumP; rw [sump_congr (fun q hq => h q (by omega)), h n (by omega)]
theorem sump_up {f g : Nat → Nat} {p : Nat} : ∀ {n : Nat}, p < n → (∀ q, q ≠ p → g q = f q) → g p = f p + 1 → SumP g n = SumP f n + 1
  | 0, h, _, _ => absurd h (Nat.not_lt_zero _)
  | n + 1, h, h1, h2 => by
    unfold SumP
    by_cases e : p = n
    · subst e
      rw [sump_congr (fun q hq => h1 q (by omega)), h2]; omega
    · rw [sump_up (by omega) h1 h2, h1 n (fun q => e q.symm)]; omega
theorem sump_le {f : Nat → Nat} {c : Nat} : ∀ {n : Nat}, (∀ q, f q ≤ c) → SumP f n ≤ n * c
  | 0, _ => by simp [SumP]
  | n + 1, h => by unfold SumP; have := sump_le (n := n) h; have := h n; rw [Nat.add_mul]; omega
def fr1 (h : List Bool) (q : Nat) : Nat := if h.getD q false = true then 1 else 0
def fr2 (s : P2S) (q : Nat) : Nat := if s.sh.getD q false = true then 1 else (if s.oa.getD q false = true then 1 else 0) + (if s.ob.getD q false = true then 1 else 0)
def putL (a : List Int) (ps : List (Int × Int)) : List Int := ps.foldl (fun a x => a.set x.1.toNat x.2) a
def putA (a : List Int) (ws : List (Int × Int × Int)) : List Int := ws.foldl (fun a x => if x.2.2 = 0 then a.set x.1.toNat x.2.1 else a) a
def putB (a : List Int) (ws : List (Int × Int × Int)) : List Int := ws.foldl (fun a x => if x.2.2 = 0 then a else a.set x.1.toNat x.2.1) a
theorem play1_yes : ∀ (ps : List (Int × Int)) (a : List Int) (h : List Bool) (k : Nat), (∀ x ∈ ps, 0 ≤ x.1 ∧ x.1 ≤ 255) → h.length = 16 → k = SumP (fr1 h) 16 → ∃ h' k', play1 32 ps a h k = .inr (putL a ps, h', k') ∧ h'.length = 16 ∧ k' = SumP (fr1 h') 16
  | [], a, h, k, _, hl, hk => ⟨h, k, rfl, hl, hk⟩
  | (x, v) :: ps, a, h, k, hx, hl, hk => by
    have h0 := hx (x, v) (List.mem_cons_self ..)
    simp only at h0
    have hr : ∀ x ∈ ps, 0 ≤ x.1 ∧ x.1 ≤ 255 := fun y hy => hx y (List.mem_cons_of_mem _ hy)
    rw [play1, if_neg (by omega)]
    have hle : SumP (fr1 h) 16 ≤ 16 * 1 := sump_le (fun q => by unfold fr1; split <;> omega)
    by_cases e : h.getD (x.toNat / 16) false = true
    · rw [if_pos e]
      exact play1_yes ps (a.set x.toNat v) h k hr hl hk
    · rw [if_neg e, if_neg (by omega)]
      refine play1_yes ps (a.set x.toNat v) (h.set (x.toNat / 16) true) (k + 1) hr (by rw [List.length_set]; exact hl) ?_
      rw [hk]
      refine (sump_up (p := x.toNat / 16) (by omega) (fun q hq => ?_) ?_).symm
      · unfold fr1; rw [getD_set_ne hq]
      · unfold fr1; rw [getD_set_same (by omega), if_pos rfl, if_neg e]
theorem p2_put_ls (s : P2S) (who : Bool) (x : Nat) (v : Int) (m : Bool) : (s.put who x v m).sh.length = s.sh.length ∧ (s.put who x v m).oa.length = s.oa.length ∧ (s.put who x v m).ob.length = s.ob.length := by
  unfold P2S.put
  simp only
  refine ⟨?_, ?_, ?_⟩ <;> split <;> simp
theorem fr2_le (s : P2S) (q : Nat) : fr2 s q ≤ 2 := by unfold fr2; split <;> (try split) <;> (try split) <;> omega
theorem p2_no (s : P2S) (who : Bool) (x : Nat) (v : Int) (h : s.wants who (x / 16) = false) (q : Nat) : fr2 (s.put who x v false) q = fr2 s q := by
  unfold P2S.wants at h
  rw [Bool.or_eq_false_iff] at h
  unfold fr2 P2S.put
  simp only [h.1, Bool.false_eq_true, if_false, Bool.false_and, Bool.or_false, Bool.or_self]
theorem p2_more (s : P2S) (who : Bool) (x : Nat) (v : Int) (h : s.wants who (x / 16) = true) (hx : x / 16 < 16) (l1 : s.sh.length = 16) (l2 : s.oa.length = 16) (l3 : s.ob.length = 16) : SumP (fr2 (s.put who x v true)) 16 = SumP (fr2 s) 16 + 1 ∧ fr2 s (x / 16) ≤ 1 := by
  have key : fr2 (s.put who x v true) (x / 16) = fr2 s (x / 16) + 1 := by
    unfold P2S.wants P2S.own at h
    unfold fr2 P2S.put
    cases hs : s.sh.getD (x / 16) false with
    | true =>
      simp only [hs, if_true, Bool.true_or]
      rw [getD_set_same (by omega), getD_set_same (by omega), getD_set_same (by omega)]
      simp
    | false =>
      rw [hs] at h
      cases who with
      | true =>
        simp only [Bool.false_or, if_true, Bool.not_eq_true'] at h
        simp only [hs, Bool.false_eq_true, if_false, Bool.false_or, Bool.not_true, Bool.and_false, Bool.and_true, if_true]
        rw [getD_set_same (by omega), if_pos rfl, if_neg (show ¬ s.ob.getD (x / 16) false = true by rw [h]; decide)]
      | false =>
        simp only [Bool.false_or, Bool.false_eq_true, if_false, Bool.not_eq_true'] at h
        simp only [hs, Bool.false_eq_true, if_false, Bool.false_or, Bool.not_false, Bool.and_true, Bool.and_false, if_true]
        rw [getD_set_same (by omega), if_pos rfl, if_neg (show ¬ s.oa.getD (x / 16) false = true by rw [h]; decide)]
        omega
  refine ⟨sump_up hx (fun q hq => ?_) key, by have := fr2_le (s.put who x v true) (x / 16); omega⟩
  unfold fr2 P2S.put
  simp only
  have e1 : ∀ (b : Bool) (l : List Bool) (y : Bool), (if b = true then l.set (x / 16) y else l).getD q false = l.getD q false := fun b l y => by
    cases b
    · rfl
    · exact getD_set_ne hq _ _
  rw [e1, e1, e1]
theorem play2_yes : ∀ (ws : List (Int × Int × Int)) (s : P2S), (∀ x ∈ ws, 0 ≤ x.1 ∧ x.1 ≤ 255) → s.sh.length = 16 → s.oa.length = 16 → s.ob.length = 16 → s.k = SumP (fr2 s) 16 → ∃ s', play2 32 ws s = .inr s' ∧ s'.a = putA s.a ws ∧ s'.b = putB s.b ws ∧ s'.k ≤ 32
  | [], s, _, _, _, _, hk => ⟨s, rfl, rfl, rfl, by have := sump_le (n := 16) (fr2_le s); omega⟩
  | (x, v, z) :: ws, s, hx, l1, l2, l3, hk => by
    have h0 := hx (x, v, z) (List.mem_cons_self ..)
    simp only at h0
    have hr : ∀ x ∈ ws, 0 ≤ x.1 ∧ x.1 ≤ 255 := fun y hy => hx y (List.mem_cons_of_mem _ hy)
    have hp : x.toNat / 16 < 16 := by omega
    have key : ∀ m, s.wants (decide (z ≠ 0)) (x.toNat / 16) = m → (s.put (decide (z ≠ 0)) x.toNat v m).k = SumP (fr2 (s.put (decide (z ≠ 0)) x.toNat v m)) 16 → ∃ s', play2 32 ws (s.put (decide (z ≠ 0)) x.toNat v m) = .inr s' ∧ s'.a = putA s.a ((x, v, z) :: ws) ∧ s'.b = putB s.b ((x, v, z) :: ws) ∧ s'.k ≤ 32 := by
      intro m _ hm
      obtain ⟨e1, e2, e3⟩ := p2_put_ls s (decide (z ≠ 0)) x.toNat v m
      obtain ⟨s', g1, g2, g3, g4⟩ := play2_yes ws (s.put (decide (z ≠ 0)) x.toNat v m) hr (by omega) (by omega) (by omega) hm
      refine ⟨s', g1, ?_, ?_, g4⟩
      · rw [g2]
        by_cases hz : z = 0 <;> simp [putA, P2S.put, hz]
      · rw [g3]
        by_cases hz : z = 0 <;> simp [putB, P2S.put, hz]
    rw [play2, if_neg (by omega)]
    cases hw : s.wants (decide (z ≠ 0)) (x.toNat / 16) with
    | true =>
      have hm := p2_more s (decide (z ≠ 0)) x.toNat v hw hp l1 l2 l3
      rw [if_pos rfl, if_neg (show ¬ s.k = 32 by have := sump_le (n := 16) (fr2_le (s.put (decide (z ≠ 0)) x.toNat v true)); omega)]
      exact key true hw (by rw [hm.1, ← hk]; rfl)
    | false =>
      rw [if_neg (by decide)]
      exact key false hw (by rw [sump_congr (fun q _ => p2_no s _ _ v hw q), ← hk]; rfl)
/-- A play of words within the memory, with two frames a page. -/
theorem playO_yes (first : List (Int × Int)) (writes : List (Int × Int × Int)) (h1 : ∀ x ∈ first, 0 ≤ x.1 ∧ x.1 ≤ 255) (h2 : ∀ x ∈ writes, 0 ≤ x.1 ∧ x.1 ≤ 255) : ∃ k : Nat, k ≤ 32 ∧ PlayO 32 first writes = (putA (putL (List.replicate 256 0) first) writes, putB (putL (List.replicate 256 0) first) writes, (k : Int), 0) := by
  have r0 : ∀ q, (List.replicate 16 false).getD q false = false := fun q => by rw [List.getD_eq_getElem?_getD, List.getElem?_replicate]; split <;> rfl
  have z0 : ∀ n, SumP (fr1 (List.replicate 16 false)) n = 0 := fun n => by
    induction n with
    | zero => rfl
    | succ n ih => show SumP _ n + fr1 _ n = 0; rw [ih]; unfold fr1; rw [r0]; rfl
  obtain ⟨h, k, e1, e2, e3⟩ := play1_yes first (List.replicate 256 0) (List.replicate 16 false) 0 h1 (by simp) (z0 16).symm
  obtain ⟨s, f1, f2, f3, f4⟩ := play2_yes writes { a := putL (List.replicate 256 0) first, b := putL (List.replicate 256 0) first, sh := h, oa := List.replicate 16 false, ob := List.replicate 16 false, k := k } h2 e2 (by simp) (by simp) (by
    show k = _
    rw [e3]
    refine (sump_congr (fun q _ => ?_)).symm
    unfold fr2 fr1
    simp only [r0]
    simp)
  refine ⟨s.k, f4, ?_⟩
  unfold PlayO
  rw [if_neg (by omega), show (32 : Int).toNat = 32 from rfl, e1]
  simp only
  rw [f1]
  simp only
  rw [f2, f3]
theorem i64_putL {a : List Int} {ps : List (Int × Int)} (ha : ∀ z ∈ a, I64 z) (hp : ∀ x ∈ ps, I64 x.2) : ∀ z ∈ putL a ps, I64 z := by
  induction ps generalizing a with
  | nil => exact ha
  | cons x ps ih => exact ih (i64_setQ ha (hp x (List.mem_cons_self ..)) _) (fun y hy => hp y (List.mem_cons_of_mem _ hy))
theorem i64_putA {a : List Int} {ps : List (Int × Int × Int)} (ha : ∀ z ∈ a, I64 z) (hp : ∀ x ∈ ps, I64 x.2.1) : ∀ z ∈ putA a ps, I64 z := by
  induction ps generalizing a with
  | nil => exact ha
  | cons x ps ih =>
    refine ih (a := if x.2.2 = 0 then a.set x.1.toNat x.2.1 else a) ?_ (fun y hy => hp y (List.mem_cons_of_mem _ hy))
    split
    · exact i64_setQ ha (hp x (List.mem_cons_self ..)) _
    · exact ha
theorem i64_putB {a : List Int} {ps : List (Int × Int × Int)} (ha : ∀ z ∈ a, I64 z) (hp : ∀ x ∈ ps, I64 x.2.1) : ∀ z ∈ putB a ps, I64 z := by
  induction ps generalizing a with
  | nil => exact ha
  | cons x ps ih =>
    refine ih (a := if x.2.2 = 0 then a else a.set x.1.toNat x.2.1) ?_ (fun y hy => hp y (List.mem_cons_of_mem _ hy))
    split
    · exact ha
    · exact i64_setQ ha (hp x (List.mem_cons_self ..)) _
theorem putL_len (a : List Int) (ps : List (Int × Int)) : (putL a ps).length = a.length := by
  induction ps generalizing a with
  | nil => rfl
  | cons x ps ih => exact (ih (a.set x.1.toNat x.2)).trans (by simp)
theorem putA_len (a : List Int) (ps : List (Int × Int × Int)) : (putA a ps).length = a.length := by
  induction ps generalizing a with
  | nil => rfl
  | cons x ps ih => exact (ih (if x.2.2 = 0 then a.set x.1.toNat x.2.1 else a)).trans (by split <;> simp)
theorem putB_len (a : List Int) (ps : List (Int × Int × Int)) : (putB a ps).length = a.length := by
  induction ps generalizing a with
  | nil => rfl
  | cons x ps ih => exact (ih (if x.2.2 = 0 then a else a.set x.1.toNat x.2.1)).trans (by split <;> simp)
theorem putL_snoc (a : List Int) (ps : List (Int × Int)) (x : Int × Int) : putL a (ps ++ [x]) = (putL a ps).set x.1.toNat x.2 := by unfold putL; rw [List.foldl_append]; rfl
theorem putA_snoc (a : List Int) (ps : List (Int × Int × Int)) (x : Int × Int × Int) : putA a (ps ++ [x]) = if x.2.2 = 0 then (putA a ps).set x.1.toNat x.2.1 else putA a ps := by unfold putA; rw [List.foldl_append]; rfl
theorem putB_snoc (a : List Int) (ps : List (Int × Int × Int)) (x : Int × Int × Int) : putB a (ps ++ [x]) = if x.2.2 = 0 then putB a ps else (putB a ps).set x.1.toNat x.2.1 := by unfold putB; rw [List.foldl_append]; rfl
/-- Elements of n cells in a row. -/
theorem flat_get {α : Type} {n : Nat} (f : α → List Value) (hf : ∀ x, (f x).length = n) : ∀ (l : List α) (j k : Nat) (hj : j < l.length) (hk : k < n), (l.flatMap f)[j * n + k]? = (f l[j])[k]?
  | [], j, k, hj, _ => absurd hj (Nat.not_lt_zero _)
  | x :: l, 0, k, hj, hk => by
    rw [List.flatMap_cons, Nat.zero_mul, Nat.zero_add, List.getElem?_append_left (by rw [hf]; exact hk)]
    rfl
  | x :: l, j + 1, k, hj, hk => by
    rw [List.flatMap_cons, List.getElem?_append_right (by rw [hf, Nat.add_mul]; omega), show (j + 1) * n + k - (f x).length = j * n + k by rw [hf, Nat.add_mul]; omega, flat_get f hf l j k (by simpa using hj) hk]
    rfl
theorem slN_of_owns {α : Type} {w : World} {base n m : Nat} {e : TypeId} {v : Value} {xs : List α} {R : List Value → α → Prop} (f : α → List Value) (hf : ∀ x, (f x).length = n) (h : w.ownsRow base e n v xs.length (xs.flatMap f)) (hn : 0 < n) (hm : xs.length ≤ m) (hR : ∀ x ∈ xs, R (f x) x) : SlN n m w.heap.size w R v xs := by
  obtain ⟨h0, h1⟩ := id h
  rcases h1 with ⟨rfl, hz⟩ | ⟨g, cap, cur, rfl, hg, hh, hnc, hc, hs, ht⟩
  · exact ⟨none, 0, by rw [hz], hm, by omega, fun i hi => by omega⟩
  · refine ⟨some ⟨g, 0, none⟩, cap, rfl, hm, hnc, fun i hi => ⟨g, 0, f xs[i], rfl, (h.lt _ rfl).2, hf _, fun j hj => ?_, hR _ (List.getElem_mem hi)⟩⟩
    have hj' : j < n := by rw [← hf xs[i]]; exact hj
    have hlt : i * n + j < xs.length * n := by
      have : (i + 1) * n ≤ xs.length * n := Nat.mul_le_mul_right _ hi
      rw [Nat.add_mul] at this; omega
    rw [Nat.zero_add, h.cellAt (i * n + j) (by first | omega | (rw [Nat.mul_comm n]; omega)), flat_get f hf xs i j hi hj', List.getElem?_eq_getElem hj]
end Go.Proofs.Ytpmdlmgmfggioaa
