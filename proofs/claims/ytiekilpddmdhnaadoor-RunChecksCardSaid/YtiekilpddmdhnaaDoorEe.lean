/- Events as bytes, whole: what Encode answers, in plain Lean; its length. No condition beyond those of each row. -/
import Derived.Test.YtiekilpddmdhnaaDoorNv
namespace Go.Proofs.YtiekilpddmdhnaaDoor
set_option linter.unusedVariables false

def dataE (x : Ev) : List UInt8 := if x.kind = 2 then runsE 0 0 x.data else if x.kind = 3 then sevens (zig (x.data.getD 0 0)) else []
def evE (a : Int) (x : Ev) : List UInt8 := sevens (4 * (x.at_ - a) + x.kind).toNat ++ dataE x
def evsE : Int → List Ev → List UInt8
  | _, [] => []
  | a, x :: l => evE a x ++ evsE x.at_ l
def lastAt : Int → List Ev → Int
  | a, [] => a
  | _, x :: l => lastAt x.at_ l
theorem evsE_app (l m : List Ev) : ∀ a, evsE a (l ++ m) = evsE a l ++ evsE (lastAt a l) m := by
  induction l with
  | nil => intro a; rfl
  | cons x l ih => intro a; rw [List.cons_append, evsE, evsE, lastAt, ih, List.append_assoc]
theorem lastAt_app (l : List Ev) (x : Ev) : ∀ a, lastAt a (l ++ [x]) = x.at_ := by
  induction l with
  | nil => intro a; rfl
  | cons y l ih => intro a; exact ih _
def payE (l : List Ev) : List UInt8 := sevens l.length ++ evsE 0 l
def encE (l : List Ev) : List UInt8 := payE l ++ sumB (payE l)

theorem sevens_le : ∀ (n k : Nat), k < 128 ^ (n + 1) → (sevens k).length ≤ n + 1 := by
  intro n
  induction n with
  | zero => intro k h; rw [sevens_small (by simpa using h)]; simp
  | succ n ih =>
    intro k h
    by_cases h1 : k < 128
    · rw [sevens_small h1]; simp
    · rw [sevens_more (by omega), List.length_cons]
      have := ih (k / 128) (by rw [Nat.pow_succ] at h; exact Nat.div_lt_of_lt_mul (by rw [Nat.mul_comm]; exact h))
      omega
theorem sevens_le10 {k : Nat} (h : k < 9223372036854775808) : (sevens k).length ≤ 10 := sevens_le 9 k (Nat.lt_of_lt_of_le h (by decide))

/-- Words that may be. -/
theorem runsE_le : ∀ (l : List Int) (last : Int) (run : Nat), Word last → (∀ z ∈ l, Word z) → run + l.length ≤ 1000000 → (runsE last run l).length ≤ 20 * l.length := by
  intro l
  induction l with
  | nil => intro last run _ _ _; simp [runsE]
  | cons x l ih =>
    intro last run hw hz hr
    have hx : Word x := hz x (by simp)
    have hl : ∀ z ∈ l, Word z := fun z h => hz z (List.mem_cons_of_mem _ h)
    have a1 : (sevens (run + 1)).length ≤ 10 := sevens_le10 (by simp at hr; omega)
    have a2 : (sevens (zig (x - last))).length ≤ 10 := sevens_le10 (by unfold Word at hx hw; unfold zig; split <;> omega)
    cases l with
    | nil => simp only [runsE, List.length_append, List.length_cons, List.length_nil]; omega
    | cons y l =>
      by_cases h : x = y
      · rw [runsE, if_pos h]
        have := ih last (run + 1) hw hl (by simp at hr ⊢; omega)
        simp only [List.length_cons] at this ⊢
        omega
      · rw [runsE, if_neg h]
        have := ih x 0 hx hl (by simp at hr ⊢; omega)
        simp only [List.length_append, List.length_cons] at this ⊢
        omega

/-- Events that may be, one behind the other. -/
theorem odd_word {z : Int} (h : oddB z = false) : Word z := by
  unfold oddB at h
  rw [Bool.not_eq_false', Bool.and_eq_true, decide_eq_true_iff, decide_eq_true_iff] at h
  exact h
theorem any_word {zs : List Int} (h : zs.any oddB = false) : ∀ z ∈ zs, Word z := by
  intro z hz
  rw [List.any_eq_false] at h
  exact odd_word (by simpa using h z hz)
theorem dataE_le {x : Ev} {p : Option Ev} (h : evF p x = 0) : (dataE x).length ≤ 320 := by
  obtain ⟨h1, h2, h3, h4, h5, h6⟩ := evF_zero h
  have hw := any_word h5
  unfold dataE
  split
  · rename_i hk
    unfold evW at h6
    rw [if_pos hk] at h6
    have := runsE_le x.data 0 0 (by unfold Word; omega) hw (by omega)
    omega
  · split
    · rename_i hk
      have hz : Word (x.data.getD 0 0) := by
        unfold evW at h6
        rw [if_neg (by omega), if_pos hk] at h6
        have hl : 0 < x.data.length := by omega
        have : x.data.getD 0 0 = x.data[0] := by simp [List.getD, hl]
        rw [this]
        exact hw _ (List.getElem_mem hl)
      have := sevens_le10 (k := zig (x.data.getD 0 0)) (by unfold Word at hz; unfold zig; split <;> omega)
      omega
    · simp

/-- Events that may be. -/
def EvOk (l : List Ev) : Prop := ∀ j, j < l.length → fAt l j = 0
theorem lastAt_take {l : List Ev} {k : Nat} (h : k + 1 ≤ l.length) : lastAt 0 (l.take (k + 1)) = l[k].at_ := by
  rw [List.take_add_one, List.getElem?_eq_getElem (by omega)]
  exact lastAt_app _ _ _
/-- What is known of event k. -/
theorem ev_at {l : List Ev} (h : EvOk l) {k : Nat} (hk : k < l.length) : 1 ≤ l[k].kind ∧ l[k].kind ≤ 3 ∧ 0 ≤ l[k].at_ ∧ l[k].at_ < 3000 ∧ l[k].data.any oddB = false ∧ (l[k].data.length : Int) = evW l[k].kind ∧ 0 ≤ lastAt 0 (l.take k) ∧ lastAt 0 (l.take k) ≤ l[k].at_ := by
  have e := h k hk
  unfold fAt at e
  rw [List.getElem?_eq_getElem hk] at e
  simp only at e
  obtain ⟨h1, h2, h3, h4, h5, h6⟩ := evF_zero e
  refine ⟨h1, h2, h3, h4, h5, h6, ?_⟩
  cases k with
  | zero => exact ⟨by simp [lastAt], by simpa [lastAt] using h3⟩
  | succ m =>
    have hm : m < l.length := by omega
    have r := fAt_range hm (h m hm)
    rw [lastAt_take (by omega)]
    refine ⟨r.2.2.1, ?_⟩
    rw [if_neg (by omega), Nat.add_sub_cancel, List.getElem?_eq_getElem hm, evFp (by omega) (by rintro (h | h | h); omega; omega; rw [h5] at h; cases h) h6] at e
    simp only at e
    split at e
    · omega
    · omega
theorem evE_le {l : List Ev} (h : EvOk l) {k : Nat} (hk : k < l.length) : (evE (lastAt 0 (l.take k)) l[k]).length ≤ 330 := by
  obtain ⟨h1, h2, h3, h4, h5, h6, h7, h8⟩ := ev_at h hk
  have e := h k hk
  unfold fAt at e
  rw [List.getElem?_eq_getElem hk] at e
  have a1 := dataE_le e
  have a2 : (sevens (4 * (l[k].at_ - lastAt 0 (l.take k)) + l[k].kind).toNat).length ≤ 10 := sevens_le10 (by omega)
  unfold evE
  rw [List.length_append]
  omega
theorem evsE_step {l : List Ev} {k : Nat} (hk : k < l.length) : evsE 0 (l.take (k + 1)) = evsE 0 (l.take k) ++ evE (lastAt 0 (l.take k)) l[k] := by
  rw [List.take_add_one, List.getElem?_eq_getElem hk, show (some l[k]).toList = [l[k]] from rfl, evsE_app]
  simp [evsE]
theorem evsE_le {l : List Ev} (h : EvOk l) : ∀ k, k ≤ l.length → (evsE 0 (l.take k)).length ≤ 330 * k := by
  intro k
  induction k with
  | zero => intro _; simp [evsE]
  | succ k ih =>
    intro hk
    rw [evsE_step (by omega), List.length_append]
    have := ih (by omega)
    have := evE_le h (show k < l.length by omega)
    omega
theorem payE_le {l : List Ev} (h : EvOk l) (hl : l.length ≤ 1000) : (payE l).length ≤ 400000 := by
  have h1 := evsE_le h l.length (Nat.le_refl _)
  rw [List.take_length] at h1
  have h2 : (sevens l.length).length ≤ 10 := sevens_le10 (by omega)
  unfold payE
  rw [List.length_append]
  omega

/-- What is left to write of an event's words, from a place on. -/
def tailE (kind last : Int) (rest : List Int) : List UInt8 :=
  if kind = 2 then runsE last 0 rest else if kind = 3 then (match rest with | [] => [] | x :: _ => sevens (zig (x - last))) else []
theorem dataE_tail {x : Ev} (h : (x.data.length : Int) = evW x.kind) : dataE x = tailE x.kind 0 x.data := by
  unfold dataE tailE
  split
  · rfl
  · split
    · rename_i h2 h3
      unfold evW at h
      rw [if_neg h2, if_pos h3] at h
      obtain ⟨a, e⟩ := len1 (show x.data.length = 1 by omega)
      rw [e]
      simp
    · rfl
/-- Where a run ends. -/
theorem drop_run {d : List Int} {i k : Nat} {x : Int} (hi : i < d.length) (hx : d[i] = x) (hik : i < k) (hk : k ≤ d.length) (h : ∀ j (hj : j < d.length), i ≤ j → j < k → d[j] = x) : d.drop i = List.replicate (k - i - 1 + 1) x ++ d.drop k := by
  apply List.ext_getElem
  · simp; omega
  · intro j h1 h2
    rw [List.getElem_append]
    split
    · rename_i hj
      simp only [List.length_replicate] at hj
      rw [List.getElem_replicate, List.getElem_drop]
      exact h _ _ (by omega) (by omega)
    · rename_i hj
      simp only [List.length_replicate] at hj ⊢
      rw [List.getElem_drop, List.getElem_drop]
      congr 1
      omega
theorem tail_run {kind last x : Int} {m : Nat} {rest : List Int} (h : rest.head? ≠ some x) (hk : kind = 3 → m = 0 ∧ rest = []) (h1 : kind = 2 ∨ kind = 3) : tailE kind last (List.replicate (m + 1) x ++ rest) = (if kind = 2 then sevens (m + 1) else []) ++ (sevens (zig (x - last)) ++ tailE kind x rest) := by
  unfold tailE
  rcases h1 with e | e
  · rw [if_pos e, if_pos e, if_pos e, runsE_run last x rest h m 0]
    simp
  · obtain ⟨rfl, rfl⟩ := hk e
    subst e
    simp
end Go.Proofs.YtiekilpddmdhnaaDoor
