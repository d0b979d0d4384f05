/- Several texts joined, each with its own heading in the notes: Contracts of slices. Events as bytes, in plain Lean: how they are written, how they are read, and that both go together. The readings of slices of numbers, of raw things, tapes, sessions, worlds. No condition beyond those of each row. -/
import Derived.Test.YtilcnlmapifdgaaDoorYMem
import Derived.Lib.Walk
import Derived.Shelf.Abstract
import Derived.Deep.LoopGhost
import Derived.Deep.Draws
namespace Go.Proofs.YtilcnlmapifdgaaDoor
open Go Go.RowKit Go.ChangeShapes Go.WideShapes Go.Deep
set_option linter.unusedVariables false

/-- What a predicate that is handed over answers. -/
def PredIs (g : Nat) (p : Int → Bool) : Prop := ∀ (z : Int) (W : World), -9223372036854775808 ≤ z → z ≤ 9223372036854775807 → Calls Tryd.prog g #[.int .i64 z] W fun e w' => e = .returned (.bool (p z)) ∧ W = w'

theorem any_hit {p : Int → Bool} {zs : List Int} {k : Nat} (hk : k < zs.length) (h : p zs[k] = true) : zs.any p = true := List.any_eq_true.2 ⟨_, List.getElem_mem hk, h⟩
theorem any_miss {p : Int → Bool} {zs : List Int} (h : ∀ j, j < zs.length → p (zs.getD j 0) = false) : zs.any p = false := by
  rw [List.any_eq_false]
  intro x hx
  obtain ⟨i, hi, rfl⟩ := List.mem_iff_getElem.1 hx
  have := h i hi
  simp [List.getD, hi] at this
  simp [this]
theorem miss_grow {p : Int → Bool} {zs : List Int} {k : Nat} (h : ∀ j, j < k → p (zs.getD j 0) = false) (hk : k < zs.length) (h1 : p zs[k] = false) : ∀ j, j < k + 1 → p (zs.getD j 0) = false := by
  intro j hj
  rcases Nat.lt_succ_iff_lt_or_eq.1 hj with hj | rfl
  · exact h j hj
  · simpa [List.getD, hk] using h1

set_option maxHeartbeats 1000000 in
theorem idxF_any (g : Nat) (p : Int → Bool) (eg : ∀ args w, (callFunc g args).run Tryd.prog w = .ok (.enter g args) w) (hp : PredIs g p) (v : Value) (zs : List Int) (w : World) (hf : Ints w.heap.size w v zs) :
    Calls Tryd.prog 87 #[v, .func (.func g) #[] #[]] w fun e w' => (∃ i : Int, e = .returned (.int .i64 i) ∧ -1 ≤ i ∧ i ≤ 17592186043904 ∧ ((0 ≤ i) = (zs.any p = true))) ∧ ∃ n, w' = w.drewN n := by
  obtain ⟨a, c, rfl, hl, _, hc⟩ := hf
  have Hc := Lib.hid hc
  have HP := Lib.hid hp
  clear hc hp
  go_enter Tryd.func87, Tryd.ntmps87
  go_wp2
  go_loopg [5, 8] zs.length (fun gg _ s8 wr => ∃ k q : Nat, k ≤ zs.length ∧ zs.length - k ≤ gg ∧ s8 = .int .i64 k ∧ wr = w.drewN q ∧ Hid (∀ j, j < k → p (zs.getD j 0) = false))
  case atStart => exact ⟨0, 0, Nat.zero_le _, by omega, rfl, rfl, Lib.hid fun j hj => absurd hj (Nat.not_lt_zero _)⟩
  case round =>
    obtain ⟨k, q, hk, hg, rfl, rfl, A⟩ := hrel
    by_cases hlt : k < zs.length
    · obtain ⟨b, off, vi, ha, hb, hcell, hvi, hz⟩ := Hc.out k hlt
      subst ha hvi
      have HG := Lib.hid (miss_grow A.out hlt)
      have HH := Lib.hid (any_hit (p := p) hlt)
      obtain ⟨z1, z2⟩ := hz
      generalize zs[k] = z at *
      have hcall := Lib.hid (fun W => HP.out z W z1 z2)
      cases hq : p z with
      | true =>
        rw [hq] at hcall
        have HQ := Lib.hid hq
        clear hq
        go_wp2_with (go_at_fn g; refine (hcall.out _).mono ?_; rintro e w' ⟨rfl, rfl⟩)
        go_ret
        exact ⟨⟨k, rfl, by omega, by omega, by simp [HH.out HQ.out]⟩, _, rfl⟩
      | false =>
        rw [hq] at hcall
        have HQ := Lib.hid hq
        clear hq
        go_wp2_with (go_at_fn g; refine (hcall.out _).mono ?_; rintro e w' ⟨rfl, rfl⟩)
        go_roundg (zs.length - (k + 1))
        case measure => omega
        case rel => exact ⟨k + 1, _, by omega, by omega, by go_num, rfl, Lib.hid (HG.out HQ.out)⟩
    · have hm := any_miss (p := p) (zs := zs) (fun j hj => A.out j (by omega))
      have HM := Lib.hid hm
      clear hm
      go_wp2
      go_ret
      exact ⟨⟨-1, rfl, by omega, by omega, by simp [HM.out]⟩, q, rfl⟩

theorem containsF_any (g : Nat) (p : Int → Bool) (eg : ∀ args w, (callFunc g args).run Tryd.prog w = .ok (.enter g args) w) (hp : PredIs g p) (v : Value) (zs : List Int) (w : World) (hf : Ints w.heap.size w v zs) :
    Calls Tryd.prog 54 #[v, .func (.func g) #[] #[]] w fun e w' => e = .returned (.bool (zs.any p)) ∧ ∃ n, w' = w.drewN n := by
  have HI := Lib.hid (idxF_any g p eg hp v zs w hf)
  clear hf hp eg
  go_enter Tryd.func54, Tryd.ntmps54
  go_wp2_with fail
  refine HI.out.mono ?_
  rintro e w' ⟨⟨i, rfl, h1, h2, h3⟩, n, rfl⟩
  have H3 := Lib.hid h3
  clear h3
  go_wp2
  go_ret
  refine ⟨ret_bool ?_, n, rfl⟩
  rw [Bool.eq_iff_iff, decide_eq_true_iff, H3.out]

/-- A number that is no word. -/
def oddB (z : Int) : Bool := !(decide (-1099511627776 ≤ z) && decide (z ≤ 1099511627776))
theorem odd_true {z : Int} (h : z < -1099511627776 ∨ 1099511627776 < z) : oddB z = true := by
  unfold oddB
  rw [Bool.not_eq_true', Bool.and_eq_false_iff, decide_eq_false_iff_not, decide_eq_false_iff_not]
  omega
theorem odd_false {z : Int} (h : -1099511627776 ≤ z ∧ z ≤ 1099511627776) : oddB z = false := by simp [oddB, h]

theorem cword_or (z : Int) (w : World) : Calls Tryd.prog 53 #[.int .i64 z] w fun e w' => e = .returned (.bool (!oddB z)) ∧ w = w' := by
  by_cases h1 : -1099511627776 ≤ z
  · by_cases h2 : z ≤ 1099511627776
    · rw [odd_false ⟨h1, h2⟩]
      go_enter Tryd.func53, Tryd.ntmps53
      go_wp2
      go_ret
      simp_all
    · rw [odd_true (by omega)]
      go_enter Tryd.func53, Tryd.ntmps53
      go_wp2
      go_ret
      simp_all
  · rw [odd_true (by omega)]
    go_enter Tryd.func53, Tryd.ntmps53
    go_wp2
    go_ret
    simp_all
end Go.Proofs.YtilcnlmapifdgaaDoor
namespace Go.Proofs.YtilcnlmapifdgaaDoor
set_option linter.unusedVariables false

/-- An event. -/
structure Ev where
  at_ : Int
  kind : Int
  data : List Int

/-- A number that is not below 0, in sevens of bits. -/
def sevens (n : Nat) : List UInt8 := if n < 128 then [UInt8.ofNat n] else UInt8.ofNat (128 + n % 128) :: sevens (n / 128)
  termination_by n
  decreasing_by omega
theorem sevens_small {n : Nat} (h : n < 128) : sevens n = [UInt8.ofNat n] := by rw [sevens, if_pos h]
theorem sevens_more {n : Nat} (h : 128 ≤ n) : sevens n = UInt8.ofNat (128 + n % 128) :: sevens (n / 128) := by rw [sevens, if_neg (by omega)]
theorem u8_nat {n : Nat} (h : n < 256) : (UInt8.ofNat n).toNat = n := by rw [UInt8.toNat_ofNat']; omega
theorem u8_lt (c : UInt8) : c.toNat < 256 := c.toNat_lt

/-- Any number. -/
def zig (z : Int) : Nat := if z < 0 then (-2 * z - 1).toNat else (2 * z).toNat
def zag (n : Nat) : Int := if n % 2 = 1 then -((n + 1) / 2 : Nat) else ((n / 2 : Nat) : Int)
theorem zag_zig (z : Int) : zag (zig z) = z := by
  unfold zag zig
  split <;> split <;> omega
theorem zig_zag (n : Nat) : zig (zag n) = n := by
  unfold zag zig
  split <;> split <;> omega

/-- The next number: what is wrong, the number, what is left. -/
def numP (i n : Nat) : List UInt8 → Int × Nat × List UInt8
  | [] => (5, 0, [])
  | c :: bs => if (0 < i ∧ c.toNat = 0) ∨ i = 7 then (4, 0, bs) else if c.toNat < 128 then (0, n + c.toNat % 128 * 128 ^ i, bs) else numP (i + 1) (n + c.toNat % 128 * 128 ^ i) bs

theorem numP_bad {i n : Nat} {c : UInt8} {bs : List UInt8} (h : (0 < i ∧ c.toNat = 0) ∨ i = 7) : numP i n (c :: bs) = (4, 0, bs) := by rw [numP, if_pos h]
theorem numP_end {i n : Nat} {c : UInt8} {bs : List UInt8} (h : ¬ ((0 < i ∧ c.toNat = 0) ∨ i = 7)) (h1 : c.toNat < 128) : numP i n (c :: bs) = (0, n + c.toNat % 128 * 128 ^ i, bs) := by rw [numP, if_neg h, if_pos h1]
theorem numP_more {i n : Nat} {c : UInt8} {bs : List UInt8} (h : ¬ ((0 < i ∧ c.toNat = 0) ∨ i = 7)) (h1 : ¬ c.toNat < 128) : numP i n (c :: bs) = numP (i + 1) (n + c.toNat % 128 * 128 ^ i) bs := by rw [numP, if_neg h, if_neg h1]

theorem numP_sevens (m : Nat) : ∀ (i n : Nat) (r : List UInt8), m < 128 ^ (7 - i) → i ≤ 6 → (i = 0 ∨ 0 < m) → numP i n (sevens m ++ r) = (0, n + m * 128 ^ i, r) := by
  induction m using Nat.strongRecOn with
  | _ m ih =>
    intro i n r hm hi h0
    by_cases h : m < 128
    · have e := u8_nat (show m < 256 by omega)
      rw [sevens_small h, List.singleton_append, numP_end (by rw [e]; omega) (by rw [e]; exact h), e, Nat.mod_eq_of_lt h]
    · have e := u8_nat (show 128 + m % 128 < 256 by omega)
      have hi' : i ≠ 6 := by
        intro e6
        subst e6
        simp at hm
        omega
      have hlt : m / 128 < 128 ^ (7 - (i + 1)) := by
        have e1 : 7 - i = 7 - (i + 1) + 1 := by omega
        rw [e1, Nat.pow_succ] at hm
        exact Nat.div_lt_of_lt_mul (by rw [Nat.mul_comm]; exact hm)
      rw [sevens_more (by omega), List.cons_append, numP_more (by rw [e]; omega) (by rw [e]; omega), ih (m / 128) (by omega) (i + 1) _ r hlt (by omega) (Or.inr (by omega)), e]
      have e2 : (128 + m % 128) % 128 = m % 128 := by omega
      rw [e2, Nat.pow_succ, Nat.add_assoc]
      congr 2
      have e3 : m = m % 128 + 128 * (m / 128) := by omega
      conv => rhs; rw [e3]
      rw [Nat.add_mul, Nat.mul_comm (128 ^ i) 128, ← Nat.mul_assoc, Nat.mul_comm (m / 128) 128]

theorem numP_inv (bs : List UInt8) : ∀ (i n v : Nat) (r : List UInt8), numP i n bs = (0, v, r) → i ≤ 6 → ∃ m, v = n + m * 128 ^ i ∧ bs = sevens m ++ r ∧ (i = 0 ∨ 0 < m) ∧ m < 128 ^ (7 - i) := by
  induction bs with
  | nil => intro i n v r h; simp [numP] at h
  | cons c bs ih =>
    intro i n v r h hi
    by_cases h1 : (0 < i ∧ c.toNat = 0) ∨ i = 7
    · rw [numP_bad h1] at h; simp at h
    · have hp : 0 < 128 ^ (7 - (i + 1)) := Nat.pow_pos (by omega)
      have e1 : 7 - i = 7 - (i + 1) + 1 := by omega
      by_cases h2 : c.toNat < 128
      · rw [numP_end h1 h2] at h
        simp only [Prod.mk.injEq, true_and] at h
        obtain ⟨rfl, rfl⟩ := h
        refine ⟨c.toNat, by rw [Nat.mod_eq_of_lt h2], ?_, by omega, ?_⟩
        · rw [sevens_small h2, UInt8.ofNat_toNat]; rfl
        · rw [e1, Nat.pow_succ]; omega
      · rw [numP_more h1 h2] at h
        have hi6 : i ≠ 6 := by
          intro e6
          subst e6
          cases bs with
          | nil => simp [numP] at h
          | cons d ds => rw [numP_bad (Or.inr rfl)] at h; simp at h
        obtain ⟨m, hv, hb, hm0, hm⟩ := ih (i + 1) _ v r h (by omega)
        have hm' : 0 < m := by omega
        have hc := u8_lt c
        refine ⟨c.toNat % 128 + 128 * m, ?_, ?_, by omega, ?_⟩
        · rw [hv, Nat.add_mul, Nat.pow_succ, Nat.add_assoc, Nat.mul_comm (128 ^ i) 128, ← Nat.mul_assoc, Nat.mul_comm m 128]
        · rw [sevens_more (by omega), show (c.toNat % 128 + 128 * m) / 128 = m by omega, show 128 + (c.toNat % 128 + 128 * m) % 128 = c.toNat by omega, UInt8.ofNat_toNat, List.cons_append, ← hb]
        · rw [e1, Nat.pow_succ]; omega

theorem numP_lt {bs r : List UInt8} {v : Nat} (h : numP 0 0 bs = (0, v, r)) : v < 128 ^ 7 := by
  obtain ⟨m, hv, _, _, hm⟩ := numP_inv bs 0 0 v r h (by omega)
  simp at hv hm
  omega
theorem numP_canon {bs r : List UInt8} {v : Nat} (h : numP 0 0 bs = (0, v, r)) : bs = sevens v ++ r := by
  obtain ⟨m, hv, hb, _, _⟩ := numP_inv bs 0 0 v r h (by omega)
  simp at hv
  rw [hv]; exact hb
theorem numP_write {n : Nat} (h : n < 128 ^ 7) (r : List UInt8) : numP 0 0 (sevens n ++ r) = (0, n, r) := by
  rw [numP_sevens n 0 0 r h (by omega) (Or.inl rfl)]; simp
/-- What is wrong is one of few things, and then there is no number. -/
theorem numP_err (bs : List UInt8) : ∀ i n, (numP i n bs).1 = 0 ∨ (((numP i n bs).1 = 4 ∨ (numP i n bs).1 = 5) ∧ (numP i n bs).2.1 = 0) := by
  induction bs with
  | nil => intro i n; simp [numP]
  | cons c bs ih =>
    intro i n
    by_cases h1 : (0 < i ∧ c.toNat = 0) ∨ i = 7
    · rw [numP_bad h1]; simp
    · by_cases h2 : c.toNat < 128
      · rw [numP_end h1 h2]; simp
      · rw [numP_more h1 h2]; exact ih _ _

/-- Words of a block, as runs. -/
def runsE (last : Int) (run : Nat) : List Int → List UInt8
  | [] => []
  | [x] => sevens (run + 1) ++ sevens (zig (x - last))
  | x :: y :: l => if x = y then runsE last (run + 1) (y :: l) else sevens (run + 1) ++ (sevens (zig (x - last)) ++ runsE x 0 (y :: l))

theorem runsE_run (last : Int) (x : Int) (rest : List Int) (h : rest.head? ≠ some x) : ∀ m run, runsE last run (List.replicate (m + 1) x ++ rest) = sevens (run + m + 1) ++ (sevens (zig (x - last)) ++ runsE x 0 rest) := by
  intro m
  induction m with
  | zero =>
    intro run
    cases rest with
    | nil => simp [runsE]
    | cons y l =>
      have hne : ¬ x = y := fun e => h (by simp [e])
      rw [List.replicate_one, List.singleton_append, runsE, if_neg hne]
  | succ m ih =>
    intro run
    rw [List.replicate_succ, List.replicate_succ, List.cons_append, List.cons_append, runsE, if_pos rfl, ← List.cons_append, ← List.replicate_succ, ih (run + 1)]
    congr 2
    omega

/-- Each list is a run and a rest. -/
theorem run_split (x : Int) : ∀ l : List Int, ∃ m rest, x :: l = List.replicate (m + 1) x ++ rest ∧ rest.head? ≠ some x ∧ rest.length ≤ l.length := by
  intro l
  induction l with
  | nil => exact ⟨0, [], rfl, by simp, by simp⟩
  | cons y l ih =>
    by_cases h : y = x
    · subst h
      obtain ⟨m, rest, h1, h2, h3⟩ := ih
      refine ⟨m + 1, rest, ?_, h2, by simp; omega⟩
      rw [List.replicate_succ, List.cons_append, ← h1]
    · exact ⟨0, y :: l, rfl, by simpa using h, by simp⟩

/-- The words of a block: what is wrong, the words, what is left. -/
def blkP : Nat → List Int → Int → List UInt8 → Int × List Int × List UInt8
  | 0, acc, _, bs => (0, acc, bs)
  | f + 1, acc, last, bs => if 16 ≤ acc.length then (0, acc, bs) else
    let a := numP 0 0 bs
    if a.1 ≠ 0 then (a.1, acc, a.2.2) else
    let z := numP 0 0 a.2.2
    if z.1 ≠ 0 then (z.1, acc, z.2.2) else
    if a.2.1 < 1 ∨ 16 - acc.length < a.2.1 ∨ (0 < acc.length ∧ last + zag z.2.1 = last) then (4, acc, z.2.2) else
    blkP f (acc ++ List.replicate a.2.1 (last + zag z.2.1)) (last + zag z.2.1) z.2.2

theorem blkP_full {f : Nat} {acc : List Int} {last : Int} {bs : List UInt8} (h : 16 ≤ acc.length) : blkP f acc last bs = (0, acc, bs) := by
  cases f with
  | zero => rfl
  | succ f => rw [blkP, if_pos h]
theorem blkP_e1 {f : Nat} {acc : List Int} {last : Int} {bs r : List UInt8} {e : Int} {k : Nat} (h : ¬ 16 ≤ acc.length) (h1 : numP 0 0 bs = (e, k, r)) (he : e ≠ 0) : blkP (f + 1) acc last bs = (e, acc, r) := by
  rw [blkP, if_neg h]
  simp only [h1]
  rw [if_pos he]
theorem blkP_e2 {f : Nat} {acc : List Int} {last : Int} {bs r r2 : List UInt8} {e : Int} {k z : Nat} (h : ¬ 16 ≤ acc.length) (h1 : numP 0 0 bs = (0, k, r)) (h2 : numP 0 0 r = (e, z, r2)) (he : e ≠ 0) : blkP (f + 1) acc last bs = (e, acc, r2) := by
  rw [blkP, if_neg h]
  simp only [h1, h2]
  rw [if_neg (by simp), if_pos he]
theorem blkP_e3 {f : Nat} {acc : List Int} {last : Int} {bs r r2 : List UInt8} {k z : Nat} (h : ¬ 16 ≤ acc.length) (h1 : numP 0 0 bs = (0, k, r)) (h2 : numP 0 0 r = (0, z, r2)) (hc : k < 1 ∨ 16 - acc.length < k ∨ (0 < acc.length ∧ last + zag z = last)) : blkP (f + 1) acc last bs = (4, acc, r2) := by
  rw [blkP, if_neg h]
  simp only [h1, h2]
  rw [if_neg (by simp), if_neg (by simp), if_pos hc]
theorem blkP_go {f : Nat} {acc : List Int} {last : Int} {bs r r2 : List UInt8} {k z : Nat} (h : ¬ 16 ≤ acc.length) (h1 : numP 0 0 bs = (0, k, r)) (h2 : numP 0 0 r = (0, z, r2)) (hc : ¬ (k < 1 ∨ 16 - acc.length < k ∨ (0 < acc.length ∧ last + zag z = last))) : blkP (f + 1) acc last bs = blkP f (acc ++ List.replicate k (last + zag z)) (last + zag z) r2 := by
  rw [blkP, if_neg h]
  simp only [h1, h2]
  rw [if_neg (by simp), if_neg (by simp), if_neg hc]

theorem zig_lt {z : Int} (h : -4398046511104 ≤ z ∧ z ≤ 4398046511104) : zig z < 128 ^ 7 := by
  unfold zig
  have : (128 : Nat) ^ 7 = 562949953421312 := by decide
  rw [this]
  split <;> omega
theorem small_lt {n : Nat} (h : n ≤ 1000000) : n < 128 ^ 7 := by
  have : (128 : Nat) ^ 7 = 562949953421312 := by decide
  rw [this]
  omega

/-- A word that may be. -/
def Word (z : Int) : Prop := -1099511627776 ≤ z ∧ z ≤ 1099511627776

theorem blkP_runs : ∀ (n : Nat) (d : List Int), d.length = n → ∀ (f : Nat) (acc : List Int) (last : Int) (r : List UInt8), acc.length + d.length = 16 → d.length ≤ f → (acc = [] ∨ d.head? ≠ some last) → Word last → (∀ z ∈ d, Word z) → blkP f acc last (runsE last 0 d ++ r) = (0, acc ++ d, r) := by
  intro n
  induction n using Nat.strongRecOn with
  | _ n ih =>
    intro d hd f acc last r hl hf hh hw hz
    cases d with
    | nil => simp only [List.length_nil, Nat.add_zero] at hl; rw [blkP_full (by omega)]; simp [runsE]
    | cons x l =>
      obtain ⟨m, rest, h1, h2, h3⟩ := run_split x l
      simp only [List.length_cons] at hl hf hd
      have hlen : l.length + 1 = m + 1 + rest.length := by
        have := congrArg List.length h1
        simpa using this
      have hx : Word x := hz x (by simp)
      have hne : acc = [] ∨ x ≠ last := by
        rcases hh with h | h
        · exact Or.inl h
        · exact Or.inr (fun e => h (by simp [e]))
      obtain ⟨f', rfl⟩ : ∃ f', f = f' + 1 := ⟨f - 1, by omega⟩
      rw [h1, runsE_run last x rest h2 m 0, List.append_assoc, List.append_assoc]
      have e0 : last + zag (zig (x - last)) = x := by rw [zag_zig]; omega
      unfold Word at hx hw
      rw [blkP_go (by omega) (numP_write (small_lt (by omega)) _) (numP_write (zig_lt (by omega)) _) (by
        rw [e0]
        rintro (h | h | ⟨h, h'⟩)
        · omega
        · omega
        · rcases hne with e | e
          · subst e; simp at h
          · exact e h'), e0, ih rest.length (by omega) rest rfl f' _ x r (by simp; omega) (by omega) (Or.inr h2) hx (fun z hz' => hz z (by rw [h1]; exact List.mem_append_right _ hz'))]
      simp

theorem blkP_inv : ∀ (f : Nat) (acc : List Int) (last : Int) (bs r : List UInt8) (d : List Int), blkP f acc last bs = (0, d, r) → 16 ≤ f + acc.length → acc.length ≤ 16 → ∃ t, d = acc ++ t ∧ d.length = 16 ∧ bs = runsE last 0 t ++ r ∧ (acc = [] ∨ t.head? ≠ some last) := by
  intro f
  induction f with
  | zero =>
    intro acc last bs r d h h1 h2
    simp only [blkP, Prod.mk.injEq, true_and] at h
    obtain ⟨rfl, rfl⟩ := h
    exact ⟨[], by simp, by omega, by simp [runsE], Or.inr (by simp)⟩
  | succ f ih =>
    intro acc last bs r d h h1 h2
    by_cases hl : 16 ≤ acc.length
    · rw [blkP_full hl] at h
      simp only [Prod.mk.injEq, true_and] at h
      obtain ⟨rfl, rfl⟩ := h
      exact ⟨[], by simp, by omega, by simp [runsE], Or.inr (by simp)⟩
    · obtain ⟨e1, k, r1, p1⟩ : ∃ e k r1, numP 0 0 bs = (e, k, r1) := ⟨_, _, _, rfl⟩
      by_cases he1 : e1 = 0
      · subst he1
        obtain ⟨e2, z, r2, p2⟩ : ∃ e z r2, numP 0 0 r1 = (e, z, r2) := ⟨_, _, _, rfl⟩
        by_cases he2 : e2 = 0
        · subst he2
          by_cases hc : k < 1 ∨ 16 - acc.length < k ∨ (0 < acc.length ∧ last + zag z = last)
          · rw [blkP_e3 hl p1 p2 hc] at h; simp at h
          · rw [blkP_go hl p1 p2 hc] at h
            obtain ⟨t, hd, hdl, hb, ht⟩ := ih _ _ _ _ _ h (by simp; omega) (by simp; omega)
            have hk : 0 < k := by omega
            have ht' : t.head? ≠ some (last + zag z) := by
              rcases ht with ht | ht
              · simp at ht; omega
              · exact ht
            obtain ⟨m, rfl⟩ : ∃ m, k = m + 1 := ⟨k - 1, by omega⟩
            refine ⟨List.replicate (m + 1) (last + zag z) ++ t, by rw [hd, List.append_assoc], hdl, ?_, ?_⟩
            · rw [runsE_run _ _ _ ht', show last + zag z - last = zag z by omega, zig_zag, numP_canon p1, numP_canon p2, hb]
              simp
            · by_cases ha : acc = []
              · exact Or.inl ha
              · refine Or.inr ?_
                have : 0 < acc.length := List.length_pos_iff.2 ha
                rw [List.replicate_succ, List.cons_append, List.head?_cons]
                intro e
                injection e with e
                exact hc (Or.inr (Or.inr ⟨this, e⟩))
        · rw [blkP_e2 hl p1 p2 he2] at h
          simp only [Prod.mk.injEq] at h
          exact absurd h.1 he2
      · rw [blkP_e1 hl p1 he1] at h
        simp only [Prod.mk.injEq] at h
        exact absurd h.1 he1

end Go.Proofs.YtilcnlmapifdgaaDoor
namespace Go.Proofs.YtilcnlmapifdgaaDoor
open Go Go.RowKit Go.ChangeShapes Go.WideShapes Go.Deep
set_option linter.unusedVariables false

section
variable {H : Type} {enc : TypeId × Value → H} {w : World} {held : Bool}

def RawR (v : Value) (a b c d : Int) : Prop := v = .agg #[.int .i64 a, .int .i64 b, .int .i64 c, .int .i64 d] ∧ I64 a ∧ I64 b ∧ I64 c ∧ I64 d
end
end Go.Proofs.YtilcnlmapifdgaaDoor
