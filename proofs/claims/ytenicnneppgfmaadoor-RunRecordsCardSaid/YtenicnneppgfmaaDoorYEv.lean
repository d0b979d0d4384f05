/- Several texts joined, each with its own heading in the notes: Contracts of slices. Events as bytes, in plain Lean: how they are written, how they are read, and that both go together. The readings of slices of numbers, of raw things, tapes, sessions, worlds. No condition beyond those of each row. -/
import Derived.Test.YtenicnneppgfmaaDoorYMem
import Derived.Lib.Walk
import Derived.Shelf.Abstract
import Derived.Deep.LoopGhost
import Derived.Deep.Draws
namespace Go.Proofs.YtenicnneppgfmaaDoor
open Go Go.RowKit Go.ChangeShapes Go.WideShapes Go.Deep
set_option linter.unusedVariables false

/-- What a predicate that is handed over answers. -/
def PredIs (g : Nat) (p : Int → Bool) : Prop := ∀ (z : Int) (W : World), -9223372036854775808 ≤ z → z ≤ 9223372036854775807 → Calls Tryd.prog g #[.int .i64 z] W fun e w' => e = .returned (.bool (p z)) ∧ W = w'

theorem any_hit {p : Int → Bool} {zs : List Int} {k : Nat} (hk : k < zs.length) (h : p zs[k] = true) : zs.any p = true := List.any_eq_true.2 ⟨_, List.getElem_mem hk, h⟩
theorem any_miss {p : Int → Bool} {zs : List Int} (h : ∀ j, j < zs.length → p (zs.getD j 0) = false) : zs.any p = false := by
  rw [List.any_eq_false]
  intro x hx
  obtain ⟨i, hi, rfl⟩ := List.mem_iff_getElem.1 hx
  have := h i hi
  simp [List.getD, hi] at this
  simp [this]
theorem miss_grow {p : Int → Bool} {zs : List Int} {k : Nat} (h : ∀ j, j < k → p (zs.getD j 0) = false) (hk : k < zs.length) (h1 : p zs[k] = false) : ∀ j, j < k + 1 → p (zs.getD j 0) = false := by
  intro j hj
  rcases Nat.lt_succ_iff_lt_or_eq.1 hj with hj | rfl
  · exact h j hj
  · simpa [List.getD, hk] using h1

set_option maxHeartbeats 1000000 in
theorem idxF_any (g : Nat) (p : Int → Bool) (eg : ∀ args w, (callFunc g args).run Tryd.prog w = .ok (.enter g args) w) (hp : PredIs g p) (v : Value) (zs : List Int) (w : World) (hf : Ints w.heap.size w v zs) :
    Calls Tryd.prog 97 #[v, .func (.func g) #[] #[]] w fun e w' => (∃ i : Int, e = .returned (.int .i64 i) ∧ -1 ≤ i ∧ i ≤ 17592186043904 ∧ ((0 ≤ i) = (zs.any p = true))) ∧ ∃ n, w' = w.drewN n := by
  obtain ⟨a, c, rfl, hl, _, hc⟩ := hf
  have Hc := Lib.hid hc
  have HP := Lib.hid hp
  clear hc hp
  go_enter Tryd.func97, Tryd.ntmps97
  go_wp2
  go_loopg [5, 8] zs.length (fun gg _ s8 wr => ∃ k q : Nat, k ≤ zs.length ∧ zs.length - k ≤ gg ∧ s8 = .int .i64 k ∧ wr = w.drewN q ∧ Hid (∀ j, j < k → p (zs.getD j 0) = false))
  case atStart => exact ⟨0, 0, Nat.zero_le _, by omega, rfl, rfl, Lib.hid fun j hj => absurd hj (Nat.not_lt_zero _)⟩
  case round =>
    obtain ⟨k, q, hk, hg, rfl, rfl, A⟩ := hrel
    by_cases hlt : k < zs.length
    · obtain ⟨b, off, vi, ha, hb, hcell, hvi, hz⟩ := Hc.out k hlt
      subst ha hvi
      have HG := Lib.hid (miss_grow A.out hlt)
      have HH := Lib.hid (any_hit (p := p) hlt)
      obtain ⟨z1, z2⟩ := hz
      generalize zs[k] = z at *
      have hcall := Lib.hid (fun W => HP.out z W z1 z2)
      cases hq : p z with
      | true =>
        rw [hq] at hcall
        have HQ := Lib.hid hq
        clear hq
        go_wp2_with (go_at_fn g; refine (hcall.out _).mono ?_; rintro e w' ⟨rfl, rfl⟩)
        go_ret
        exact ⟨⟨k, rfl, by omega, by omega, by simp [HH.out HQ.out]⟩, _, rfl⟩
      | false =>
        rw [hq] at hcall
        have HQ := Lib.hid hq
        clear hq
        go_wp2_with (go_at_fn g; refine (hcall.out _).mono ?_; rintro e w' ⟨rfl, rfl⟩)
        go_roundg (zs.length - (k + 1))
        case measure => omega
        case rel => exact ⟨k + 1, _, by omega, by omega, by go_num, rfl, Lib.hid (HG.out HQ.out)⟩
    · have hm := any_miss (p := p) (zs := zs) (fun j hj => A.out j (by omega))
      have HM := Lib.hid hm
      clear hm
      go_wp2
      go_ret
      exact ⟨⟨-1, rfl, by omega, by omega, by simp [HM.out]⟩, q, rfl⟩

theorem containsF_any (g : Nat) (p : Int → Bool) (eg : ∀ args w, (callFunc g args).run Tryd.prog w = .ok (.enter g args) w) (hp : PredIs g p) (v : Value) (zs : List Int) (w : World) (hf : Ints w.heap.size w v zs) :
    Calls Tryd.prog 63 #[v, .func (.func g) #[] #[]] w fun e w' => e = .returned (.bool (zs.any p)) ∧ ∃ n, w' = w.drewN n := by
  have HI := Lib.hid (idxF_any g p eg hp v zs w hf)
  clear hf hp eg
  go_enter Tryd.func63, Tryd.ntmps63
  go_wp2_with fail
  refine HI.out.mono ?_
  rintro e w' ⟨⟨i, rfl, h1, h2, h3⟩, n, rfl⟩
  have H3 := Lib.hid h3
  clear h3
  go_wp2
  go_ret
  refine ⟨ret_bool ?_, n, rfl⟩
  rw [Bool.eq_iff_iff, decide_eq_true_iff, H3.out]

/-- A number that is no word. -/
def oddB (z : Int) : Bool := !(decide (-1099511627776 ≤ z) && decide (z ≤ 1099511627776))
theorem odd_true {z : Int} (h : z < -1099511627776 ∨ 1099511627776 < z) : oddB z = true := by
  unfold oddB
  rw [Bool.not_eq_true', Bool.and_eq_false_iff, decide_eq_false_iff_not, decide_eq_false_iff_not]
  omega
theorem odd_false {z : Int} (h : -1099511627776 ≤ z ∧ z ≤ 1099511627776) : oddB z = false := by simp [oddB, h]

theorem cword_or (z : Int) (w : World) : Calls Tryd.prog 62 #[.int .i64 z] w fun e w' => e = .returned (.bool (!oddB z)) ∧ w = w' := by
  by_cases h1 : -1099511627776 ≤ z
  · by_cases h2 : z ≤ 1099511627776
    · rw [odd_false ⟨h1, h2⟩]
      go_enter Tryd.func62, Tryd.ntmps62
      go_wp2
      go_ret
      simp_all
    · rw [odd_true (by omega)]
      go_enter Tryd.func62, Tryd.ntmps62
      go_wp2
      go_ret
      simp_all
  · rw [odd_true (by omega)]
    go_enter Tryd.func62, Tryd.ntmps62
    go_wp2
    go_ret
    simp_all
theorem wordMay_any (z : Int) (w : World) : Calls Tryd.prog 115 #[.int .i64 z] w fun e w' => e = .returned (.bool (!oddB z)) ∧ w = w' := by
  have H := Lib.hid (in_any z (-1099511627776) 1099511627776)
  have HE : (!oddB z) = inB z (-1099511627776) 1099511627776 := by unfold oddB inB; rw [Bool.not_not]
  have HE := Lib.hid HE
  go_enter Tryd.func115, Tryd.ntmps115
  go_wp2_with (go_at_call 50; refine (H.out _).mono ?_; rintro e w' ⟨rfl, rfl⟩)
  go_ret
  exact ⟨ret_bool HE.out.symm, rfl⟩

set_option maxHeartbeats 1000000 in
theorem wordsMay_any (v : Value) (zs : List Int) (w : World) (hf : Ints w.heap.size w v zs) : Calls Tryd.prog 85 #[v] w fun e w' => e = .returned (.bool (!zs.any oddB)) ∧ ∃ n, w' = w.drewN n := by
  obtain ⟨a, c, rfl, hl, _, hc⟩ := hf
  have Hc := Lib.hid hc
  clear hc
  go_enter Tryd.func85, Tryd.ntmps85
  go_wp2
  go_loopw [3] (fun i wr => ∃ k q : Nat, k ≤ zs.length ∧ i = .int .i64 k ∧ wr = w.drewN q ∧ Hid (∀ j, j < k → oddB (zs.getD j 0) = false)) (fun i _ => zs.length - (intOf i).toNat)
  case atStart => exact ⟨0, 0, Nat.zero_le _, rfl, rfl, Lib.hid fun j hj => absurd hj (Nat.not_lt_zero _)⟩
  case round =>
    obtain ⟨k, q, hk, rfl, rfl, A⟩ := hrel
    by_cases hlt : k < zs.length
    · obtain ⟨b, off, vi, ha, hb, hcell, hvi, hz⟩ := Hc.out k hlt
      subst ha hvi
      have HG := Lib.hid (miss_grow A.out hlt)
      have HH := Lib.hid (any_hit (p := oddB) hlt)
      generalize zs[k] = z at *
      clear hz
      have hcall := Lib.hid (wordMay_any z)
      cases hq : oddB z with
      | true =>
        rw [hq] at hcall
        have HQ := Lib.hid hq
        clear hq
        go_wp2_with (go_at_call 115; refine (hcall.out _).mono ?_; rintro e w' ⟨rfl, rfl⟩)
        go_ret
        exact ⟨ret_bool (by rw [HH.out HQ.out]; rfl), q, rfl⟩
      | false =>
        rw [hq] at hcall
        have HQ := Lib.hid hq
        clear hq
        go_wp2_with (go_at_call 115; refine (hcall.out _).mono ?_; rintro e w' ⟨rfl, rfl⟩)
        go_roundw
        case rel => exact ⟨k + 1, _, by omega, by go_num, rfl, Lib.hid (HG.out HQ.out)⟩
        case measure => simp [intOf]; omega
    · have hm := any_miss (p := oddB) (zs := zs) (fun j hj => A.out j (by omega))
      have HM := Lib.hid hm
      clear hm
      go_wp2
      go_ret
      exact ⟨ret_bool (by rw [HM.out]; rfl), q, rfl⟩
end Go.Proofs.YtenicnneppgfmaaDoor
namespace Go.Proofs.YtenicnneppgfmaaDoor
set_option linter.unusedVariables false

/-- An event. -/
structure Ev where
  at_ : Int
  kind : Int
  data : List Int

/-- A number that is not below 0, in sevens of bits. -/
def sevens (n : Nat) : List UInt8 := if n < 128 then [UInt8.ofNat n] else UInt8.ofNat (128 + n % 128) :: sevens (n / 128)
  termination_by n
  decreasing_by omega
theorem sevens_small {n : Nat} (h : n < 128) : sevens n = [UInt8.ofNat n] := by rw [sevens, if_pos h]
theorem sevens_more {n : Nat} (h : 128 ≤ n) : sevens n = UInt8.ofNat (128 + n % 128) :: sevens (n / 128) := by rw [sevens, if_neg (by omega)]
theorem u8_nat {n : Nat} (h : n < 256) : (UInt8.ofNat n).toNat = n := by rw [UInt8.toNat_ofNat']; omega
theorem u8_lt (c : UInt8) : c.toNat < 256 := c.toNat_lt

/-- Any number. -/
def zig (z : Int) : Nat := if z < 0 then (-2 * z - 1).toNat else (2 * z).toNat
def zag (n : Nat) : Int := if n % 2 = 1 then -((n + 1) / 2 : Nat) else ((n / 2 : Nat) : Int)
/-- The next number: what is wrong, the number, what is left. -/
def numP (i n : Nat) : List UInt8 → Int × Nat × List UInt8
  | [] => (5, 0, [])
  | c :: bs => if (0 < i ∧ c.toNat = 0) ∨ i = 7 then (4, 0, bs) else if c.toNat < 128 then (0, n + c.toNat % 128 * 128 ^ i, bs) else numP (i + 1) (n + c.toNat % 128 * 128 ^ i) bs

theorem numP_bad {i n : Nat} {c : UInt8} {bs : List UInt8} (h : (0 < i ∧ c.toNat = 0) ∨ i = 7) : numP i n (c :: bs) = (4, 0, bs) := by rw [numP, if_pos h]
theorem numP_end {i n : Nat} {c : UInt8} {bs : List UInt8} (h : ¬ ((0 < i ∧ c.toNat = 0) ∨ i = 7)) (h1 : c.toNat < 128) : numP i n (c :: bs) = (0, n + c.toNat % 128 * 128 ^ i, bs) := by rw [numP, if_neg h, if_pos h1]
theorem numP_more {i n : Nat} {c : UInt8} {bs : List UInt8} (h : ¬ ((0 < i ∧ c.toNat = 0) ∨ i = 7)) (h1 : ¬ c.toNat < 128) : numP i n (c :: bs) = numP (i + 1) (n + c.toNat % 128 * 128 ^ i) bs := by rw [numP, if_neg h, if_neg h1]

theorem numP_inv (bs : List UInt8) : ∀ (i n v : Nat) (r : List UInt8), numP i n bs = (0, v, r) → i ≤ 6 → ∃ m, v = n + m * 128 ^ i ∧ bs = sevens m ++ r ∧ (i = 0 ∨ 0 < m) ∧ m < 128 ^ (7 - i) := by
  induction bs with
  | nil => intro i n v r h; simp [numP] at h
  | cons c bs ih =>
    intro i n v r h hi
    by_cases h1 : (0 < i ∧ c.toNat = 0) ∨ i = 7
    · rw [numP_bad h1] at h; simp at h
    · have hp : 0 < 128 ^ (7 - (i + 1)) := Nat.pow_pos (by omega)
      have e1 : 7 - i = 7 - (i + 1) + 1 := by omega
      by_cases h2 : c.toNat < 128
      · rw [numP_end h1 h2] at h
        simp only [Prod.mk.injEq, true_and] at h
        obtain ⟨rfl, rfl⟩ := h
        refine ⟨c.toNat, by rw [Nat.mod_eq_of_lt h2], ?_, by omega, ?_⟩
        · rw [sevens_small h2, UInt8.ofNat_toNat]; rfl
        · rw [e1, Nat.pow_succ]; omega
      · rw [numP_more h1 h2] at h
        have hi6 : i ≠ 6 := by
          intro e6
          subst e6
          cases bs with
          | nil => simp [numP] at h
          | cons d ds => rw [numP_bad (Or.inr rfl)] at h; simp at h
        obtain ⟨m, hv, hb, hm0, hm⟩ := ih (i + 1) _ v r h (by omega)
        have hm' : 0 < m := by omega
        have hc := u8_lt c
        refine ⟨c.toNat % 128 + 128 * m, ?_, ?_, by omega, ?_⟩
        · rw [hv, Nat.add_mul, Nat.pow_succ, Nat.add_assoc, Nat.mul_comm (128 ^ i) 128, ← Nat.mul_assoc, Nat.mul_comm m 128]
        · rw [sevens_more (by omega), show (c.toNat % 128 + 128 * m) / 128 = m by omega, show 128 + (c.toNat % 128 + 128 * m) % 128 = c.toNat by omega, UInt8.ofNat_toNat, List.cons_append, ← hb]
        · rw [e1, Nat.pow_succ]; omega

theorem numP_lt {bs r : List UInt8} {v : Nat} (h : numP 0 0 bs = (0, v, r)) : v < 128 ^ 7 := by
  obtain ⟨m, hv, _, _, hm⟩ := numP_inv bs 0 0 v r h (by omega)
  simp at hv hm
  omega
/-- What is wrong is one of few things, and then there is no number. -/
theorem numP_err (bs : List UInt8) : ∀ i n, (numP i n bs).1 = 0 ∨ (((numP i n bs).1 = 4 ∨ (numP i n bs).1 = 5) ∧ (numP i n bs).2.1 = 0) := by
  induction bs with
  | nil => intro i n; simp [numP]
  | cons c bs ih =>
    intro i n
    by_cases h1 : (0 < i ∧ c.toNat = 0) ∨ i = 7
    · rw [numP_bad h1]; simp
    · by_cases h2 : c.toNat < 128
      · rw [numP_end h1 h2]; simp
      · rw [numP_more h1 h2]; exact ih _ _

/-- Words of a block, as runs. -/
def runsE (last : Int) (run : Nat) : List Int → List UInt8
  | [] => []
  | [x] => sevens (run + 1) ++ sevens (zig (x - last))
  | x :: y :: l => if x = y then runsE last (run + 1) (y :: l) else sevens (run + 1) ++ (sevens (zig (x - last)) ++ runsE x 0 (y :: l))

theorem runsE_run (last : Int) (x : Int) (rest : List Int) (h : rest.head? ≠ some x) : ∀ m run, runsE last run (List.replicate (m + 1) x ++ rest) = sevens (run + m + 1) ++ (sevens (zig (x - last)) ++ runsE x 0 rest) := by
  intro m
  induction m with
  | zero =>
    intro run
    cases rest with
    | nil => simp [runsE]
    | cons y l =>
      have hne : ¬ x = y := fun e => h (by simp [e])
      rw [List.replicate_one, List.singleton_append, runsE, if_neg hne]
  | succ m ih =>
    intro run
    rw [List.replicate_succ, List.replicate_succ, List.cons_append, List.cons_append, runsE, if_pos rfl, ← List.cons_append, ← List.replicate_succ, ih (run + 1)]
    congr 2
    omega

/-- The words of a block: what is wrong, the words, what is left. -/
def blkP : Nat → List Int → Int → List UInt8 → Int × List Int × List UInt8
  | 0, acc, _, bs => (0, acc, bs)
  | f + 1, acc, last, bs => if 16 ≤ acc.length then (0, acc, bs) else
    let a := numP 0 0 bs
    if a.1 ≠ 0 then (a.1, acc, a.2.2) else
    let z := numP 0 0 a.2.2
    if z.1 ≠ 0 then (z.1, acc, z.2.2) else
    if a.2.1 < 1 ∨ 16 - acc.length < a.2.1 ∨ (0 < acc.length ∧ last + zag z.2.1 = last) then (4, acc, z.2.2) else
    blkP f (acc ++ List.replicate a.2.1 (last + zag z.2.1)) (last + zag z.2.1) z.2.2

theorem blkP_full {f : Nat} {acc : List Int} {last : Int} {bs : List UInt8} (h : 16 ≤ acc.length) : blkP f acc last bs = (0, acc, bs) := by
  cases f with
  | zero => rfl
  | succ f => rw [blkP, if_pos h]
theorem blkP_e1 {f : Nat} {acc : List Int} {last : Int} {bs r : List UInt8} {e : Int} {k : Nat} (h : ¬ 16 ≤ acc.length) (h1 : numP 0 0 bs = (e, k, r)) (he : e ≠ 0) : blkP (f + 1) acc last bs = (e, acc, r) := by
  rw [blkP, if_neg h]
  simp only [h1]
  rw [if_pos he]
theorem blkP_e2 {f : Nat} {acc : List Int} {last : Int} {bs r r2 : List UInt8} {e : Int} {k z : Nat} (h : ¬ 16 ≤ acc.length) (h1 : numP 0 0 bs = (0, k, r)) (h2 : numP 0 0 r = (e, z, r2)) (he : e ≠ 0) : blkP (f + 1) acc last bs = (e, acc, r2) := by
  rw [blkP, if_neg h]
  simp only [h1, h2]
  rw [if_neg (by simp), if_pos he]
theorem blkP_e3 {f : Nat} {acc : List Int} {last : Int} {bs r r2 : List UInt8} {k z : Nat} (h : ¬ 16 ≤ acc.length) (h1 : numP 0 0 bs = (0, k, r)) (h2 : numP 0 0 r = (0, z, r2)) (hc : k < 1 ∨ 16 - acc.length < k ∨ (0 < acc.length ∧ last + zag z = last)) : blkP (f + 1) acc last bs = (4, acc, r2) := by
  rw [blkP, if_neg h]
  simp only [h1, h2]
  rw [if_neg (by simp), if_neg (by simp), if_pos hc]
theorem blkP_go {f : Nat} {acc : List Int} {last : Int} {bs r r2 : List UInt8} {k z : Nat} (h : ¬ 16 ≤ acc.length) (h1 : numP 0 0 bs = (0, k, r)) (h2 : numP 0 0 r = (0, z, r2)) (hc : ¬ (k < 1 ∨ 16 - acc.length < k ∨ (0 < acc.length ∧ last + zag z = last))) : blkP (f + 1) acc last bs = blkP f (acc ++ List.replicate k (last + zag z)) (last + zag z) r2 := by
  rw [blkP, if_neg h]
  simp only [h1, h2]
  rw [if_neg (by simp), if_neg (by simp), if_neg hc]

/-- A word that may be. -/
def Word (z : Int) : Prop := -1099511627776 ≤ z ∧ z ≤ 1099511627776

end Go.Proofs.YtenicnneppgfmaaDoor
namespace Go.Proofs.YtenicnneppgfmaaDoor
open Go Go.RowKit Go.ChangeShapes Go.WideShapes Go.Deep
set_option linter.unusedVariables false

section
variable {H : Type} {enc : TypeId × Value → H} {w : World} {held : Bool}

set_option maxRecDepth 100000 in
theorem open_intsA {r : Reach} {b0 : Nat} {v : Value} {d : DataW H} {p : List MemPlace} (ok : Value.okWide Tryd.prog w r b0 22 v) (h : DataW.Trod enc Tryd.prog w 0 (fun _ => true) held 22 v d p) (hf : Fits Tryd.prog 22 d) : ∃ zs, Ints w.heap.size w v zs := by
  obtain ⟨a, len, cap, rfl⟩ := okWide_slice Tryd.underlying22 ok
  obtain ⟨n, hn⟩ := h
  exact open_intsR hn hf

/-- A world: interrupts, values, blocks, delays. -/
def WorldR (B : Nat) (w : World) (v : Value) (is vs : List Int) (bs : List (List Int)) (ds : List Int) : Prop := ∃ v0 v1 v2 v3, v = .agg #[v0, v1, v2, v3] ∧ Ints B w v0 is ∧ Ints B w v1 vs ∧ RowsR B w v2 bs ∧ Ints B w v3 ds
set_option maxRecDepth 100000 in
theorem open_worldR {r : Reach} {b0 : Nat} {v : Value} {d : DataW H} {p : List MemPlace} (ok : Value.okWide Tryd.prog w r b0 25 v) (h : DataW.Trod enc Tryd.prog w 0 (fun _ => true) held 25 v d p) (hf : Fits Tryd.prog 25 d) : ∃ is vs bs ds, WorldR w.heap.size w v is vs bs ds := by
  obtain ⟨cs, rfl, hl, k, hk⟩ := open_agg Tryd.underlying25 (by kernel_rfl) ok h hf
  obtain ⟨c0, c1, c2, c3, rfl⟩ := len4 (hl.trans (by kernel_rfl))
  obtain ⟨d0, p0, h0, f0⟩ := hk 0 _ rfl
  obtain ⟨d1, p1, h1, f1⟩ := hk 1 _ rfl
  obtain ⟨d2, p2, h2, f2⟩ := hk 2 _ rfl
  obtain ⟨d3, p3, h3, f3⟩ := hk 3 _ rfl
  obtain ⟨is, hi⟩ := open_intsR h0 f0
  obtain ⟨vs, hv⟩ := open_intsR h1 f1
  obtain ⟨bs, hb⟩ := open_rowsR h2 f2
  obtain ⟨ds, hd⟩ := open_intsR h3 f3
  exact ⟨is, vs, bs, ds, c0, c1, c2, c3, rfl, hi, hv, hb, hd⟩
end
end Go.Proofs.YtenicnneppgfmaaDoor
