/- Events read from bytes, whole, in plain Lean. No condition beyond those of each row. -/
import Derived.Test.YtiekilpddmdhnaaDoorRn
namespace Go.Proofs.YtiekilpddmdhnaaDoor
set_option linter.unusedVariables false

/-- The next number, where nothing is wrong as yet. -/
def numE (e : Int) (bs : List UInt8) : Int × Nat × List UInt8 := if e = 0 then numP 0 0 bs else (e, 0, bs)
theorem numE_zero (bs : List UInt8) : numE 0 bs = numP 0 0 bs := rfl
theorem numE_bad {e : Int} (h : e ≠ 0) (bs : List UInt8) : numE e bs = (e, 0, bs) := by unfold numE; rw [if_neg h]
theorem numE_lt {e e' : Int} {bs r : List UInt8} {v : Nat} (h : numE e bs = (e', v, r)) : v < 562949953421312 := by
  by_cases h0 : e = 0
  · subst h0
    rw [numE_zero] at h
    have hv : v < 128 ^ 7 := by
      rcases numP_err bs 0 0 with k | ⟨_, k⟩
      · rw [h] at k; simp only at k; subst k; exact numP_lt h
      · rw [h] at k; simp only at k; subst k; decide
    exact Nat.lt_of_lt_of_le hv (by decide)
  · rw [numE_bad h0] at h
    injection h with h1 h2
    injection h2 with h2 h3
    omega
theorem numE_keeps {e e' : Int} {bs r : List UInt8} {v : Nat} (h : numE e bs = (e', v, r)) (h0 : e ≠ 0) : e' = e ∧ v = 0 ∧ r = bs := by
  rw [numE_bad h0] at h
  injection h with h1 h2
  injection h2 with h2 h3
  exact ⟨h1.symm, h2.symm, h3.symm⟩
theorem zag_lt {v : Nat} (h : v < 562949953421312) : -562949953421312 ≤ zag v ∧ zag v ≤ 562949953421312 := by unfold zag; split <;> omega

/-- The next event: what is wrong, the event, what is left. -/
def evP (a : Int) (bs : List UInt8) : Int × Ev × List UInt8 :=
  let p := numP 0 0 bs
  if p.1 ≠ 0 then (p.1, ⟨a, 0, []⟩, p.2.2) else
  if p.2.1 % 4 = 0 then (3, ⟨a, 0, []⟩, p.2.2) else
  if p.2.1 % 4 = 1 then (0, ⟨a + ((p.2.1 / 4 : Nat) : Int), 1, []⟩, p.2.2) else
  if p.2.1 % 4 = 2 then ((blkP 16 [] 0 p.2.2).1, ⟨a + ((p.2.1 / 4 : Nat) : Int), 2, (blkP 16 [] 0 p.2.2).2.1⟩, (blkP 16 [] 0 p.2.2).2.2)
  else ((numP 0 0 p.2.2).1, ⟨a + ((p.2.1 / 4 : Nat) : Int), 3, [zag (numP 0 0 p.2.2).2.1]⟩, (numP 0 0 p.2.2).2.2)
theorem evP_e {a : Int} {bs r : List UInt8} {e : Int} {n : Nat} (h : numP 0 0 bs = (e, n, r)) (h0 : e ≠ 0) : evP a bs = (e, ⟨a, 0, []⟩, r) := by
  unfold evP; simp only [h]; rw [if_pos h0]
theorem evP_0 {a : Int} {bs r : List UInt8} {n : Nat} (h : numP 0 0 bs = (0, n, r)) (hk : n % 4 = 0) : evP a bs = (3, ⟨a, 0, []⟩, r) := by
  unfold evP; simp only [h]; rw [if_neg (by simp), if_pos hk]
theorem evP_1 {a : Int} {bs r : List UInt8} {n : Nat} (h : numP 0 0 bs = (0, n, r)) (hk : n % 4 = 1) : evP a bs = (0, ⟨a + ((n / 4 : Nat) : Int), 1, []⟩, r) := by
  unfold evP; simp only [h]; rw [if_neg (by simp), if_neg (by omega), if_pos hk]
theorem evP_2 {a : Int} {bs r r2 : List UInt8} {n : Nat} {e : Int} {d : List Int} (h : numP 0 0 bs = (0, n, r)) (hk : n % 4 = 2) (hb : blkP 16 [] 0 r = (e, d, r2)) : evP a bs = (e, ⟨a + ((n / 4 : Nat) : Int), 2, d⟩, r2) := by
  unfold evP; simp only [h, hb]; rw [if_neg (by simp), if_neg (by omega), if_neg (by omega), if_pos hk]
theorem evP_3 {a : Int} {bs r r2 : List UInt8} {n z : Nat} {e : Int} (h : numP 0 0 bs = (0, n, r)) (hk : n % 4 = 3) (hb : numP 0 0 r = (e, z, r2)) : evP a bs = (e, ⟨a + ((n / 4 : Nat) : Int), 3, [zag z]⟩, r2) := by
  unfold evP; simp only [h, hb]; rw [if_neg (by simp), if_neg (by omega), if_neg (by omega), if_neg (by omega)]

/-- The words of a block, one run more. -/
structure BlkIn (r1 : List UInt8) (f : Nat) (acc : List Int) (last : Int) (e : Int) (bs : List UInt8) : Prop where
  eq : if e = 0 then blkP 16 [] 0 r1 = blkP f acc last bs else (blkP 16 [] 0 r1).1 = e ∧ (blkP 16 [] 0 r1).2.2 = bs
  len : acc.length ≤ 16
  fuel : e = 0 → 16 ≤ f + acc.length
  f16 : f ≤ 16
  lo : -((16 - (f : Int)) * 562949953421312) ≤ last
  hi : last ≤ (16 - (f : Int)) * 562949953421312
  i64 : ∀ z ∈ acc, I64 z
theorem BlkIn.start (r1 : List UInt8) : BlkIn r1 16 [] 0 0 r1 := ⟨by rw [if_pos rfl], by simp, by simp, by omega, by simp, by simp, by simp⟩
/-- What is wrong behind a run. -/
def runBad (acc : List Int) (k : Nat) (v last : Int) : Prop := k < 1 ∨ 16 - acc.length < k ∨ (0 < acc.length ∧ v = last)
/-- What is wrong behind a run, whatever was wrong ahead. -/
def RunE (acc : List Int) (k : Nat) (v last e2 e3 : Int) : Prop := (e2 ≠ 0 ∧ e3 = e2) ∨ (e2 = 0 ∧ runBad acc k v last ∧ e3 = 4) ∨ (e2 = 0 ∧ ¬ runBad acc k v last ∧ e3 = 0)
/-- The words behind a run. -/
def accE (acc : List Int) (k : Nat) (v e3 : Int) : List Int := if e3 = 0 then acc ++ List.replicate k v else acc
theorem BlkIn.step {r1 bs ra rb : List UInt8} {f k z : Nat} {acc : List Int} {last e1 e2 e3 : Int} (h : BlkIn r1 f acc last 0 bs) (hl : acc.length < 16) (h1 : numP 0 0 bs = (e1, k, ra)) (h2 : numE e1 ra = (e2, z, rb)) (h3 : RunE acc k (last + zag z) last e2 e3) : BlkIn r1 (f - 1) (accE acc k (last + zag z) e3) (last + zag z) e3 rb ∧ 0 < f := by
  have hf := h.fuel rfl
  obtain ⟨f', rfl⟩ : ∃ f', f = f' + 1 := ⟨f - 1, by omega⟩
  have he := h.eq
  rw [if_pos rfl] at he
  have hz := zag_lt (numE_lt h2)
  have hlo := h.lo; have hhi := h.hi; have h16 := h.f16; have hlen := h.len
  have hb1 : -((16 - ((f' + 1 - 1 : Nat) : Int)) * 562949953421312) ≤ last + zag z := by omega
  have hb2 : last + zag z ≤ (16 - ((f' + 1 - 1 : Nat) : Int)) * 562949953421312 := by omega
  have key : e3 ≠ 0 → (blkP 16 [] 0 r1).1 = e3 ∧ (blkP 16 [] 0 r1).2.2 = rb → BlkIn r1 (f' + 1 - 1) (accE acc k (last + zag z) e3) (last + zag z) e3 rb ∧ 0 < f' + 1 := by
    intro h4 h5
    unfold accE
    rw [if_neg h4]
    exact ⟨⟨by rw [if_neg h4]; exact h5, hlen, fun h => absurd h h4, by omega, hb1, hb2, h.i64⟩, by omega⟩
  rcases h3 with ⟨h3, rfl⟩ | ⟨rfl, hbad, rfl⟩ | ⟨rfl, hbad, rfl⟩
  · refine key h3 ?_
    rw [he]
    by_cases h0 : e1 = 0
    · subst h0
      rw [blkP_e2 (by omega) h1 h2 h3]; exact ⟨rfl, rfl⟩
    · obtain ⟨rfl, rfl, rfl⟩ := numE_keeps h2 h0
      rw [blkP_e1 (by omega) h1 h3]; exact ⟨rfl, rfl⟩
  · have h0 : e1 = 0 := by
      by_cases h0 : e1 = 0
      · exact h0
      · have := (numE_keeps h2 h0).1; omega
    subst h0
    refine key (by decide) ?_
    rw [he, blkP_e3 (by omega) h1 h2 (by unfold runBad at hbad; exact hbad)]; exact ⟨rfl, rfl⟩
  · have h0 : e1 = 0 := by
      by_cases h0 : e1 = 0
      · exact h0
      · have := (numE_keeps h2 h0).1; omega
    subst h0
    have hbad' := hbad
    unfold runBad at hbad'
    unfold accE
    rw [if_pos rfl]
    refine ⟨⟨by rw [if_pos rfl, he, blkP_go (by omega) h1 h2 hbad']; rfl, by simp; omega, fun _ => by simp; omega, by omega, hb1, hb2, ?_⟩, by omega⟩
    intro y hy
    rcases List.mem_append.1 hy with hy | hy
    · exact h.i64 y hy
    · rw [List.eq_of_mem_replicate hy]; unfold I64; omega
/-- Where the block ends. -/
theorem BlkIn.fin {r1 bs : List UInt8} {f : Nat} {acc : List Int} {last : Int} (h : BlkIn r1 f acc last 0 bs) (hl : ¬ acc.length < 16) : blkP 16 [] 0 r1 = (0, acc, bs) := by
  have he := h.eq
  rw [if_pos rfl] at he
  rw [he, blkP_full (by omega)]
theorem BlkIn.err {r1 bs : List UInt8} {f : Nat} {acc : List Int} {last e : Int} (h : BlkIn r1 f acc last e bs) (h0 : e ≠ 0) : ∃ d, blkP 16 [] 0 r1 = (e, d, bs) := by
  have he := h.eq
  rw [if_neg h0] at he
  exact ⟨_, Prod.ext he.1 (Prod.ext rfl he.2)⟩

/-- Events, one behind the other. -/
def evsP : Nat → Int → List UInt8 → Int × List Ev × List UInt8
  | 0, _, bs => (0, [], bs)
  | m + 1, a, bs => if (evP a bs).1 ≠ 0 then ((evP a bs).1, [], (evP a bs).2.2) else ((evsP m (evP a bs).2.1.at_ (evP a bs).2.2).1, (evP a bs).2.1 :: (evsP m (evP a bs).2.1.at_ (evP a bs).2.2).2.1, (evsP m (evP a bs).2.1.at_ (evP a bs).2.2).2.2)
theorem evsP_e {m : Nat} {a e : Int} {bs r : List UInt8} {x : Ev} (h : evP a bs = (e, x, r)) (h0 : e ≠ 0) : evsP (m + 1) a bs = (e, [], r) := by
  rw [evsP, h, if_pos h0]
theorem evsP_go {m : Nat} {a : Int} {bs r : List UInt8} {x : Ev} (h : evP a bs = (0, x, r)) : evsP (m + 1) a bs = ((evsP m x.at_ r).1, x :: (evsP m x.at_ r).2.1, (evsP m x.at_ r).2.2) := by
  rw [evsP, h, if_neg (by simp)]
end Go.Proofs.YtiekilpddmdhnaaDoor
