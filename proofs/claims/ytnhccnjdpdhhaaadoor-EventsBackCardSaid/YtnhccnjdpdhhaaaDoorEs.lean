/- Bytes of which one is another one have another sum; in plain Lean; and evlogTells. No condition beyond those of each row. -/
import Derived.Test.YtnhccnjdpdhhaaaDoorEq
import Derived.Test.YtnhccnjdpdhhaaaDoorEw
namespace Go.Proofs.YtnhccnjdpdhhaaaDoor
open Go Go.RowKit Go.ChangeShapes Go.WideShapes Go.Deep
set_option linter.unusedVariables false

def total : List UInt8 → Nat
  | [] => 0
  | c :: bs => c.toNat + total bs
theorem sumS_total (bs : List UInt8) : ∀ x y, x < 65521 → (sumS x y bs).1 = (x + total bs) % 65521 := by
  induction bs with
  | nil => intro x y h; simp only [sumS, total]; omega
  | cons c bs ih =>
    intro x y h
    simp only [sumS, total]
    rw [ih _ _ (Nat.mod_lt _ (by decide))]
    omega
theorem total_set : ∀ (bs : List UInt8) (i : Nat) (x : UInt8) (h : i < bs.length), total (bs.set i x) + bs[i].toNat = total bs + x.toNat := by
  intro bs
  induction bs with
  | nil => intro i x h; simp at h
  | cons c bs ih =>
    intro i x h
    cases i with
    | zero => simp only [List.set_cons_zero, total, List.getElem_cons_zero]; omega
    | succ i =>
      simp only [List.set_cons_succ, total, List.getElem_cons_succ]
      have := ih i x (by simpa using h)
      omega
theorem u8_ne {a b : UInt8} (h : a ≠ b) : a.toNat ≠ b.toNat := fun e => h (by rw [← UInt8.ofNat_toNat (x := a), e, UInt8.ofNat_toNat])
theorem sumB_inj {p q : List UInt8} (h : sumB p = sumB q) : sum1 p = sum1 q := by
  obtain ⟨hx, _⟩ := sumS_lt p 1 0 (by decide) (by decide)
  obtain ⟨hy, _⟩ := sumS_lt q 1 0 (by decide) (by decide)
  change sum1 p < 65521 at hx
  change sum1 q < 65521 at hy
  unfold sumB at h
  simp only [List.cons.injEq, and_true] at h
  obtain ⟨_, _, h2, h3⟩ := h
  have k2 := congrArg UInt8.toNat h2
  have k3 := congrArg UInt8.toNat h3
  rw [u8_nat (by omega), u8_nat (by omega)] at k2 k3
  omega
theorem sumB_set {p : List UInt8} {i : Nat} {x : UInt8} (h : i < p.length) (hx : x ≠ p[i]) : sumB (p.set i x) ≠ sumB p := by
  intro e
  have e1 := sumB_inj e
  unfold sum1 at e1
  rw [sumS_total _ _ _ (by decide), sumS_total _ _ _ (by decide)] at e1
  have t := total_set p i x h
  have h1 := u8_lt x
  have h2 := u8_lt p[i]
  have h3 := u8_ne hx
  omega
theorem set_app_left {α : Type} {a b : List α} {i : Nat} {x : α} (h : i < a.length) : (a ++ b).set i x = a.set i x ++ b := by
  rw [List.set_append]; rw [if_pos h]
theorem spoilt_sum {p : List UInt8} {i : Nat} {x : UInt8} (h1 : 1 ≤ p.length) (h2 : p.length ≤ 59996) (hi : i < (p ++ sumB p).length) (hx : x ≠ (p ++ sumB p)[i]) {c : Int} {l : List Ev} (h : DecR ((p ++ sumB p).set i x) c l) : c = 10 := by
  have hl4 : (sumB p).length = 4 := rfl
  have hlen : ((p ++ sumB p).set i x).length = p.length + 4 := by rw [List.length_set, List.length_append, hl4]
  have key : sumB (((p ++ sumB p).set i x).take (((p ++ sumB p).set i x).length - 4)) ≠ ((p ++ sumB p).set i x).drop (((p ++ sumB p).set i x).length - 4) := by
    rw [hlen, Nat.add_sub_cancel]
    by_cases hip : i < p.length
    · rw [set_app_left hip, List.take_left' (by rw [List.length_set]), List.drop_left' (by rw [List.length_set])]
      rw [List.getElem_append_left hip] at hx
      exact sumB_set hip hx
    · rw [List.set_append, if_neg hip, List.take_left' rfl, List.drop_left' rfl]
      rw [List.getElem_append_right (by omega)] at hx
      intro e
      have hi4 : i - p.length < (sumB p).length := by rw [hl4]; rw [List.length_append, hl4] at hi; omega
      have e2 : (sumB p)[i - p.length] = ((sumB p).set (i - p.length) x)[i - p.length]'(by rw [List.length_set]; exact hi4) := by
        congr 1
      rw [List.getElem_set_self] at e2
      exact hx e2.symm
  rcases h with ⟨h, _⟩ | ⟨h, _⟩ | ⟨_, _, _, h, _⟩ | ⟨_, _, h, _⟩
  · omega
  · omega
  · exact h
  · exact absurd h key
theorem sevens_pos (n : Nat) : 1 ≤ (sevens n).length := by
  by_cases h : n < 128
  · rw [sevens_small h]; simp
  · rw [sevens_more (by omega)]; simp
theorem payE_len {l : List Ev} (h : EvOk l) (hl : l.length ≤ 30) : 1 ≤ (payE l).length ∧ (payE l).length ≤ 10000 := by
  have h1 := evsE_le h l.length (Nat.le_refl _)
  rw [List.take_length] at h1
  have h2 : (sevens l.length).length ≤ 10 := sevens_le10 (by omega)
  have h3 := sevens_pos l.length
  unfold payE
  rw [List.length_append]
  omega

theorem tells_any (w : World) (ht : Tab w) : Calls Tryd.prog 16 #[] w fun e w' => e = .returned (.bool true) ∧ Below w.heap.size w w' := by
  have HE := Lib.hid (encode_good (.slice none 0 0) [] w (SlN.nil _ _ _ _ _) ht (Or.inr (Or.inr ⟨by simp, EvOk.nil, rfl⟩)))
  have hl : (encE []).length = 5 := by unfold encE payE; rw [List.length_append, show (sumB _).length = 4 from rfl]; simp [sevens_small, evsE]
  rw [hl] at HE
  clear hl
  go_enter Tryd.func16, Tryd.ntmps16
  go_wp2_with fail
  refine HE.out.mono ?_
  rintro e w1 ⟨a, c, rfl, ho, hb⟩
  go_wp2
  go_ret
  exact ⟨rfl, hb⟩
end Go.Proofs.YtnhccnjdpdhhaaaDoor
