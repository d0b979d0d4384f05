/- Contracts of slices.IndexFunc and slices.ContainsFunc at numbers, for whatever predicate that writes nothing. No condition beyond the readings. -/
import Derived.Test.YtiekilpddmdhnaaDoorBase
import Derived.Lib.Walk
import Derived.Shelf.Abstract
import Derived.Deep.LoopGhost
import Derived.Deep.Draws
namespace Go.Proofs.YtiekilpddmdhnaaDoor
open Go Go.RowKit Go.ChangeShapes Go.WideShapes Go.Deep
set_option linter.unusedVariables false

/-- What a predicate that is handed over answers. -/
def PredIs (g : Nat) (p : Int → Bool) : Prop := ∀ (z : Int) (W : World), -9223372036854775808 ≤ z → z ≤ 9223372036854775807 → Calls Tryd.prog g #[.int .i64 z] W fun e w' => e = .returned (.bool (p z)) ∧ W = w'

theorem any_hit {p : Int → Bool} {zs : List Int} {k : Nat} (hk : k < zs.length) (h : p zs[k] = true) : zs.any p = true := List.any_eq_true.2 ⟨_, List.getElem_mem hk, h⟩
theorem any_miss {p : Int → Bool} {zs : List Int} (h : ∀ j, j < zs.length → p (zs.getD j 0) = false) : zs.any p = false := by
  rw [List.any_eq_false]
  intro x hx
  obtain ⟨i, hi, rfl⟩ := List.mem_iff_getElem.1 hx
  have := h i hi
  simp [List.getD, hi] at this
  simp [this]
theorem miss_grow {p : Int → Bool} {zs : List Int} {k : Nat} (h : ∀ j, j < k → p (zs.getD j 0) = false) (hk : k < zs.length) (h1 : p zs[k] = false) : ∀ j, j < k + 1 → p (zs.getD j 0) = false := by
  intro j hj
  rcases Nat.lt_succ_iff_lt_or_eq.1 hj with hj | rfl
  · exact h j hj
  · simpa [List.getD, hk] using h1

set_option maxHeartbeats 1000000 in
theorem idxF_any (g : Nat) (p : Int → Bool) (eg : ∀ args w, (callFunc g args).run Tryd.prog w = .ok (.enter g args) w) (hp : PredIs g p) (v : Value) (zs : List Int) (w : World) (hf : Ints w.heap.size w v zs) :
    Calls Tryd.prog 72 #[v, .func (.func g) #[] #[]] w fun e w' => (∃ i : Int, e = .returned (.int .i64 i) ∧ -1 ≤ i ∧ i ≤ 17592186043904 ∧ ((0 ≤ i) = (zs.any p = true))) ∧ ∃ n, w' = w.drewN n := by
  obtain ⟨a, c, rfl, hl, _, hc⟩ := hf
  have Hc := Lib.hid hc
  have HP := Lib.hid hp
  clear hc hp
  go_enter Tryd.func72, Tryd.ntmps72
  go_wp2
  go_loopg [5, 8] zs.length (fun gg _ s8 wr => ∃ k q : Nat, k ≤ zs.length ∧ zs.length - k ≤ gg ∧ s8 = .int .i64 k ∧ wr = w.drewN q ∧ Hid (∀ j, j < k → p (zs.getD j 0) = false))
  case atStart => exact ⟨0, 0, Nat.zero_le _, by omega, rfl, rfl, Lib.hid fun j hj => absurd hj (Nat.not_lt_zero _)⟩
  case round =>
    obtain ⟨k, q, hk, hg, rfl, rfl, A⟩ := hrel
    by_cases hlt : k < zs.length
    · obtain ⟨b, off, vi, ha, hb, hcell, hvi, hz⟩ := Hc.out k hlt
      subst ha hvi
      have HG := Lib.hid (miss_grow A.out hlt)
      have HH := Lib.hid (any_hit (p := p) hlt)
      obtain ⟨z1, z2⟩ := hz
      generalize zs[k] = z at *
      have hcall := Lib.hid (fun W => HP.out z W z1 z2)
      cases hq : p z with
      | true =>
        rw [hq] at hcall
        have HQ := Lib.hid hq
        clear hq
        go_wp2_with (go_at_fn g; refine (hcall.out _).mono ?_; rintro e w' ⟨rfl, rfl⟩)
        go_ret
        exact ⟨⟨k, rfl, by omega, by omega, by simp [HH.out HQ.out]⟩, _, rfl⟩
      | false =>
        rw [hq] at hcall
        have HQ := Lib.hid hq
        clear hq
        go_wp2_with (go_at_fn g; refine (hcall.out _).mono ?_; rintro e w' ⟨rfl, rfl⟩)
        go_roundg (zs.length - (k + 1))
        case measure => omega
        case rel => exact ⟨k + 1, _, by omega, by omega, by go_num, rfl, Lib.hid (HG.out HQ.out)⟩
    · have hm := any_miss (p := p) (zs := zs) (fun j hj => A.out j (by omega))
      have HM := Lib.hid hm
      clear hm
      go_wp2
      go_ret
      exact ⟨⟨-1, rfl, by omega, by omega, by simp [HM.out]⟩, q, rfl⟩

theorem containsF_any (g : Nat) (p : Int → Bool) (eg : ∀ args w, (callFunc g args).run Tryd.prog w = .ok (.enter g args) w) (hp : PredIs g p) (v : Value) (zs : List Int) (w : World) (hf : Ints w.heap.size w v zs) :
    Calls Tryd.prog 50 #[v, .func (.func g) #[] #[]] w fun e w' => e = .returned (.bool (zs.any p)) ∧ ∃ n, w' = w.drewN n := by
  have HI := Lib.hid (idxF_any g p eg hp v zs w hf)
  clear hf hp eg
  go_enter Tryd.func50, Tryd.ntmps50
  go_wp2_with fail
  refine HI.out.mono ?_
  rintro e w' ⟨⟨i, rfl, h1, h2, h3⟩, n, rfl⟩
  have H3 := Lib.hid h3
  clear h3
  go_wp2
  go_ret
  refine ⟨ret_bool ?_, n, rfl⟩
  rw [Bool.eq_iff_iff, decide_eq_true_iff, H3.out]

/-- A number that is no word. -/
def oddB (z : Int) : Bool := !(decide (-1099511627776 ≤ z) && decide (z ≤ 1099511627776))
theorem odd_true {z : Int} (h : z < -1099511627776 ∨ 1099511627776 < z) : oddB z = true := by
  unfold oddB
  rw [Bool.not_eq_true', Bool.and_eq_false_iff, decide_eq_false_iff_not, decide_eq_false_iff_not]
  omega
theorem odd_false {z : Int} (h : -1099511627776 ≤ z ∧ z ≤ 1099511627776) : oddB z = false := by simp [oddB, h]

theorem cword_or (z : Int) (w : World) : Calls Tryd.prog 56 #[.int .i64 z] w fun e w' => e = .returned (.bool (!oddB z)) ∧ w = w' := by
  by_cases h1 : -1099511627776 ≤ z
  · by_cases h2 : z ≤ 1099511627776
    · rw [odd_false ⟨h1, h2⟩]
      go_enter Tryd.func56, Tryd.ntmps56
      go_wp2
      go_ret
      simp_all
    · rw [odd_true (by omega)]
      go_enter Tryd.func56, Tryd.ntmps56
      go_wp2
      go_ret
      simp_all
  · rw [odd_true (by omega)]
    go_enter Tryd.func56, Tryd.ntmps56
    go_wp2
    go_ret
    simp_all
theorem wordMay_any (z : Int) (w : World) : Calls Tryd.prog 73 #[.int .i64 z] w fun e w' => e = .returned (.bool (!oddB z)) ∧ w = w' := by
  have H := Lib.hid (in_any z (-1099511627776) 1099511627776)
  have HE : (!oddB z) = inB z (-1099511627776) 1099511627776 := by unfold oddB inB; rw [Bool.not_not]
  have HE := Lib.hid HE
  go_enter Tryd.func73, Tryd.ntmps73
  go_wp2_with (go_at_call 26; refine (H.out _).mono ?_; rintro e w' ⟨rfl, rfl⟩)
  go_ret
  exact ⟨ret_bool HE.out.symm, rfl⟩

set_option maxHeartbeats 1000000 in
theorem wordsMay_any (v : Value) (zs : List Int) (w : World) (hf : Ints w.heap.size w v zs) : Calls Tryd.prog 53 #[v] w fun e w' => e = .returned (.bool (!zs.any oddB)) ∧ ∃ n, w' = w.drewN n := by
  obtain ⟨a, c, rfl, hl, _, hc⟩ := hf
  have Hc := Lib.hid hc
  clear hc
  go_enter Tryd.func53, Tryd.ntmps53
  go_wp2
  go_loopw [3] (fun i wr => ∃ k q : Nat, k ≤ zs.length ∧ i = .int .i64 k ∧ wr = w.drewN q ∧ Hid (∀ j, j < k → oddB (zs.getD j 0) = false)) (fun i _ => zs.length - (intOf i).toNat)
  case atStart => exact ⟨0, 0, Nat.zero_le _, rfl, rfl, Lib.hid fun j hj => absurd hj (Nat.not_lt_zero _)⟩
  case round =>
    obtain ⟨k, q, hk, rfl, rfl, A⟩ := hrel
    by_cases hlt : k < zs.length
    · obtain ⟨b, off, vi, ha, hb, hcell, hvi, hz⟩ := Hc.out k hlt
      subst ha hvi
      have HG := Lib.hid (miss_grow A.out hlt)
      have HH := Lib.hid (any_hit (p := oddB) hlt)
      generalize zs[k] = z at *
      clear hz
      have hcall := Lib.hid (wordMay_any z)
      cases hq : oddB z with
      | true =>
        rw [hq] at hcall
        have HQ := Lib.hid hq
        clear hq
        go_wp2_with (go_at_call 73; refine (hcall.out _).mono ?_; rintro e w' ⟨rfl, rfl⟩)
        go_ret
        exact ⟨ret_bool (by rw [HH.out HQ.out]; rfl), q, rfl⟩
      | false =>
        rw [hq] at hcall
        have HQ := Lib.hid hq
        clear hq
        go_wp2_with (go_at_call 73; refine (hcall.out _).mono ?_; rintro e w' ⟨rfl, rfl⟩)
        go_roundw
        case rel => exact ⟨k + 1, _, by omega, by go_num, rfl, Lib.hid (HG.out HQ.out)⟩
        case measure => simp [intOf]; omega
    · have hm := any_miss (p := oddB) (zs := zs) (fun j hj => A.out j (by omega))
      have HM := Lib.hid hm
      clear hm
      go_wp2
      go_ret
      exact ⟨ret_bool (by rw [HM.out]; rfl), q, rfl⟩
end Go.Proofs.YtiekilpddmdhnaaDoor
