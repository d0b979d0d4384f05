/- Contracts of stub.list, stub.Check and of the reference's placesMay, SessionMay. No condition beyond the readings. -/
import Derived.Test.YtfgiiaaghllfcaaOp2
import Derived.Test.YtfgiiaaghllfcaaFr3
namespace Go.Proofs.Ytfgiiaaghllfcaa
open Go Go.RowKit Go.ChangeShapes Go.WideShapes Go.Deep
set_option linter.unusedVariables false

/-- A place that may stand at k. -/
def PlaceAt (l : List Int) (k : Nat) : Prop := 0 ≤ l.getD k 0 ∧ l.getD k 0 < 256 ∧ (k = 0 ∨ l.getD (k - 1) 0 < l.getD k 0)
/-- Places that rise, from 0 on. -/
def Places (l : List Int) : Prop := l.length ≤ 20 ∧ ∀ k, k < l.length → PlaceAt l k
def ListPost (l : List Int) (w : World) (e : Ending) (w' : World) : Prop := ((Places l ∧ e = .returned (.bool true)) ∨ (¬ Places l ∧ e = .returned (.bool false))) ∧ ∃ n, w' = w.drewN n
theorem pl_grow {l : List Int} {k : Nat} (h : ∀ j, j < k → PlaceAt l j) (h1 : PlaceAt l k) : ∀ j, j < k + 1 → PlaceAt l j := by
  intro j hj
  rcases Nat.lt_succ_iff_lt_or_eq.1 hj with hj | rfl
  · exact h j hj
  · exact h1
theorem pl_no {l : List Int} {k : Nat} (hk : k < l.length) (h : ¬ PlaceAt l k) : ¬ Places l := fun h' => h (h'.2 k hk)
theorem pl_end {l : List Int} (h : ∀ j, j < l.length → PlaceAt l j) : Places l ↔ l.length ≤ 20 := ⟨fun h' => h'.1, fun h' => ⟨h', h⟩⟩

set_option maxHeartbeats 2000000 in
theorem list_any (v : Value) (l : List Int) (w : World) (hf : Ints w.heap.size w v l) : Calls Try.prog 83 #[v] w (ListPost l w) := by
  obtain ⟨a, c, rfl, hl, _, hc⟩ := hf
  have Hc := Lib.hid hc
  clear hc
  go_enter Try.func83, Try.ntmps83
  go_wp2
  go_loop [7] (fun i => ∃ k : Nat, k ≤ l.length ∧ i = .int .i64 k ∧ Hid (∀ j, j < k → PlaceAt l j)) (fun i => l.length - (intOf i).toNat)
  case atStart => exact ⟨0, Nat.zero_le _, rfl, Lib.hid fun j hj => absurd hj (Nat.not_lt_zero _)⟩
  case round =>
    obtain ⟨k, hk, rfl, A⟩ := hrel
    by_cases hlt : k < l.length
    · obtain ⟨b, off, vi, ha, hb, hcell, hvi, hz⟩ := Hc.out k hlt
      have hzz := getD_of hlt 0
      subst ha hvi
      generalize l[k] = z at *
      have Hzz := Lib.hid hzz
      clear hz hzz
      have HG := Lib.hid (fun (h : 0 ≤ z ∧ z < 256 ∧ (k = 0 ∨ l.getD (k - 1) 0 < z)) => pl_grow A.out (show PlaceAt l k by unfold PlaceAt; rw [Hzz.out]; exact h))
      have HN := Lib.hid (fun (h : ¬ (0 ≤ z ∧ z < 256 ∧ (k = 0 ∨ l.getD (k - 1) 0 < z))) => pl_no hlt (show ¬ PlaceAt l k by unfold PlaceAt; rw [Hzz.out]; exact h))
      cases k with
      | zero =>
        simp only [Nat.add_zero] at hcell
        clear Hc
        go_wp2
        all_goals first
          | (go_ret; exact ⟨Or.inr ⟨HN.out (by omega), rfl⟩, 0, rfl⟩)
          | (go_round
             case rel => exact ⟨1, by omega, by go_num, HG.out (by omega) |> Lib.hid⟩
             case measure => simp [intOf]; omega)
      | succ m =>
        obtain ⟨b1, off1, vi1, ha1, hb1, hcell1, hvi1, hz1⟩ := Hc.out m (by omega)
        have hxx := getD_of (show m < l.length by omega) 0
        simp only [Option.some.injEq, Addr.mk.injEq, and_true] at ha1
        obtain ⟨rfl, rfl⟩ := ha1
        subst hvi1
        simp only [Nat.add_sub_cancel] at HG HN
        rw [hxx] at HG HN
        generalize l[m] = x at *
        clear hz1 hxx Hc
        go_wp2
        all_goals first
          | (go_ret; exact ⟨Or.inr ⟨HN.out (by omega), rfl⟩, 0, rfl⟩)
          | (go_round
             case rel => exact ⟨m + 1 + 1, by omega, by go_num, HG.out (by omega) |> Lib.hid⟩
             case measure => simp [intOf]; omega)
    · have hp := pl_end (l := l) (fun j hj => A.out j (by omega))
      have HP := Lib.hid hp
      clear hp
      by_cases h20 : l.length ≤ 20
      · go_wp2
        go_ret
        exact ⟨Or.inl ⟨HP.out.2 h20, ret_bool (by simp; omega)⟩, 0, rfl⟩
      · go_wp2
        go_ret
        exact ⟨Or.inr ⟨fun h => h20 (HP.out.1 h), ret_bool (by simp; omega)⟩, 0, rfl⟩

set_option maxHeartbeats 4000000 in
theorem places_any (v : Value) (l : List Int) (w : World) (hf : Ints w.heap.size w v l) : Calls Try.prog 84 #[v] w (ListPost l w) := by
  obtain ⟨a, c, rfl, hl, _, hc⟩ := hf
  have Hc := Lib.hid hc
  clear hc
  by_cases h20 : l.length ≤ 20
  · have h20' : ¬ (20 : Int) < (l.length : Int) := by omega
    go_enter Try.func84, Try.ntmps84
    go_wp2
    go_loopw [3] (fun i wr => ∃ k q : Nat, k ≤ l.length ∧ i = .int .i64 k ∧ wr = w.drewN q ∧ Hid (∀ j, j < k → PlaceAt l j)) (fun i _ => l.length - (intOf i).toNat)
    case atStart => exact ⟨0, 0, Nat.zero_le _, rfl, rfl, Lib.hid fun j hj => absurd hj (Nat.not_lt_zero _)⟩
    case round =>
      obtain ⟨k, q, hk, rfl, rfl, A⟩ := hrel
      by_cases hlt : k < l.length
      · obtain ⟨b, off, vi, ha, hb, hcell, hvi, hz⟩ := Hc.out k hlt
        have hzz := getD_of hlt 0
        subst ha hvi
        generalize l[k] = z at *
        have Hzz := Lib.hid hzz
        clear hz hzz
        have HG := Lib.hid (fun (h : 0 ≤ z ∧ z < 256 ∧ (k = 0 ∨ l.getD (k - 1) 0 < z)) => pl_grow A.out (show PlaceAt l k by unfold PlaceAt; rw [Hzz.out]; exact h))
        have HN := Lib.hid (fun (h : ¬ (0 ≤ z ∧ z < 256 ∧ (k = 0 ∨ l.getD (k - 1) 0 < z))) => pl_no hlt (show ¬ PlaceAt l k by unfold PlaceAt; rw [Hzz.out]; exact h))
        have hlo : (0 : Int) ≤ (k : Int) := by omega
        have hhi : (k : Int) < (l.length : Int) := by omega
        by_cases hin : 0 ≤ z ∧ z ≤ 255
        · cases k with
          | zero =>
            simp only [Nat.add_zero] at hcell
            clear Hc
            go_wp2_with fail
            go_quiet ((go_at_call 82; refine (in_yes _ _ _ _ hin).mono ?_; rintro e w1 ⟨rfl, rfl⟩; exact ⟨rfl, _, rfl⟩))
            go_wp2
            go_roundw
            case rel => exact ⟨1, q + nq, by omega, by go_num, rfl, Lib.hid (HG.out (by simp; omega))⟩
            case measure => simp [intOf]; omega
          | succ m =>
            obtain ⟨b1, off1, vi1, ha1, hb1, hcell1, hvi1, hz1⟩ := Hc.out m (by omega)
            have hxx := getD_of (show m < l.length by omega) 0
            simp only [Option.some.injEq, Addr.mk.injEq, and_true] at ha1
            obtain ⟨rfl, rfl⟩ := ha1
            subst hvi1
            simp only [Nat.add_sub_cancel] at HG HN
            rw [hxx] at HG HN
            generalize l[m] = x at *
            clear hz1 hxx Hc
            have hg : decide ((0 : Int) < (m : Int) + 1) = true := by rw [decide_eq_true_iff]; omega
            by_cases hle : z ≤ x
            · go_wp2_with fail
              go_quiet ((go_at_call 82; refine (in_yes _ _ _ _ hin).mono ?_; rintro e w1 ⟨rfl, rfl⟩; exact ⟨rfl, _, rfl⟩))
              go_wp2
              go_ret
              exact ⟨Or.inr ⟨HN.out (by omega), rfl⟩, _, World.drewN_drewN _ _ _⟩
            · go_wp2_with fail
              go_quiet ((go_at_call 82; refine (in_yes _ _ _ _ hin).mono ?_; rintro e w1 ⟨rfl, rfl⟩; exact ⟨rfl, _, rfl⟩))
              go_wp2
              go_roundw
              case rel => exact ⟨m + 1 + 1, q + nq, by omega, by go_num, rfl, Lib.hid (HG.out (by omega))⟩
              case measure => simp [intOf]; omega
        · clear Hc
          go_wp2_with fail
          go_quiet ((go_at_call 82; refine (in_no _ _ _ _ hin).mono ?_; rintro e w1 ⟨rfl, rfl⟩; exact ⟨rfl, _, rfl⟩))
          go_wp2
          go_ret
          exact ⟨Or.inr ⟨HN.out (by omega), rfl⟩, _, World.drewN_drewN _ _ _⟩
      · have hp := pl_end (l := l) (fun j hj => A.out j (by omega))
        have HP := Lib.hid hp
        clear hp
        go_wp2
        go_ret
        exact ⟨Or.inl ⟨HP.out.2 h20, rfl⟩, q, rfl⟩
  · have h20' : (20 : Int) < (l.length : Int) := by omega
    go_enter Try.func84, Try.ntmps84
    go_wp2
    go_ret
    exact ⟨Or.inr ⟨fun h => h20 h.1, rfl⟩, 0, rfl⟩
end Go.Proofs.Ytfgiiaaghllfcaa
