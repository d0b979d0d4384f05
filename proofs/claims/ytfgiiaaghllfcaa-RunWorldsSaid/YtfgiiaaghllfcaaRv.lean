/- The contract of the reference's WorldFault. No condition beyond the readings. -/
import Derived.Test.YtfgiiaaghllfcaaRw
namespace Go.Proofs.Ytfgiiaaghllfcaa
open Go Go.RowKit Go.ChangeShapes Go.WideShapes Go.Deep
set_option linter.unusedVariables false

theorem in_far (z : Int) (w : World) : Calls Try.prog 82 #[.int .i64 z, .int .i64 0, .int .i64 3000] w fun e w' => e = .returned (.bool (!farB z)) ∧ w = w' := by
  have HE : (!farB z) = inB z 0 3000 := by unfold farB inB; rw [Bool.not_not]
  rw [HE]
  exact in_any z 0 3000 w

set_option maxHeartbeats 16000000 in
set_option maxRecDepth 100000 in
theorem wfault_any (a0 a1 a2 a3 : Option Addr) (c0 c1 c2 c3 : Nat) (is vs : List Int) (bs : List (List Int)) (ds : List Int) (w : World)
    (h0 : Ints w.heap.size w (.slice a0 is.length c0) is) (h1 : Ints w.heap.size w (.slice a1 vs.length c1) vs) (h2 : RowsR w.heap.size w (.slice a2 bs.length c2) bs) (h3 : Ints w.heap.size w (.slice a3 ds.length c3) ds) :
    Calls Try.prog 58 #[.agg #[.slice a0 is.length c0, .slice a1 vs.length c1, .slice a2 bs.length c2, .slice a3 ds.length c3]] w (WorldPost is vs bs ds w) := by
  obtain ⟨b2, d2, hb2, hlb, _, hcb⟩ := id h2
  obtain ⟨e0, d0, hb0, _, _, hc0⟩ := id h0
  obtain ⟨e3, d3, hb3, _, _, hc3⟩ := id h3
  simp only [Value.slice.injEq, true_and] at hb2 hb0 hb3
  obtain ⟨rfl, rfl⟩ := hb2
  obtain ⟨rfl, rfl⟩ := hb0
  obtain ⟨rfl, rfl⟩ := hb3
  have H0 := Lib.hid hc0
  have H1 := Lib.hid h1
  have H3 := Lib.hid hc3
  have HB := Lib.hid hcb
  clear h0 h1 h2 h3 hcb hc0 hc3
  by_cases hsz : 1000 < is.length ∨ 1000 < vs.length ∨ 1000 < bs.length ∨ 1000 < ds.length
  · have HS := Lib.hid (worldC_size hsz)
    have hsz' : 1000 < is.length ∨ (¬ 1000 < is.length ∧ 1000 < vs.length) ∨ (¬ 1000 < is.length ∧ ¬ 1000 < vs.length ∧ 1000 < bs.length) ∨ (¬ 1000 < is.length ∧ ¬ 1000 < vs.length ∧ ¬ 1000 < bs.length ∧ 1000 < ds.length) := by omega
    clear hsz
    rcases hsz' with l1 | ⟨l1, l2⟩ | ⟨l1, l2, l3⟩ | ⟨l1, l2, l3, l4⟩
    all_goals go_enter Try.func58, Try.ntmps58
    all_goals go_wp2
    all_goals go_ret
    all_goals exact ⟨ret_int HS.out, below_alloc _ _⟩
  · have HS := Lib.hid hsz
    have l1 : is.length ≤ 1000 := by omega
    have l2 : vs.length ≤ 1000 := by omega
    have l3 : bs.length ≤ 1000 := by omega
    have l4 : ds.length ≤ 1000 := by omega
    clear hsz
    go_enter Try.func58, Try.ntmps58
    go_wp2
    go_loop [3] (fun i => ∃ k : Nat, k ≤ is.length ∧ i = .int .i64 k ∧ Hid (∀ j, j < k → farB (is.getD j 0) = false)) (fun i => is.length - (intOf i).toNat)
    case atStart => exact ⟨0, Nat.zero_le _, rfl, Lib.hid fun j hj => absurd hj (Nat.not_lt_zero _)⟩
    case round =>
      obtain ⟨k, hk, rfl, A⟩ := hrel
      by_cases hlt : k < is.length
      · obtain ⟨b, off, vi, ha, hb, hcell, hvi, _⟩ := H0.out k hlt
        subst ha hvi
        have HG := Lib.hid (miss_grow A.out hlt)
        have HH := Lib.hid (any_hit (p := farB) hlt)
        generalize is[k] = z at *
        have hcall := Lib.hid (in_far z)
        cases hq : farB z with
        | true =>
          rw [hq] at hcall
          have HQ := Lib.hid hq
          clear hq
          go_wp2_with (go_at_call 82; refine (hcall.out _).mono ?_; rintro e w' ⟨rfl, rfl⟩)
          go_ret
          exact ⟨ret_int (worldC_odd HS.out (Or.inr (Or.inl (HH.out HQ.out)))), below_alloc _ _⟩
        | false =>
          rw [hq] at hcall
          have HQ := Lib.hid hq
          clear hq
          go_wp2_with (go_at_call 82; refine (hcall.out _).mono ?_; rintro e w' ⟨rfl, rfl⟩)
          go_round
          case rel => exact ⟨k + 1, by omega, by go_num, Lib.hid (HG.out HQ.out)⟩
          case measure => simp [intOf]; omega
      · have M0 := Lib.hid (any_miss (p := farB) (zs := is) (fun j hj => A.out j (by omega)))
        clear A H0
        go_wp2
        go_loop [4] (fun i => ∃ k : Nat, k ≤ ds.length ∧ i = .int .i64 k ∧ Hid (∀ j, j < k → farB (ds.getD j 0) = false)) (fun i => ds.length - (intOf i).toNat)
        case atStart => exact ⟨0, Nat.zero_le _, rfl, Lib.hid fun j hj => absurd hj (Nat.not_lt_zero _)⟩
        case round =>
          obtain ⟨k, hk, rfl, A⟩ := hrel
          by_cases hlt : k < ds.length
          · obtain ⟨b, off, vi, ha, hb, hcell, hvi, _⟩ := H3.out k hlt
            subst ha hvi
            have HG := Lib.hid (miss_grow A.out hlt)
            have HH := Lib.hid (any_hit (p := farB) hlt)
            generalize ds[k] = z at *
            have hcall := Lib.hid (in_far z)
            cases hq : farB z with
            | true =>
              rw [hq] at hcall
              have HQ := Lib.hid hq
              clear hq
              go_wp2_with (go_at_call 82; refine (hcall.out _).mono ?_; rintro e w' ⟨rfl, rfl⟩)
              go_ret
              exact ⟨ret_int (worldC_odd HS.out (Or.inr (Or.inr (HH.out HQ.out)))), below_alloc _ _⟩
            | false =>
              rw [hq] at hcall
              have HQ := Lib.hid hq
              clear hq
              go_wp2_with (go_at_call 82; refine (hcall.out _).mono ?_; rintro e w' ⟨rfl, rfl⟩)
              go_round
              case rel => exact ⟨k + 1, by omega, by go_num, Lib.hid (HG.out HQ.out)⟩
              case measure => simp [intOf]; omega
          · have M3 := Lib.hid (any_miss (p := farB) (zs := ds) (fun j hj => A.out j (by omega)))
            clear A H3
            go_wp2_with (go_at_call 90; refine (may_or (wordsMay_any _ vs _ ?_)).mono ?_; (exact H1.out.to (by simp) (same_alloc _ _)); rintro e w' (⟨rfl, ho1, n1, rfl⟩ | ⟨rfl, ho1, n1, rfl⟩))
            · go_ret
              exact ⟨ret_int (worldC_odd HS.out (Or.inl ho1.out)), below_drewN (below_alloc _ _) _⟩
            · have HG := Lib.hid (worldC_go (bs := bs) HS.out (by rw [ho1.out, M0.out, M3.out]; decide))
              clear ho1 M0 M3
              go_loopw [5] (fun i wr => ∃ k q : Nat, k ≤ bs.length ∧ i = .int .i64 k ∧ wr = (w.alloc (.cells #[.slice a0 is.length c0, .slice a1 vs.length c1, .slice a2 bs.length c2, .slice a3 ds.length c3] 70)).drewN q ∧ Hid (blocksC (bs.drop k) = worldC is vs bs ds)) (fun i _ => bs.length - (intOf i).toNat)
              case atStart => exact ⟨0, _, Nat.zero_le _, rfl, rfl, HG⟩
              case round =>
                obtain ⟨k, q, hk, rfl, rfl, A⟩ := hrel
                by_cases hlt : k < bs.length
                · obtain ⟨b, off, vi, ha, hb, hcell, hvi⟩ := HB.out k hlt
                  subst ha
                  obtain ⟨ai, ci, hvs, _⟩ := id hvi
                  subst hvs
                  rw [← getD_of hlt []] at hcell hvi
                  have HSZ := Lib.hid (fun h => (blocks_size hlt h).symm.trans A.out)
                  have HOD := Lib.hid (fun h h2 => (blocks_odd hlt h h2).symm.trans A.out)
                  have HON := Lib.hid (fun h h2 => (blocks_on hlt h h2).symm.trans A.out)
                  have HV := Lib.hid hvi
                  generalize bs.getD k [] = row at *
                  clear hvi
                  by_cases h16 : row.length = 16
                  · have hb16 : ((row.length : Int) != 16) = false := by rw [bne_eq_false_iff_eq]; omega
                    have H16 := Lib.hid h16
                    clear h16
                    go_wp2_with (go_at_call 90; refine (may_or (wordsMay_any _ row _ ?_)).mono ?_; (exact HV.out.to (by simp) (same_below (below_drewN (below_alloc _ _) _))); rintro e w' (⟨rfl, ho4, n4, rfl⟩ | ⟨rfl, ho4, n4, rfl⟩))
                    · go_ret
                      exact ⟨ret_int (HOD.out H16.out ho4.out), below_drewN (below_alloc _ _) _⟩
                    · go_roundw
                      case rel => exact ⟨k + 1, _, by omega, by go_num, rfl, Lib.hid (HON.out H16.out ho4.out)⟩
                      case measure => simp [intOf]; omega
                  · have hb16 : ((row.length : Int) != 16) = true := by rw [bne_iff_ne]; omega
                    have HQ := Lib.hid (HSZ.out h16)
                    clear h16
                    go_wp2
                    go_ret
                    exact ⟨ret_int HQ.out, below_drewN (below_alloc _ _) _⟩
                · obtain rfl : k = bs.length := by omega
                  have HE := Lib.hid ((blocks_end (bs := bs)).symm.trans A.out)
                  go_wp2
                  go_ret
                  exact ⟨ret_int HE.out, below_drewN (below_alloc _ _) _⟩
end Go.Proofs.Ytfgiiaaghllfcaa
