/- The contract of sameFrames at frames that read alike. No condition. -/
import Derived.Test.YtfgiiaaghllfcaaFr1
namespace Go.Proofs.Ytfgiiaaghllfcaa
open Go Go.RowKit Go.ChangeShapes Go.WideShapes Go.Deep
set_option linter.unusedVariables false

theorem FramesR.to {B B' : Nat} {w w' : World} {v : Value} {rs : List (List Int)} {zs : List Int} (hB : B ≤ B') (hw : Same B w w') (h : FramesR B w v rs zs) : FramesR B' w' v rs zs := by
  obtain ⟨vd, vr, hv, h1, h2⟩ := h
  exact ⟨vd, vr, hv, h1.to hB hw, h2.to hB hw⟩

theorem FramesR.shape {B : Nat} {w : World} {v : Value} {rs : List (List Int)} {zs : List Int} (h : FramesR B w v rs zs) : ∃ a c a' c', v = .agg #[.slice a rs.length c, .slice a' zs.length c'] := by
  obtain ⟨vd, vr, rfl, ⟨a, c, rfl, _⟩, ⟨a', c', rfl, _⟩⟩ := h
  exact ⟨a, c, a', c', rfl⟩

theorem same_drewN (B : Nat) (w : World) (n : Nat) : Same B w (w.drewN n) := fun _ _ _ => rfl

set_option maxHeartbeats 1000000 in
theorem sameFrames_yes (v1 v2 : Value) (rs : List (List Int)) (zs : List Int) (w : World) (h1 : FramesR w.heap.size w v1 rs zs) (h2 : FramesR w.heap.size w v2 rs zs) :
    Calls Try.prog 34 #[v1, v2] w fun e w' => e = .returned (.bool true) ∧ Below w.heap.size w w' := by
  obtain ⟨d1, r1, rfl, hd1, hr1⟩ := h1
  obtain ⟨d2, r2, rfl, hd2, hr2⟩ := h2
  obtain ⟨a1, c1, rfl, hl, _, hc1⟩ := hd1
  obtain ⟨a2, c2, rfl, _, _, hc2⟩ := hd2
  have hr1' := hr1
  have hr2' := hr2
  obtain ⟨ar1, cr1, hrv1, hlr, _, _⟩ := hr1'
  obtain ⟨ar2, cr2, hrv2, _, _, _⟩ := hr2'
  subst hrv1 hrv2
  have Hc1 := Lib.hid hc1
  have Hc2 := Lib.hid hc2
  have Hr1 := Lib.hid hr1
  have Hr2 := Lib.hid hr2
  clear hc1 hc2 hr1 hr2
  go_enter Try.func34, Try.ntmps34
  go_wp2_with fail
  refine (sameInts_yes (B := w.heap.size) _ _ zs _ ?_ ?_).mono ?_
  · exact Hr1.out.to (Nat.le_refl _) (same_below (below_alloc2 _ _ _))
  · exact Hr2.out.to (Nat.le_refl _) (same_below (below_alloc2 _ _ _))
  rintro e w1 ⟨rfl, n, rfl⟩
  go_wp2
  go_loopw [5] (fun i wr => ∃ k : Nat, k ≤ rs.length ∧ i = .int .i64 k ∧ wr.heap[w.heap.size]? = some (.cells #[.slice a1 rs.length c1, .slice ar1 zs.length cr1] 28 (0, 0)) ∧ wr.heap[w.heap.size + 1]? = some (.cells #[.slice a2 rs.length c2, .slice ar2 zs.length cr2] 28 (0, 0)) ∧ Below w.heap.size w wr) (fun i _ => rs.length - (intOf i).toNat)
  case atStart => exact ⟨0, Nat.zero_le _, rfl, (alloc_lt (by simp)).trans (alloc_at rfl), alloc_at (by simp), below_drewN (below_alloc2 _ _ _) _⟩
  case round =>
    obtain ⟨k, hk, rfl, hx1, hx2, hbel⟩ := hrel
    have e10 : wr.cell? ⟨w.heap.size, 0, none⟩ = some (.slice a1 rs.length c1) := cell_block hx1 0
    have e20 : wr.cell? ⟨w.heap.size + 1, 0, none⟩ = some (.slice a2 rs.length c2) := cell_block hx2 0
    by_cases hlt : k < rs.length
    · obtain ⟨b, off, vi, ha, hb, hcell, hvi⟩ := Hc1.out k hlt
      obtain ⟨b', off', vi', ha', hb', hcell', hvi'⟩ := Hc2.out k hlt
      subst ha ha'
      have S := same_below hbel
      rw [← S b _ hb] at hcell
      rw [← S b' _ hb'] at hcell'
      obtain ⟨ax, cx, hx, _, _, _⟩ := id hvi
      obtain ⟨ax', cx', hx', _, _, _⟩ := id hvi'
      subst hx hx'
      have Hv := Lib.hid (hvi.to (Nat.le_refl _) S)
      have Hv' := Lib.hid (hvi'.to (Nat.le_refl _) S)
      clear hvi hvi' S Hr1 Hr2 Hc1 Hc2
      have Hx1 := Lib.hid hx1
      have Hx2 := Lib.hid hx2
      clear hx1 hx2
      go_wp2
      go_quiet ((go_at_call 79; refine (sameInts_yes (B := w.heap.size) _ _ rs[k] _ ?_ ?_).mono ?_; exact Hv.out; exact Hv'.out; rintro e w1 ⟨rfl, n1, rfl⟩; exact ⟨rfl, _, World.drewN_drewN _ _ _⟩))
      go_wp2
      go_roundw
      case rel => exact ⟨k + 1, by omega, by go_num, Hx1.out, Hx2.out, below_drewN hbel _⟩
      case measure => simp [intOf]; omega
    · go_wp2
      go_ret
      exact ⟨rfl, hbel⟩
end Go.Proofs.Ytfgiiaaghllfcaa
