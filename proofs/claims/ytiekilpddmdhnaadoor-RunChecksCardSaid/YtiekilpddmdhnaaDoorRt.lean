/- The document's TapeFault. No condition beyond the reading. -/
import Derived.Test.YtiekilpddmdhnaaDoorRc
import Derived.Test.YtiekilpddmdhnaaDoorTe
namespace Go.Proofs.YtiekilpddmdhnaaDoor
open Go Go.RowKit Go.ChangeShapes Go.WideShapes Go.ChangeAt
set_option linter.unusedVariables false

set_option maxHeartbeats 4000000 in
set_option maxRecDepth 100000 in
theorem tapefault_any (vi ve : Value) (img : List Int) (b : List UInt8) (cnt : Int) (w : World) (hi : Ints w.heap.size w vi img) (hb : BytesR w.heap.size w ve b) (hc : I64 cnt) : Calls Tryd.prog 11 #[.agg #[vi, ve, .int .i64 cnt]] w (ChkPost img b cnt w) := by
  have HI := Lib.hid hi
  have HB := Lib.hid hb
  obtain ⟨ai, ci, rfl, _⟩ := id hi
  obtain ⟨ae, ce, rfl, _⟩ := id hb
  clear hi hb
  have hnc : newC img = 0 ∨ newC img ≠ 0 := by omega
  generalize hcc : newC img = nc at hnc
  go_enter Tryd.func11, Tryd.ntmps11
  go_wp2_with fail
  refine (guestnew_all _ img _ (HI.out.to (by simp) (same_alloc _ _))).mono ?_
  rintro e w1 ⟨ar, cr, am, cm, ao, co, he, hown, hb1⟩
  rw [Mach.agg] at he
  rw [hcc] at he
  subst he
  have hx := block_below hb1 (g := w.heap.size) (alloc_at rfl) (by simp)
  have lt1 : w.heap.size < w1.heap.size := by have := hb1.size; simp at this; omega
  have q0 : w1.cell? ⟨w.heap.size, 0, none⟩ = some (.slice ai img.length ci) := cell_block hx 0
  have q1 : w1.cell? ⟨w.heap.size, 1, none⟩ = some (.slice ae b.length ce) := cell_block hx 1
  have q2 : w1.cell? ⟨w.heap.size, 2, none⟩ = some (.int .i64 cnt) := cell_block hx 2
  have HB1 := Lib.hid ((below_alloc w _).trans (hb1.mono (by simp)))
  have HBA := Lib.hid (fun O => (HB1.out).alloc (Nat.le_of_lt lt1) O)
  have HX := Lib.hid hx
  have HNC := Lib.hid hnc
  clear hx hb1 hown
  rcases HNC.out with h0 | h0
  · subst h0
    go_wp2_with (go_at_call 26; refine (in_or _ _ _ _).mono ?_; rintro e w' (⟨rfl, rfl, hlo, hhi⟩ | ⟨rfl, rfl, hno⟩))
    · have HR := Lib.hid (And.intro hlo hhi)
      clear hlo hhi
      go_wp2_with fail
      refine (eventsOf_any _ b _ (HB.out.to (HBA.out _).size (same_below (HBA.out _)))).mono ?_
      rintro e w2 ⟨d, l, vo, hdec, rfl, hev, hb2⟩
      have hx2 := block_below hb2 (g := w.heap.size) ((alloc_lt lt1).trans HX.out) (by simp; omega)
      have lt2 : w.heap.size < w2.heap.size := by have := hb2.size; simp at this; omega
      have p2 : w2.cell? ⟨w.heap.size, 2, none⟩ = some (.int .i64 cnt) := cell_block hx2 2
      have HB2 := Lib.hid ((HBA.out _).trans (hb2.mono (by simp; omega)))
      have HEV := Lib.hid hev
      have HDE := Lib.hid hdec
      clear hx2 hb2 q0 q1 q2
      by_cases hd : d = 0
      · subst hd
        have HMO := Lib.hid (fun i hi => dec_mono hdec (i := i) hi)
        have HLEN := Lib.hid (dec_canon hdec).2.ok.2
        clear hdec
        obtain ⟨al, cl, rfl, hll, _, hcell⟩ := hev
        have HC := Lib.hid hcell
        clear hcell
        have HNO := Lib.hid (show ∀ (i : Nat) (h : i < l.length), cnt ≤ l[i].at_ → ChkR img b cnt 9 [] from fun i h hle => Or.inr (Or.inr ⟨hcc, HR.out.1, HR.out.2, 0, _, HDE.out, Or.inr (Or.inl ⟨rfl, ⟨i, h, hle⟩, rfl, rfl⟩)⟩))
        have HYES := Lib.hid (show (∀ (i : Nat) (h : i < l.length), l[i].at_ < cnt) → ChkR img b cnt 0 l from fun h => Or.inr (Or.inr ⟨hcc, HR.out.1, HR.out.2, 0, _, HDE.out, Or.inr (Or.inr ⟨rfl, h, rfl, rfl⟩)⟩))
        have hlen := HLEN.out
        go_wp2_with fail
        go_loopg [7] l.length (fun gh s7 wr => ∃ k q : Nat, k ≤ l.length ∧ gh = l.length - k ∧ s7 = .int .i64 k ∧ wr = w2.drewN q ∧ Hid (∀ (i : Nat) (h : i < l.length), i < k → l[i].at_ < cnt))
        case atStart => exact ⟨0, 0, Nat.zero_le _, by omega, rfl, rfl, Lib.hid (fun i h h0 => absurd h0 (Nat.not_lt_zero _))⟩
        case round =>
          obtain ⟨k, q, hk, rfl, rfl, rfl, HALL⟩ := hrel
          by_cases hlt : k < l.length
          · obtain ⟨bb, off, cs, ha, hbb, hcs, hcell, dd, cd, hcs2, i1, i2, hint⟩ := HC.out k hlt
            subst ha hcs2
            have k0 : w2.cell? ⟨bb, off + k * 3, none⟩ = some (.int .i64 l[k].at_) := hcell 0 (by simp)
            have hk1 : (k : Int) < (l.length : Int) := by omega
            have hk0 : (0 : Int) ≤ (k : Int) := by omega
            have HNK := Lib.hid (HNO.out k hlt)
            by_cases hge : cnt ≤ l[k].at_
            · have HP := Lib.hid (HNK.out hge)
              have hged : decide (cnt ≤ l[k].at_) = true := decide_eq_true hge
              clear hcell hcs hint hge HNK
              generalize l[k] = x at *
              go_wp2_with fail
              go_quiet (fail)
              go_wp2
              go_ret2
              exact ChkPost.no HP.out (by first | exact below_drewN HB2.out _ | exact below_drewN (below_drewN HB2.out _) _)
            · have HA2 : Hid (∀ (i : Nat) (h : i < l.length), i < k + 1 → l[i].at_ < cnt) := Lib.hid (fun i h hi => by
                by_cases he : i = k
                · subst he; omega
                · exact HALL.out i h (by omega))
              have hged : decide (cnt ≤ l[k].at_) = false := decide_eq_false hge
              clear hcell hcs hint hge HNK
              generalize l[k] = x at *
              go_wp2_with fail
              go_quiet (fail)
              go_wp2
              go_roundg (l.length - (k + 1))
              case measure => omega
              case rel => exact ⟨k + 1, _, by omega, rfl, by go_num, rfl, HA2⟩
          · have HP := Lib.hid (HYES.out (fun i h => HALL.out i h (by omega)))
            go_wp2
            go_ret2
            exact ⟨0, l, _, HP.out, rfl, HEV.out.to (Nat.le_refl _) (same_below (below_drewN (Below.refl _ _) _)), below_drewN HB2.out _⟩
      · have hl0 := dec_err hdec hd
        subst hl0
        have HP := Lib.hid (show ChkR img b cnt d [] from Or.inr (Or.inr ⟨hcc, HR.out.1, HR.out.2, d, _, HDE.out, Or.inl ⟨hd, rfl, rfl⟩⟩))
        have hd1 : (d != 0) = true := by rw [bne_iff_ne]; exact hd
        clear hd hdec hev
        go_wp2
        go_ret2
        exact ChkPost.no HP.out HB2.out
    · have HP := Lib.hid (show ChkR img b cnt 2 [] from Or.inr (Or.inl ⟨hcc, by omega, rfl, rfl⟩))
      go_wp2
      go_ret2
      exact ChkPost.no HP.out (HBA.out _)
  · have HP := Lib.hid (show ChkR img b cnt nc [] from Or.inl ⟨by rw [hcc]; exact h0, hcc.symm, rfl⟩)
    have hd1 : (nc != 0) = true := by rw [bne_iff_ne]; exact h0
    have hd2 : (nc == 0) = false := by rw [beq_eq_false_iff_ne]; exact h0
    clear h0
    go_wp2
    go_ret2
    exact ChkPost.no HP.out (HBA.out _)
end Go.Proofs.YtiekilpddmdhnaaDoor
