/- The contracts of the reference's tape: next, zig. No condition beyond those of each row. -/
import Derived.Test.YtiekilpddmdhnaaDoorDf
namespace Go.Proofs.YtiekilpddmdhnaaDoor
open Go Go.RowKit Go.ChangeShapes Go.WideShapes Go.Deep
set_option linter.unusedVariables false

/-- The tape's box. -/
structure Tp (w0 : World) (g : Nat) (B bs : List UInt8) (e : Int) (w : World) : Prop where
  box : ∃ a c, ∃ i : Nat, w.heap[g]? = some (.cells #[.slice a B.length c, .int .i64 i, .int .i64 e] 61 (0, 0)) ∧ BytesR w0.heap.size w0 (.slice a B.length c) B ∧ bs = B.drop i ∧ i ≤ B.length
  ge : w0.heap.size ≤ g
  b : Below w0.heap.size w0 w
theorem Tp.drewN {w0 w : World} {g : Nat} {B bs : List UInt8} {e : Int} (h : Tp w0 g B bs e w) (n : Nat) : Tp w0 g B bs e (w.drewN n) := ⟨h.box, h.ge, below_drewN h.b n⟩
theorem Tp.lt {w0 w : World} {g : Nat} {B bs : List UInt8} {e : Int} (h : Tp w0 g B bs e w) : g < w.heap.size := by obtain ⟨a, c, i, hx, _⟩ := h.box; exact (Array.getElem?_eq_some_iff.1 hx).1
theorem Tp.other {w0 w w' : World} {g : Nat} {r : Option Nat} {B bs : List UInt8} {e : Int} (h : Tp w0 g B bs e w) (hg : w.grownBy w' r) (hne : some g ≠ r) (hr : ∀ k, r = some k → w0.heap.size ≤ k) : Tp w0 g B bs e w' := by
  obtain ⟨a, c, i, hx, hb⟩ := h.box
  exact ⟨⟨a, c, i, block_grown hg hx hne, hb⟩, h.ge, h.b.grown hg h.b.size (fun k hk => hr k hk)⟩
theorem Tp.err {w0 w : World} {g : Nat} {B bs : List UInt8} {e : Int} (h : Tp w0 g B bs e w) (x : Int) : Tp w0 g B bs x (w.setCell ⟨g, 2, none⟩ (.int .i64 x)) := by
  obtain ⟨a, c, i, hx, hb⟩ := h.box
  exact ⟨⟨a, c, i, set_block hx _, hb⟩, h.ge, h.b.setCell (p := ⟨g, 2, none⟩) h.ge _⟩
theorem Tp.c2 {w0 w : World} {g : Nat} {B bs : List UInt8} {e : Int} (h : Tp w0 g B bs e w) : w.cell? ⟨g, 2, none⟩ = some (.int .i64 e) ∧ w.frozen? ⟨g, 2, none⟩ = false := by
  obtain ⟨a, c, i, hx, _⟩ := h.box
  exact ⟨cell_block hx 2, free_block hx 2⟩

set_option maxHeartbeats 4000000 in
theorem next_bad (w0 : World) (g : Nat) (B bs : List UInt8) (x : Int) (w : World) (h : Tp w0 g B bs x w) (h0 : x ≠ 0) : Calls Tryd.prog 24 #[.pointer (some ⟨g, 0, none⟩)] w fun e w' => e = .returned (.int .i64 0) ∧ Tp w0 g B bs x w' ∧ w.grownBy w' (some g) := by
  have HD := Lib.hid h
  obtain ⟨q2, _⟩ := h.c2
  have lg := h.lt
  have hx0 : (x == 0) = false := by rw [beq_eq_false_iff_ne]; exact h0
  clear h
  go_enter Tryd.func24, Tryd.ntmps24
  go_wp2_with fail
  go_loopg [3, 4, 5] 1 (fun gh s3 s4 s5 wr => gh = 1 ∧ s3 = .int .i64 0 ∧ s5 = .int .i64 0 ∧ wr = w)
  case atStart => exact ⟨rfl, rfl, rfl, rfl⟩
  case round =>
    obtain ⟨rfl, rfl, rfl, rfl⟩ := hrel
    go_wp2
    go_ret
    exact ⟨rfl, HD.out, World.grownBy.refl _ _⟩

theorem mod_step {z n i : Nat} : ((n : Int) + (z : Int) % 128 * ((128 ^ i : Nat) : Int)) = ((n + z % 128 * 128 ^ i : Nat) : Int) := by
  rw [Int.natCast_add, Int.natCast_mul, Int.natCast_emod]; rfl

set_option maxHeartbeats 4000000 in
set_option maxRecDepth 100000 in
theorem next_good (w0 : World) (g : Nat) (B bs : List UInt8) (w : World) (h : Tp w0 g B bs 0 w) : Calls Tryd.prog 24 #[.pointer (some ⟨g, 0, none⟩)] w fun e w' => e = .returned (.int .i64 ((numP 0 0 bs).2.1 : Int)) ∧ Tp w0 g B (numP 0 0 bs).2.2 (numP 0 0 bs).1 w' ∧ w.grownBy w' (some g) := by
  have HD := Lib.hid h
  clear h
  go_enter Tryd.func24, Tryd.ntmps24
  go_wp2_with fail
  go_loopg [3, 4, 5] (bs.length + 1) (fun gh s3 s4 s5 wr => ∃ (i n u : Nat) (cs : List UInt8), gh = cs.length + 1 ∧ i ≤ 7 ∧ n < 128 ^ i ∧ Hid (u = 128 ^ i) ∧ u ≤ 562949953421312 ∧ s3 = .int .i64 n ∧ s4 = .int .i64 u ∧ s5 = .int .i64 i ∧ Hid (numP 0 0 bs = numP i n cs) ∧ Hid (Tp w0 g B cs 0 wr) ∧ Hid (w.grownBy wr (some g)))
  case atStart => exact ⟨0, 0, 1, bs, rfl, by omega, by decide, Lib.hid (by decide), by omega, rfl, rfl, rfl, Lib.hid rfl, HD, Lib.hid (World.grownBy.refl _ _)⟩
  case round =>
    obtain ⟨i, n, u, cs, rfl, hi, hn, HU, hu, rfl, rfl, rfl, E, R, G⟩ := hrel
    obtain ⟨a, c, j, hx, hb, hcs, hj⟩ := R.out.box
    have lg := R.out.lt
    have hge := R.out.ge
    have q0 : wr.cell? ⟨g, 0, none⟩ = some (.slice a B.length c) := cell_block hx 0
    have q1 : wr.cell? ⟨g, 1, none⟩ = some (.int .i64 j) := cell_block hx 1
    have q2 : wr.cell? ⟨g, 2, none⟩ = some (.int .i64 0) := cell_block hx 2
    have f1 := free_block hx 1
    have f2 := free_block hx 2
    have hi8 : (i : Int) < 8 := by omega
    have hn2 : n < 562949953421312 := Nat.lt_of_lt_of_le hn (Nat.le_trans (Nat.pow_le_pow_right (by omega) hi) (by decide))
    cases cs with
    | nil =>
      have hjl : B.length ≤ j := by have := congrArg List.length hcs; rw [List.length_drop] at this; simp at this; omega
      have hjd : decide ((B.length : Int) ≤ (j : Int)) = true := by rw [decide_eq_true_iff]; omega
      have e0 : numP 0 0 bs = (5, 0, []) := by rw [E.out]; rfl
      have E0 := Lib.hid e0
      have HT := Lib.hid ((R.out.drewN 1).err 5)
      clear hx hb e0 hcs
      go_wp2_with fail
      go_quiet (fail)
      go_wp2
      go_ret
      rw [E0.out]
      exact ⟨rfl, (R.out.drewN _).err 5, grown_same (grown_drewN G.out _) (grown_set _ _ _ _)⟩
    | cons x cs =>
      have hjlt : j < B.length := by
        rcases Nat.lt_or_ge j B.length with h | h
        · exact h
        · rw [List.drop_eq_nil_of_le h] at hcs; cases hcs
      rw [List.drop_eq_getElem_cons hjlt] at hcs
      injection hcs with hx1 hx2
      obtain ⟨a', c', hv, hl, hl2, hc⟩ := id hb
      injection hv with v1 v2 v3
      subst v1 v3
      obtain ⟨bb, off, vi, rfl, hbB, hcell, hvi⟩ := hc j hjlt
      unfold ByteV at hvi
      rw [← hx1] at hvi
      subst hvi
      have r0 : wr.cell? ⟨bb, off + j, none⟩ = some (.int .u8 (x.toNat : Int)) := (same_below R.out.b _ _ hbB).trans hcell
      have hjd : decide ((B.length : Int) ≤ (j : Int)) = false := by rw [decide_eq_false_iff_not]; omega
      have hj1 : (j : Int) < (B.length : Int) := by omega
      have hj0 : (0 : Int) ≤ (j : Int) := by omega
      have hbl : (B.length : Int) ≤ 140737488351232 := by omega
      have hcx := u8_lt x
      have HX := Lib.hid hx
      have HB := Lib.hid hb
      have HX2 := Lib.hid hx2
      clear hx hb hc hcell hx1 hx2 hl hl2
      generalize hz : x.toNat = z at *
      have HZ := Lib.hid hz
      clear hz
      go_wp2_with fail
      go_quiet (fail)
      go_wp2_with fail
      go_quiet (fail)
      go_upto_region 10 with fail
      go_cut [] from 7 to 71 (fun wx => Hid (Tp w0 g B cs 0 wx) ∧ Hid (w.grownBy wx (some g)))
      case first =>
        have HR1 := Lib.hid (fun (n1 : Nat) => show Tp w0 g B cs 0 ((wr.drewN n1).setCell ⟨g, 1, none⟩ (.int .i64 ((j : Int) + 1))) from ⟨⟨_, _, j + 1, by have := set_block (i := 1) HX.out (.int .i64 ((j : Int) + 1)); exact this, HB.out, HX2.out, by omega⟩, hge, (below_drewN R.out.b _).setCell (p := ⟨g, 1, none⟩) hge _⟩)
        go_wp2_with fail
        go_meet
        exact ⟨Lib.hid (HR1.out _), Lib.hid (grown_same (grown_drewN G.out _) (grown_set _ _ _ _))⟩
      case rest =>
        obtain ⟨HR1, HG1⟩ := hcut
        obtain ⟨m2, g2⟩ := HR1.out.c2
        have lgc := HR1.out.lt
        clear q0 q1 q2 f1 f2 r0 HX HB HX2 hjd hj1 hj0 hbl
        by_cases h1 : (0 < i ∧ z = 0) ∨ i = 7
        · have e0 : numP 0 0 bs = (4, 0, cs) := by rw [E.out]; exact numP_bad (by rw [HZ.out]; exact h1)
          have E0 := Lib.hid e0
          clear e0
          rcases (show i = 7 ∨ (0 < i ∧ i < 7 ∧ z = 0) by omega) with rfl | ⟨hi0, hi7, rfl⟩
          · clear h1
            go_wp2
            go_ret
            rw [E0.out]
            exact ⟨rfl, HR1.out.err 4, grown_same HG1.out (grown_set _ _ _ _)⟩
          · have hi7b : ((i : Int) == 7) = false := by rw [beq_eq_false_iff_ne]; omega
            have hi0' : (0 : Int) < (i : Int) := by omega
            have hzz : (((0 : Nat) : Int) == 0) = true := rfl
            clear h1
            go_wp2
            go_ret
            rw [E0.out]
            exact ⟨rfl, HR1.out.err 4, grown_same HG1.out (grown_set _ _ _ _)⟩
        · have hi7 : i < 7 := by omega
          have hp := pow_step (r := z % 128) hn (by omega)
          obtain ⟨M, hM⟩ : ∃ M, M = z % 128 * u := ⟨_, rfl⟩
          have hmul : (z : Int) % 128 * (u : Int) = (M : Int) := by rw [hM, Int.natCast_mul, Int.natCast_emod]; rfl
          have hM2 : M ≤ 127 * 562949953421312 := by rw [hM]; exact Nat.le_trans (Nat.mul_le_mul_left _ hu) (Nat.mul_le_mul_right _ (by omega))
          have hnm : n + z % 128 * 128 ^ i = n + M := by rw [hM, HU.out]
          rw [hnm] at hp
          have hi7b : ((i : Int) == 7) = false := by rw [beq_eq_false_iff_ne]; omega
          by_cases hx8 : z < 128
          · have e0 : numP 0 0 bs = (0, n + M, cs) := by
              rw [E.out, ← hnm, ← HZ.out]
              exact numP_end (by rw [HZ.out]; exact h1) (by rw [HZ.out]; exact hx8)
            have E0 := Lib.hid e0
            have HP := Lib.hid hp
            have h0i : ¬ (0 < i) ∨ (¬ z = 0 ∧ 0 < i) := by omega
            clear e0 E hp hM hnm hn
            rcases h0i with h0i | ⟨h0i, hi0⟩
            · clear h1
              go_wp2
              go_ret
              rw [E0.out]
              exact ⟨ret_int (by simp), HR1.out, HG1.out⟩
            · have hz0 : ((z : Int) == 0) = false := by rw [beq_eq_false_iff_ne]; omega
              clear h1
              go_wp2
              go_ret
              rw [E0.out]
              exact ⟨ret_int (by simp), HR1.out, HG1.out⟩
          · have e0 : numP 0 0 bs = numP (i + 1) (n + M) cs := by
              rw [E.out, ← hnm, ← HZ.out]
              exact numP_more (by rw [HZ.out]; exact h1) (by rw [HZ.out]; exact hx8)
            have E0 := Lib.hid e0
            have HP := Lib.hid hp
            have HU2 := Lib.hid (show 128 * u = 128 ^ (i + 1) by rw [HU.out, Nat.pow_succ, Nat.mul_comm])
            have hu2 : 128 * u ≤ 562949953421312 := by rw [HU2.out]; exact Nat.le_trans (Nat.pow_le_pow_right (by omega) (show i + 1 ≤ 7 by omega)) (by decide)
            have hz0 : ((z : Int) == 0) = false := by rw [beq_eq_false_iff_ne]; omega
            clear e0 E hp hM hnm hn h1
            go_wp2
            all_goals (
              go_roundg (cs.length + 1)
              case measure => simp
              case rel => exact ⟨i + 1, n + M, 128 * u, cs, rfl, by omega, HP.out, HU2, hu2, by go_num, by go_num, by go_num, E0, HR1, HG1⟩)

theorem next_gen (w0 : World) (g : Nat) (B bs : List UInt8) (w : World) {e0 : Int} (h : Tp w0 g B bs e0 w) {e : Int} {v : Nat} {r : List UInt8} (hn : numE e0 bs = (e, v, r)) : Calls Tryd.prog 24 #[.pointer (some ⟨g, 0, none⟩)] w fun en w' => en = .returned (.int .i64 (v : Int)) ∧ Tp w0 g B r e w' ∧ w.grownBy w' (some g) := by
  by_cases h0 : e0 = 0
  · subst h0
    have := next_good w0 g B bs w h
    rw [numE_zero] at hn
    rw [hn] at this
    exact this
  · obtain ⟨rfl, rfl, rfl⟩ := numE_keeps hn h0
    exact next_bad w0 g B r e w h h0
theorem zig_gen (w0 : World) (g : Nat) (B bs : List UInt8) (w : World) {e0 : Int} (h : Tp w0 g B bs e0 w) {e : Int} {v : Nat} {r : List UInt8} (hn : numE e0 bs = (e, v, r)) : Calls Tryd.prog 25 #[.pointer (some ⟨g, 0, none⟩)] w fun en w' => en = .returned (.int .i64 (zag v)) ∧ Tp w0 g B r e w' ∧ w.grownBy w' (some g) := by
  have HN := Lib.hid (next_gen w0 g B bs w h hn)
  have hv2 := numE_lt hn
  clear h hn
  by_cases ho : v % 2 = 1
  · have hz : zag v = -((v : Int) / 2) - 1 := by unfold zag; rw [if_pos ho]; omega
    have ho2 : (v : Int) % 2 = 1 := by omega
    rw [hz]
    clear hz ho
    go_enter Tryd.func25, Tryd.ntmps25
    go_wp2_with fail
    refine HN.out.mono ?_
    rintro e w1 ⟨rfl, h1, h2⟩
    go_wp2
    go_ret
    exact ⟨rfl, h1, h2⟩
  · have hz : zag v = (v : Int) / 2 := by unfold zag; rw [if_neg ho]; omega
    have ho2 : (v : Int) % 2 = 0 := by omega
    rw [hz]
    clear hz ho
    go_enter Tryd.func25, Tryd.ntmps25
    go_wp2_with fail
    refine HN.out.mono ?_
    rintro e w1 ⟨rfl, h1, h2⟩
    go_wp2
    go_ret
    exact ⟨rfl, h1, h2⟩
end Go.Proofs.YtiekilpddmdhnaaDoor
