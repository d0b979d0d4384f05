/- The contracts of the document's meant and NextOf. No condition beyond the readings. -/
import Derived.Test.YtbenfbfbohecmaaRp
import Derived.Test.YtbenfbfbohecmaaCpu3
import Derived.Handy
namespace Go.Proofs.Ytbenfbfbohecmaa
open Go Go.RowKit Go.ChangeShapes Go.WideShapes Go.Deep
set_option linter.unusedVariables false
attribute [local go_sem ↓] Go.wp_at_zero Go.wp_at_succ

set_option maxHeartbeats 4000000 in
set_option maxRecDepth 100000 in
theorem meant_any (m : Mach) (vr vo : Value) (mb cm : Nat) (at_ : Int) (write : Bool) (w : World) (ht : -1 ≤ m.table ∧ m.table < 16) (hmem : w.ownsRow 0 3 1 (.slice (some ⟨mb, 0, none⟩) 256 cm) 256 (m.mem.map (Value.int .i64))) : Calls Try.prog 30 #[.agg #[vr, .int .i64 m.pc, .int .i64 m.back, .bool m.ints, .bool m.wait, .int .i64 m.table, .int .i64 m.count, .int .i64 m.fin, .slice (some ⟨mb, 0, none⟩) 256 cm, vo, .int .i64 m.ready, .int .i64 m.want], .int .i64 at_, .bool write] w fun e w' => e = .returned (.tuple #[.int .i64 (placeZ m.table m.mem at_ write).1, .int .i64 (placeZ m.table m.mem at_ write).2]) ∧ Below w.heap.size w w' := by
  by_cases h1 : at_ < 0 ∨ 256 ≤ at_
  · rw [placeZ_far h1]
    have HI := Lib.hid (fun w => in_no at_ 0 255 w (by omega))
    clear hmem h1
    go_enter Try.func30, Try.ntmps30
    go_wp2_with (go_at_call 27; refine (HI.out _).mono ?_; rintro e w' ⟨rfl, rfl⟩)
    go_ret2
    exact ⟨rfl, below_alloc _ _⟩
  · have HI := Lib.hid (fun w => in_yes at_ 0 255 w (by omega))
    by_cases h2 : m.table < 0
    · rw [placeZ_flat h1 h2]
      have h3 : m.table = -1 := by omega
      rw [h3]
      clear hmem h1 h2 h3
      go_enter Try.func30, Try.ntmps30
      go_wp2_with (go_at_call 27; refine (HI.out _).mono ?_; rintro e w' ⟨rfl, rfl⟩)
      go_ret2
      exact ⟨rfl, below_alloc _ _⟩
    · have h3 : (m.table == -1) = false := by rw [beq_eq_false_iff_ne]; omega
      have hd : at_.tdiv 16 = at_ / 16 := Int.tdiv_eq_ediv_of_nonneg (by omega)
      obtain ⟨k, hk⟩ : ∃ k : Nat, (k : Int) = m.table * 16 + at_ / 16 := ⟨(m.table * 16 + at_ / 16).toNat, by omega⟩
      have w1 : IntKind.i64.wrap (16 * m.table) = 16 * m.table := IntWalk.i64_in _ (by omega)
      have w2 : IntKind.i64.wrap (at_ / 16) = at_ / 16 := IntWalk.i64_in _ (by omega)
      have w3 : IntKind.i64.wrap (16 * m.table + at_ / 16) = (k : Int) := by rw [IntWalk.i64_in _ (by omega)]; omega
      have hk256 : k < 256 := by omega
      have c := own_cellAt hmem hk256
      have lm := (hmem.lt mb rfl).2
      have hm : at_.tmod 16 = at_ % 16 := Int.tmod_eq_emod_of_nonneg (by omega)
      have v1 : IntKind.i64.wrap (at_ % 16) = at_ % 16 := IntWalk.i64_in _ (by omega)
      have HP : Hid (∀ z, z = m.mem.getD k 0 → (z < 32 ∨ 63 < z ∨ (write = true ∧ z < 48) → placeZ m.table m.mem at_ write = (0, 4)) ∧ (¬ (z < 32 ∨ 63 < z ∨ (write = true ∧ z < 48)) → placeZ m.table m.mem at_ write = (z % 16 * 16 + at_ % 16, 0))) := Lib.hid (by
        intro z hz
        have e : (m.table * 16 + at_ / 16).toNat = k := by omega
        rw [← e] at hz
        subst hz
        exact ⟨fun h => placeZ_bad h1 h2 h, fun h => placeZ_good h1 h2 h⟩)
      generalize placeZ m.table m.mem at_ write = pz at *
      generalize m.mem.getD k 0 = z at *
      have HPZ := Lib.hid (HP.out z rfl)
      clear HP hmem h1 h2 ht hk
      by_cases z1 : 32 ≤ z ∧ z ≤ 63
      · have HJ := Lib.hid (fun w => in_yes z 32 63 w z1)
        have zm : z.tmod 16 = z % 16 := Int.tmod_eq_emod_of_nonneg (by omega)
        have v2 : IntKind.i64.wrap (z % 16) = z % 16 := IntWalk.i64_in _ (by omega)
        have v3 : IntKind.i64.wrap (16 * (z % 16)) = 16 * (z % 16) := IntWalk.i64_in _ (by omega)
        have hq : 16 * (z % 16) + at_ % 16 = z % 16 * 16 + at_ % 16 := by omega
        have v4 : IntKind.i64.wrap (16 * (z % 16) + at_ % 16) = z % 16 * 16 + at_ % 16 := by rw [IntWalk.i64_in _ (by omega)]; exact hq
        clear hq
        cases write with
        | true =>
          by_cases z3 : z < 48
          · have HE := Lib.hid (HPZ.out.1 (Or.inr (Or.inr ⟨rfl, z3⟩)))
            clear HPZ
            go_enter Try.func30, Try.ntmps30
            go_wp2_with (go_at_call 27; first | ((with_reducible refine (HI.out _).mono ?_); rintro e w' ⟨rfl, rfl⟩) | ((with_reducible refine (HJ.out _).mono ?_); rintro e w' ⟨rfl, rfl⟩))
            go_ret2
            rw [HE.out]
            exact ⟨rfl, below_alloc _ _⟩
          · have HE := Lib.hid (HPZ.out.2 (by rintro (h | h | ⟨_, h⟩) <;> omega))
            clear HPZ
            go_enter Try.func30, Try.ntmps30
            go_wp2_with (go_at_call 27; first | ((with_reducible refine (HI.out _).mono ?_); rintro e w' ⟨rfl, rfl⟩) | ((with_reducible refine (HJ.out _).mono ?_); rintro e w' ⟨rfl, rfl⟩))
            go_ret2
            rw [HE.out]
            exact ⟨rfl, below_alloc _ _⟩
        | false =>
          have HE := Lib.hid (HPZ.out.2 (by rintro (h | h | ⟨h, _⟩); omega; omega; cases h))
          clear HPZ
          go_enter Try.func30, Try.ntmps30
          go_wp2_with (go_at_call 27; first | ((with_reducible refine (HI.out _).mono ?_); rintro e w' ⟨rfl, rfl⟩) | ((with_reducible refine (HJ.out _).mono ?_); rintro e w' ⟨rfl, rfl⟩))
          go_ret2
          rw [HE.out]
          exact ⟨rfl, below_alloc _ _⟩
      · have HJ := Lib.hid (fun w => in_no z 32 63 w (by omega))
        have HE := Lib.hid (HPZ.out.1 (by omega))
        clear HPZ
        go_enter Try.func30, Try.ntmps30
        go_wp2_with (go_at_call 27; first | ((with_reducible refine (HI.out _).mono ?_); rintro e w' ⟨rfl, rfl⟩) | ((with_reducible refine (HJ.out _).mono ?_); rintro e w' ⟨rfl, rfl⟩))
        go_ret2
        rw [HE.out]
        exact ⟨rfl, below_alloc _ _⟩

set_option maxHeartbeats 4000000 in
set_option maxRecDepth 100000 in
theorem nextof_any (m : Mach) (vr vo : Value) (mb cm : Nat) (w : World) (hm : MOk m) (hmem : w.ownsRow 0 3 1 (.slice (some ⟨mb, 0, none⟩) 256 cm) 256 (m.mem.map (Value.int .i64))) : Calls Try.prog 28 #[.agg #[vr, .int .i64 m.pc, .int .i64 m.back, .bool m.ints, .bool m.wait, .int .i64 m.table, .int .i64 m.count, .int .i64 m.fin, .slice (some ⟨mb, 0, none⟩) 256 cm, vo, .int .i64 m.ready, .int .i64 m.want]] w fun e w' => e = .returned (.tuple #[instV (nextZ m), .int .i64 (nextZ m).2]) ∧ Below w.heap.size w w' := by
  have HPL := Lib.hid (fun w' (hb : Below w.heap.size w w') => meant_any m vr vo mb cm m.pc false w' hm.table (own_below hmem hb (Nat.le_refl _)))
  have HN : Hid (nextZ m = if (placeZ m.table m.mem m.pc false).2 ≠ 0 then (0, (placeZ m.table m.mem m.pc false).2) else if decC (m.mem.getD (placeZ m.table m.mem m.pc false).1.toNat 0) ≠ 0 then (0, 2) else (m.mem.getD (placeZ m.table m.mem m.pc false).1.toNat 0, 0)) := Lib.hid rfl
  have hbd := placeZ_bd m.table m.mem m.pc false
  generalize placeZ m.table m.mem m.pc false = pz at *
  obtain ⟨kz, e⟩ := pz
  simp only at hbd HN
  obtain ⟨k, rfl⟩ := Int.eq_ofNat_of_zero_le hbd.1
  rw [Int.toNat_natCast] at HN
  have hk : k < 256 := by omega
  have c := own_cellAt hmem hk
  have lm := (hmem.lt mb rfl).2
  have hw : WordZ (m.mem.getD k 0) := hm.wmem k
  have HM := Lib.hid hmem
  generalize nextZ m = nz at *
  generalize hgz : m.mem.getD k 0 = z at *
  have HD := Lib.hid (fun w => instrOf_any z w hw.i64)
  have HZ : Hid (m.mem.getD k 0 = z) := Lib.hid hgz
  clear hm hmem hw hbd hgz c
  by_cases he : e = 0
  · subst he
    by_cases hc : decC z = 0
    · have HE : Hid (nz = (z, 0)) := Lib.hid (by rw [HN.out, if_neg (by simp), if_neg (by simpa using hc)])
      have HV : Hid (decV z = .agg #[.int .i64 (decOp z), .int .i64 (decA z), .int .i64 (decB z), .int .i64 (decN z)]) := Lib.hid (by unfold decV; rw [if_pos hc])
      rw [hc, HV.out] at HD
      clear HN hc
      generalize decOp z = o1 at *
      generalize decA z = o2 at *
      generalize decB z = o3 at *
      generalize decN z = o4 at *
      go_enter Try.func28, Try.ntmps28
      go_wp2_with (first
        | (go_at_call 30; (with_reducible refine (HPL.out _ ?_).mono ?_); exact below_alloc2 _ _ _; rintro en w1 ⟨rfl, hb1⟩; have x1 := block_below hb1 (g := w.heap.size) ((alloc_lt (by simp)).trans (alloc_at rfl)) (by simp; omega); have y1 := block_below hb1 (g := w.heap.size + 1) (alloc_at (by simp)) (by simp); have q8 : w1.cell? ⟨w.heap.size, 8, none⟩ = some (.slice (some ⟨mb, 0, none⟩) 256 cm) := cell_block x1 8; have c1 := own_cellAt (own_below HM.out ((below_alloc2 w _ _).trans (hb1.mono (by simp; omega))) (Nat.le_refl _)) hk; have l1 : w.heap.size + 1 < w1.heap.size := (by have := hb1.size; simp at this; omega); have HB1 := Lib.hid ((below_alloc2 w _ _).trans (hb1.mono (by simp; omega))); have g0 := free_block y1 0; have g1 := free_block y1 1; have g2 := free_block y1 2; have g3 := free_block y1 3; have p0 : w1.cell? ⟨w.heap.size + 1, 0, none⟩ = some (.int .i64 0) := cell_block y1 0; have p1 : w1.cell? ⟨w.heap.size + 1, 1, none⟩ = some (.int .i64 0) := cell_block y1 1; have p2 : w1.cell? ⟨w.heap.size + 1, 2, none⟩ = some (.int .i64 0) := cell_block y1 2; have p3 : w1.cell? ⟨w.heap.size + 1, 3, none⟩ = some (.int .i64 0) := cell_block y1 3; have lm1 : mb < w1.heap.size := (by omega); have HY := Lib.hid y1; rw [HZ.out] at c1; clear x1 y1 hb1)
        | (go_at_call 36; refine (HD.out _).mono ?_; rintro en w2 ⟨rfl, hb2⟩; have x2 := block_below hb2 HY.out l1; have q0 : w2.cell? ⟨w.heap.size + 1, 0, none⟩ = some (.int .i64 0) := cell_block x2 0; have q1 : w2.cell? ⟨w.heap.size + 1, 1, none⟩ = some (.int .i64 0) := cell_block x2 1; have q2 : w2.cell? ⟨w.heap.size + 1, 2, none⟩ = some (.int .i64 0) := cell_block x2 2; have q3 : w2.cell? ⟨w.heap.size + 1, 3, none⟩ = some (.int .i64 0) := cell_block x2 3; have k0 := free_block x2 0; have k1 := free_block x2 1; have k2 := free_block x2 2; have k3 := free_block x2 3; have l2 : w.heap.size + 1 < w2.heap.size := (by have := hb2.size; omega); have HB2 := Lib.hid (HB1.out.trans (hb2.mono HB1.out.size)); clear x2 hb2 p0 p1 p2 p3 g0 g1 g2 g3))
      refine bodyPost_ret (v := .tuple #[.agg #[.int .i64 o1, .int .i64 o2, .int .i64 o3, .int .i64 o4], .int .i64 0]) (by simp [results, Try.results28, go_sem, q0, q1, q2, q3, l2]) rfl (And.intro ?_ ?_)
      · rw [HE.out]; simp only [instV, if_true, HV.out]
      · go_grown
        exact HB2.out
    · have HE : Hid (nz = (0, 2)) := Lib.hid (by rw [HN.out, if_neg (by simp), if_pos hc])
      have HV : Hid (decV z = .agg #[.int .i64 0, .int .i64 0, .int .i64 0, .int .i64 0]) := Lib.hid (by unfold decV; rw [if_neg hc])
      have hb1 : (decC z != 0) = true := by rw [bne_iff_ne]; exact hc
      rw [HV.out] at HD
      clear HN hc HV
      generalize decC z = c at *
      go_enter Try.func28, Try.ntmps28
      go_wp2_with (first
        | (go_at_call 30; (with_reducible refine (HPL.out _ ?_).mono ?_); exact below_alloc2 _ _ _; rintro en w1 ⟨rfl, hb1⟩; have x1 := block_below hb1 (g := w.heap.size) ((alloc_lt (by simp)).trans (alloc_at rfl)) (by simp; omega); have y1 := block_below hb1 (g := w.heap.size + 1) (alloc_at (by simp)) (by simp); have q8 : w1.cell? ⟨w.heap.size, 8, none⟩ = some (.slice (some ⟨mb, 0, none⟩) 256 cm) := cell_block x1 8; have c1 := own_cellAt (own_below HM.out ((below_alloc2 w _ _).trans (hb1.mono (by simp; omega))) (Nat.le_refl _)) hk; have l1 : w.heap.size + 1 < w1.heap.size := (by have := hb1.size; simp at this; omega); have HB1 := Lib.hid ((below_alloc2 w _ _).trans (hb1.mono (by simp; omega))); have g0 := free_block y1 0; have g1 := free_block y1 1; have g2 := free_block y1 2; have g3 := free_block y1 3; have p0 : w1.cell? ⟨w.heap.size + 1, 0, none⟩ = some (.int .i64 0) := cell_block y1 0; have p1 : w1.cell? ⟨w.heap.size + 1, 1, none⟩ = some (.int .i64 0) := cell_block y1 1; have p2 : w1.cell? ⟨w.heap.size + 1, 2, none⟩ = some (.int .i64 0) := cell_block y1 2; have p3 : w1.cell? ⟨w.heap.size + 1, 3, none⟩ = some (.int .i64 0) := cell_block y1 3; have lm1 : mb < w1.heap.size := (by omega); have HY := Lib.hid y1; rw [HZ.out] at c1; clear x1 y1 hb1)
        | (go_at_call 36; refine (HD.out _).mono ?_; rintro en w2 ⟨rfl, hb2⟩; have x2 := block_below hb2 HY.out l1; have q0 : w2.cell? ⟨w.heap.size + 1, 0, none⟩ = some (.int .i64 0) := cell_block x2 0; have q1 : w2.cell? ⟨w.heap.size + 1, 1, none⟩ = some (.int .i64 0) := cell_block x2 1; have q2 : w2.cell? ⟨w.heap.size + 1, 2, none⟩ = some (.int .i64 0) := cell_block x2 2; have q3 : w2.cell? ⟨w.heap.size + 1, 3, none⟩ = some (.int .i64 0) := cell_block x2 3; have k0 := free_block x2 0; have k1 := free_block x2 1; have k2 := free_block x2 2; have k3 := free_block x2 3; have l2 : w.heap.size + 1 < w2.heap.size := (by have := hb2.size; omega); have HB2 := Lib.hid (HB1.out.trans (hb2.mono HB1.out.size)); clear x2 hb2 p0 p1 p2 p3 g0 g1 g2 g3))
      refine bodyPost_ret (v := .tuple #[.agg #[.int .i64 0, .int .i64 0, .int .i64 0, .int .i64 0], .int .i64 2]) (by simp [results, Try.results28, go_sem, q0, q1, q2, q3, l2]) rfl (And.intro ?_ ?_)
      · rw [HE.out]; rfl
      · go_grown
        exact HB2.out
  · have HE : Hid (nz = (0, e)) := Lib.hid (by rw [HN.out, if_pos he])
    have HV : Hid (instV (0, e) = .agg #[.int .i64 0, .int .i64 0, .int .i64 0, .int .i64 0]) := Lib.hid (by unfold instV; rw [if_neg he])
    have hb1 : (e != 0) = true := by rw [bne_iff_ne]; exact he
    clear HN he
    go_enter Try.func28, Try.ntmps28
    go_wp2_with (first
        | (go_at_call 30; (with_reducible refine (HPL.out _ ?_).mono ?_); exact below_alloc2 _ _ _; rintro en w1 ⟨rfl, hb1⟩; have x1 := block_below hb1 (g := w.heap.size) ((alloc_lt (by simp)).trans (alloc_at rfl)) (by simp; omega); have y1 := block_below hb1 (g := w.heap.size + 1) (alloc_at (by simp)) (by simp); have q8 : w1.cell? ⟨w.heap.size, 8, none⟩ = some (.slice (some ⟨mb, 0, none⟩) 256 cm) := cell_block x1 8; have c1 := own_cellAt (own_below HM.out ((below_alloc2 w _ _).trans (hb1.mono (by simp; omega))) (Nat.le_refl _)) hk; have l1 : w.heap.size + 1 < w1.heap.size := (by have := hb1.size; simp at this; omega); have HB1 := Lib.hid ((below_alloc2 w _ _).trans (hb1.mono (by simp; omega))); have g0 := free_block y1 0; have g1 := free_block y1 1; have g2 := free_block y1 2; have g3 := free_block y1 3; have p0 : w1.cell? ⟨w.heap.size + 1, 0, none⟩ = some (.int .i64 0) := cell_block y1 0; have p1 : w1.cell? ⟨w.heap.size + 1, 1, none⟩ = some (.int .i64 0) := cell_block y1 1; have p2 : w1.cell? ⟨w.heap.size + 1, 2, none⟩ = some (.int .i64 0) := cell_block y1 2; have p3 : w1.cell? ⟨w.heap.size + 1, 3, none⟩ = some (.int .i64 0) := cell_block y1 3; have lm1 : mb < w1.heap.size := (by omega); have HY := Lib.hid y1; rw [HZ.out] at c1; clear x1 y1 hb1)
        | (go_at_call 36; refine (HD.out _).mono ?_; rintro en w2 ⟨rfl, hb2⟩; have x2 := block_below hb2 HY.out l1; have q0 : w2.cell? ⟨w.heap.size + 1, 0, none⟩ = some (.int .i64 0) := cell_block x2 0; have q1 : w2.cell? ⟨w.heap.size + 1, 1, none⟩ = some (.int .i64 0) := cell_block x2 1; have q2 : w2.cell? ⟨w.heap.size + 1, 2, none⟩ = some (.int .i64 0) := cell_block x2 2; have q3 : w2.cell? ⟨w.heap.size + 1, 3, none⟩ = some (.int .i64 0) := cell_block x2 3; have k0 := free_block x2 0; have k1 := free_block x2 1; have k2 := free_block x2 2; have k3 := free_block x2 3; have l2 : w.heap.size + 1 < w2.heap.size := (by have := hb2.size; omega); have HB2 := Lib.hid (HB1.out.trans (hb2.mono HB1.out.size)); clear x2 hb2 p0 p1 p2 p3 g0 g1 g2 g3))
    refine bodyPost_ret (v := .tuple #[.agg #[.int .i64 0, .int .i64 0, .int .i64 0, .int .i64 0], .int .i64 e]) (by simp [results, Try.results28, go_sem, p0, p1, p2, p3]) rfl (And.intro ?_ ?_)
    · rw [HE.out]; simp only [HV.out]
    · go_grown
      exact HB1.out
end Go.Proofs.Ytbenfbfbohecmaa
