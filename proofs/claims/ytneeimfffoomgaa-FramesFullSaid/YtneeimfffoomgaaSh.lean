/- The contract of frames.Share. No condition. -/
import Derived.Test.YtneeimfffoomgaaRd
import Derived.Test.YtneeimfffoomgaaBits
namespace Go.Proofs.Ytneeimfffoomgaa
open Go Go.RowKit Go.ChangeShapes Go.WideShapes Go.Deep
set_option linter.unusedVariables false

/-- A count of owned frames is written. -/
theorem FrOwn.setRef {base g c k : Nat} {w : World} {vd : Value} {rs : List (List Int)} {zs : List Int} {vs : List Value} (h : FrOwn base w vd (.slice (some ⟨g, 0, none⟩) zs.length c) rs zs vs) (hk : k < zs.length) (z : Int) :
    FrOwn base (w.setCell ⟨g, k, none⟩ (.int .i64 z)) vd (.slice (some ⟨g, 0, none⟩) zs.length c) rs (zs.set k z) vs := by
  obtain ⟨g', cur, hg', hbg, hblk, _⟩ := own_some h.r (by omega)
  simp only [Option.some.injEq, Addr.mk.injEq, and_true] at hg'
  subst hg'
  refine ⟨h.len, own_set h.d (own_ne_block h.d hblk (by decide)) _, ?_, fun j hj => ?_⟩
  · have := (h.r.stored k (.int .i64 z)).1
    rw [List.length_set, List.map_set]
    exact this
  · obtain ⟨q1, q2, q3, q4⟩ := h.rows j hj
    refine ⟨own_set q1 ?_ _, q2, q3, q4⟩
    rcases q2 with e | e
    · rw [e]; simp
    · exact fun e' => e e'.symm

/-- What the frame verbs that change a count or a word hand back. -/
def FrYes (w : World) (rs : List (List Int)) (zs : List Int) (e : Ending) (w' : World) : Prop := ∃ ad cd ar cr vs, e = .returned (.tuple #[.agg #[.slice ad rs.length cd, .slice ar zs.length cr], .int .i64 0]) ∧ FrOwn w.heap.size w' (.slice ad rs.length cd) (.slice ar zs.length cr) rs zs vs ∧ Below w.heap.size w w'

set_option maxHeartbeats 2000000 in
theorem share_no (v : Value) (rs : List (List Int)) (zs : List Int) (n c : Int) (w : World) (hf : FramesR w.heap.size w v rs zs) (h : (¬ FOk rs zs ∧ c = 8) ∨ (FOk rs zs ∧ ¬ Kn zs n ∧ c = 6)) : Calls Try.prog 27 #[v, .int .i64 n] w (KnNo w c) := by
  have HF := Lib.hid hf
  obtain ⟨a, c1, a', c2, hs⟩ := hf.shape
  subst hs
  clear hf
  have hcz : (c != 0) = true := by rw [bne_iff_ne]; rcases h with ⟨_, rfl⟩ | ⟨_, _, rfl⟩ <;> decide
  have HK := Lib.hid (fun w' (hf : FramesR w'.heap.size w' (.agg #[.slice a rs.length c1, .slice a' zs.length c2]) rs zs) => (show Calls Try.prog 47 #[.agg #[.slice a rs.length c1, .slice a' zs.length c2], .int .i64 n] w' (KnNo w' c) by
    rcases h with ⟨h, rfl⟩ | ⟨h, k, rfl⟩
    · exact known_bad _ rs zs n w' hf h
    · exact (known_ok _ rs zs n w' hf h).1 k))
  clear h
  go_enter Try.func27, Try.ntmps27
  go_wp2_with fail
  refine (HK.out _ (HF.out.to (by simp; omega) (same_below (below_alloc2 _ _ _)))).mono ?_
  rintro e w1 ⟨rfl, hb1⟩
  have s1 := hb1.size
  simp only [World.size_alloc] at s1
  have hB := (below_alloc2 w _ _).trans (hb1.mono (by simp; omega))
  have hx := block_below hb1 (g := w.heap.size) ((alloc_lt (by simp)).trans (alloc_at rfl)) (by simp; omega)
  have hy := block_below hb1 (g := w.heap.size + 1) (alloc_at (by simp)) (by simp)
  have q0 : w1.cell? ⟨w.heap.size, 0, none⟩ = some (.slice a rs.length c1) := cell_block hx 0
  have q1 : w1.cell? ⟨w.heap.size, 1, none⟩ = some (.slice a' zs.length c2) := cell_block hx 1
  have f0 := free_block hx 0
  have f1 := free_block hx 1
  have r0 : w1.cell? ⟨w.heap.size + 1, 0, none⟩ = some (.slice none 0 0) := cell_block hy 0
  have r1 : w1.cell? ⟨w.heap.size + 1, 1, none⟩ = some (.slice none 0 0) := cell_block hy 1
  have g0 := free_block hy 0
  have g1 := free_block hy 1
  have HBB := Lib.hid ((((hB.setCell (p := ⟨w.heap.size, 0, none⟩) (by simp) (.slice none 0 0)).setCell (p := ⟨w.heap.size, 1, none⟩) (by simp) (.slice none 0 0)).setCell (p := ⟨w.heap.size + 1, 0, none⟩) (by simp) (.slice none 0 0)).setCell (p := ⟨w.heap.size + 1, 1, none⟩) (by simp) (.slice none 0 0))
  clear hx hy hB hb1
  go_wp2
  exact bodyPost_ret (v := .tuple #[.agg #[.slice none 0 0, .slice none 0 0], .int .i64 c]) (by simp [results, Try.results27, go_sem, r0, r1]) rfl ⟨rfl, HBB.out⟩

set_option maxHeartbeats 2000000 in
theorem share_yes (v : Value) (rs : List (List Int)) (zs : List Int) (k : Nat) (z : Int) (w : World) (hf : FramesR w.heap.size w v rs zs) (hok : FOk rs zs) (hk : Kn zs k) (hz : zs.getD k 0 = z) : (z = 200 → Calls Try.prog 27 #[v, .int .i64 k] w (KnNo w 1)) ∧ (z ≠ 200 → Calls Try.prog 27 #[v, .int .i64 k] w (FrYes w rs (zs.set k (z + 1)))) := by
  have HF := Lib.hid hf
  obtain ⟨a, c1, a', c2, hs⟩ := hf.shape
  subst hs
  clear hf
  have HK := Lib.hid (fun w' (hf : FramesR w'.heap.size w' (.agg #[.slice a rs.length c1, .slice a' zs.length c2]) rs zs) => (known_ok _ rs zs k w' hf hok).2 hk)
  have hkl : k < zs.length := by have := hk.2.1; omega
  have hz1 : 1 ≤ z ∧ z ≤ 200 := by
    have h2 := hok.2.2 k hkl
    have h3 := hk.2.2
    simp only [Int.toNat_natCast] at h3
    rw [hz] at h2 h3
    have := h2.1; have := h2.2.1; omega
  clear hok hk
  constructor
  all_goals intro hzz
  all_goals go_enter Try.func27, Try.ntmps27
  all_goals go_wp2_with fail
  all_goals refine (HK.out _ (HF.out.to (by simp; omega) (same_below (below_alloc2 _ _ _)))).mono ?_
  all_goals rintro e w1 ⟨ad, cd, ar, cr, vs, rfl, hown, hb1⟩
  all_goals have s1 := hb1.size
  all_goals simp only [World.size_alloc] at s1
  all_goals have hB := (below_alloc2 w _ _).trans (hb1.mono (by simp; omega))
  all_goals have hx := block_below hb1 (g := w.heap.size) ((alloc_lt (by simp)).trans (alloc_at rfl)) (by simp; omega)
  all_goals have hy := block_below hb1 (g := w.heap.size + 1) (alloc_at (by simp)) (by simp)
  all_goals have q0 : w1.cell? ⟨w.heap.size, 0, none⟩ = some (.slice a rs.length c1) := cell_block hx 0
  all_goals have q1 : w1.cell? ⟨w.heap.size, 1, none⟩ = some (.slice a' zs.length c2) := cell_block hx 1
  all_goals have f0 := free_block hx 0
  all_goals have f1 := free_block hx 1
  all_goals have r0 : w1.cell? ⟨w.heap.size + 1, 0, none⟩ = some (.slice none 0 0) := cell_block hy 0
  all_goals have r1 : w1.cell? ⟨w.heap.size + 1, 1, none⟩ = some (.slice none 0 0) := cell_block hy 1
  all_goals have g0 := free_block hy 0
  all_goals have g1 := free_block hy 1
  all_goals obtain ⟨g, cur, hga, hbg, hblk, hcap⟩ := own_some hown.r (by omega)
  all_goals subst hga
  all_goals simp only [World.size_alloc] at hbg
  all_goals have hgl : g < w1.heap.size := (Array.getElem?_eq_some_iff.1 hblk).1
  all_goals have hgx : w.heap.size ≠ g := by intro e; subst e; rw [hblk] at hx; simp at hx
  all_goals have hgy : w.heap.size + 1 ≠ g := by intro e; subst e; rw [hblk] at hy; simp at hy
  all_goals have c0 : w1.cell? ⟨g, k, none⟩ = some (.int .i64 z) := (by rw [hown.r.cellAt k (by omega), List.getElem?_map, List.getElem?_eq_getElem hkl, ← getD_of hkl 0, hz]; rfl)
  all_goals have c1f := hown.r.frozenAt k
  · subst hzz
    have HBB := Lib.hid ((((hB.setCell (p := ⟨w.heap.size, 0, none⟩) (by simp) (.slice ad rs.length cd)).setCell (p := ⟨w.heap.size, 1, none⟩) (by simp) (.slice (some ⟨g, 0, none⟩) zs.length cr)).setCell (p := ⟨w.heap.size + 1, 0, none⟩) (by simp) (.slice none 0 0)).setCell (p := ⟨w.heap.size + 1, 1, none⟩) (by simp) (.slice none 0 0))
    clear hx hy hB hb1 hown hblk
    go_wp2
    exact bodyPost_ret (v := .tuple #[.agg #[.slice none 0 0, .slice none 0 0], .int .i64 1]) (by simp [results, Try.results27, go_sem, r0, r1]) rfl ⟨rfl, HBB.out⟩
  · have hzb : (z == 200) = false := by rw [beq_eq_false_iff_ne]; exact hzz
    have hw : wrap64 (z + 1) = z + 1 := wrap_id (by omega)
    have o1 := ((hown.base (b' := w.heap.size) (by simp; omega)).set (i := 0) (u := .slice ad rs.length cd) hx (by decide) (by decide)).set (i := 1) (u := .slice (some ⟨g, 0, none⟩) zs.length cr) (set_block hx _) (by decide) (by decide)
    have o2 := o1.setRef hkl (z + 1)
    have y2 := set_block_ne (g := g) (i := k) (set_block_ne (g := w.heap.size) (i := 1) (set_block_ne (g := w.heap.size) (i := 0) hy (by omega) (.slice ad rs.length cd)) (by omega) (.slice (some ⟨g, 0, none⟩) zs.length cr)) hgy (.int .i64 (z + 1))
    have o3 := Lib.hid ((o2.set (i := 0) (u := .slice ad rs.length cd) y2 (by decide) (by decide)).set (i := 1) (u := .slice (some ⟨g, 0, none⟩) zs.length cr) (set_block y2 _) (by decide) (by decide))
    have HBB := Lib.hid (((((hB.setCell (p := ⟨w.heap.size, 0, none⟩) (by simp) (.slice ad rs.length cd)).setCell (p := ⟨w.heap.size, 1, none⟩) (by simp) (.slice (some ⟨g, 0, none⟩) zs.length cr)).setCell (p := ⟨g, k, none⟩) (by simp; omega) (.int .i64 (z + 1))).setCell (p := ⟨w.heap.size + 1, 0, none⟩) (by simp) (.slice ad rs.length cd)).setCell (p := ⟨w.heap.size + 1, 1, none⟩) (by simp) (.slice (some ⟨g, 0, none⟩) zs.length cr))
    clear hx hy hB hb1 hown hblk o1 o2 y2
    go_wp2
    exact bodyPost_ret (v := .tuple #[.agg #[.slice ad rs.length cd, .slice (some ⟨g, 0, none⟩) zs.length cr], .int .i64 0]) (by simp [results, Try.results27, go_sem, r0, r1]) rfl ⟨ad, cd, some ⟨g, 0, none⟩, cr, vs, by rw [List.length_set], by rw [List.length_set]; exact o3.out, HBB.out⟩
end Go.Proofs.Ytneeimfffoomgaa
