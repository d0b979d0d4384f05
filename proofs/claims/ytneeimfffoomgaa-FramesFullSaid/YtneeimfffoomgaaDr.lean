/- Contracts of frames.Drop and of the reference's DroppedOf. No condition. -/
import Derived.Test.YtneeimfffoomgaaSo
namespace Go.Proofs.Ytneeimfffoomgaa
open Go Go.RowKit Go.ChangeShapes Go.WideShapes Go.Deep
set_option linter.unusedVariables false

theorem apart_nil (v : Value) : Apart (.slice none 0 0) v ∧ Apart v (.slice none 0 0) := by
  refine ⟨Or.inl rfl, ?_⟩
  unfold Apart
  cases e : v.ownBlock with
  | none => exact Or.inl rfl
  | some g => exact Or.inr (by simp [Value.ownBlock])

/-- A row of owned frames is taken away. -/
theorem FrOwn.setNil {base g c k : Nat} {w : World} {vr : Value} {rs : List (List Int)} {zs : List Int} {vs : List Value} (h : FrOwn base w (.slice (some ⟨g, 0, none⟩) rs.length c) vr rs zs vs) (hk : k < rs.length) :
    FrOwn base (w.setCell ⟨g, k, none⟩ (.slice none 0 0)) (.slice (some ⟨g, 0, none⟩) rs.length c) vr (rs.set k []) zs (vs.set k (.slice none 0 0)) := by
  obtain ⟨g', cur, hg', hbg, hblk, _⟩ := own_some h.d (by omega)
  simp only [Option.some.injEq, Addr.mk.injEq, and_true] at hg'
  subst hg'
  have hl := h.len
  have keep : ∀ {v : Value} {n : Nat} {xs : List Value}, w.ownsRow base 3 1 v n xs → (w.setCell ⟨g, k, none⟩ (.slice none 0 0)).ownsRow base 3 1 v n xs := fun h => own_set h (own_ne_block h hblk (by decide)) _
  have getk : (vs.set k (Value.slice none 0 0)).getD k undef = .slice none 0 0 := by simp [List.getD, hl, hk]
  have getj : ∀ j, j ≠ k → (vs.set k (Value.slice none 0 0)).getD j undef = vs.getD j undef := fun j hj => by simp [List.getD, Ne.symm hj]
  have rowk : (rs.set k []).getD k [] = [] := by simp [List.getD, hk]
  have rowj : ∀ j, j ≠ k → (rs.set k []).getD j [] = rs.getD j [] := fun j hj => by simp [List.getD, Ne.symm hj]
  refine ⟨by simpa using hl, ?_, keep h.r, ?_⟩
  · rw [List.length_set]
    exact (h.d.stored k _).1
  · rw [List.length_set]
    intro j hj
    by_cases hjk : j = k
    · subst hjk
      rw [getk, rowk]
      exact ⟨⟨rfl, Or.inl ⟨rfl, rfl⟩⟩, (apart_nil _).1, (apart_nil _).2, fun i _ _ => (apart_nil _).1⟩
    · obtain ⟨q1, q2, q3, q4⟩ := h.rows j hj
      rw [getj j hjk, rowj j hjk]
      refine ⟨keep q1, q2, q3, fun i hi hij => ?_⟩
      by_cases hik : i = k
      · subst hik
        rw [getk]
        exact (apart_nil _).2
      · rw [getj i hik]
        exact q4 i hi hij

set_option maxHeartbeats 2000000 in
theorem drop_no (v : Value) (rs : List (List Int)) (zs : List Int) (n c : Int) (w : World) (hf : FramesR w.heap.size w v rs zs) (h : (¬ FOk rs zs ∧ c = 8) ∨ (FOk rs zs ∧ ¬ Kn zs n ∧ c = 6)) : Calls Try.prog 24 #[v, .int .i64 n] w (KnNo w c) := by
  have HF := Lib.hid hf
  obtain ⟨a, c1, a', c2, hs⟩ := hf.shape
  subst hs
  clear hf
  have hcz : (c != 0) = true := by rw [bne_iff_ne]; rcases h with ⟨_, rfl⟩ | ⟨_, _, rfl⟩ <;> decide
  have HK := Lib.hid (fun w' (hf : FramesR w'.heap.size w' (.agg #[.slice a rs.length c1, .slice a' zs.length c2]) rs zs) => (show Calls Try.prog 47 #[.agg #[.slice a rs.length c1, .slice a' zs.length c2], .int .i64 n] w' (KnNo w' c) by
    rcases h with ⟨h, rfl⟩ | ⟨h, k, rfl⟩
    · exact known_bad _ rs zs n w' hf h
    · exact (known_ok _ rs zs n w' hf h).1 k))
  clear h
  go_enter Try.func24, Try.ntmps24
  go_wp2_with fail
  refine (HK.out _ (HF.out.to (by simp; omega) (same_below (below_alloc2 _ _ _)))).mono ?_
  rintro e w1 ⟨rfl, hb1⟩
  have s1 := hb1.size
  simp only [World.size_alloc] at s1
  have hB := (below_alloc2 w _ _).trans (hb1.mono (by simp; omega))
  have hx := block_below hb1 (g := w.heap.size) ((alloc_lt (by simp)).trans (alloc_at rfl)) (by simp; omega)
  have hy := block_below hb1 (g := w.heap.size + 1) (alloc_at (by simp)) (by simp)
  have q0 : w1.cell? ⟨w.heap.size, 0, none⟩ = some (.slice a rs.length c1) := cell_block hx 0
  have q1 : w1.cell? ⟨w.heap.size, 1, none⟩ = some (.slice a' zs.length c2) := cell_block hx 1
  have f0 := free_block hx 0
  have f1 := free_block hx 1
  have r0 : w1.cell? ⟨w.heap.size + 1, 0, none⟩ = some (.slice none 0 0) := cell_block hy 0
  have r1 : w1.cell? ⟨w.heap.size + 1, 1, none⟩ = some (.slice none 0 0) := cell_block hy 1
  have g0 := free_block hy 0
  have g1 := free_block hy 1
  have HBB := Lib.hid ((((hB.setCell (p := ⟨w.heap.size, 0, none⟩) (by simp) (.slice none 0 0)).setCell (p := ⟨w.heap.size, 1, none⟩) (by simp) (.slice none 0 0)).setCell (p := ⟨w.heap.size + 1, 0, none⟩) (by simp) (.slice none 0 0)).setCell (p := ⟨w.heap.size + 1, 1, none⟩) (by simp) (.slice none 0 0))
  clear hx hy hB hb1
  go_wp2
  exact bodyPost_ret (v := .tuple #[.agg #[.slice none 0 0, .slice none 0 0], .int .i64 c]) (by simp [results, Try.results24, go_sem, r0, r1]) rfl ⟨rfl, HBB.out⟩

set_option maxHeartbeats 2000000 in
theorem drop_yes (v : Value) (rs : List (List Int)) (zs : List Int) (k : Nat) (z : Int) (w : World) (hf : FramesR w.heap.size w v rs zs) (hok : FOk rs zs) (hk : Kn zs k) (hz : zs.getD k 0 = z) : (z ≠ 1 → Calls Try.prog 24 #[v, .int .i64 k] w (FrYes w rs (zs.set k (z - 1)))) ∧ (z = 1 → Calls Try.prog 24 #[v, .int .i64 k] w (FrYes w (rs.set k []) (zs.set k 0))) := by
  have HF := Lib.hid hf
  obtain ⟨a, c1, a', c2, hs⟩ := hf.shape
  subst hs
  clear hf
  have HK := Lib.hid (fun w' (hf : FramesR w'.heap.size w' (.agg #[.slice a rs.length c1, .slice a' zs.length c2]) rs zs) => (known_ok _ rs zs k w' hf hok).2 hk)
  have hkl : k < zs.length := by have := hk.2.1; omega
  have hz1 : 1 ≤ z ∧ z ≤ 200 := by
    have h2 := hok.2.2 k hkl
    have h3 := hk.2.2
    simp only [Int.toNat_natCast] at h3
    rw [hz] at h2 h3
    have := h2.1; have := h2.2.1; omega
  have hkr : k < rs.length := by rw [hok.1]; exact hkl
  clear hok hk
  constructor
  all_goals intro hzz
  all_goals go_enter Try.func24, Try.ntmps24
  all_goals go_wp2_with fail
  all_goals refine (HK.out _ (HF.out.to (by simp; omega) (same_below (below_alloc2 _ _ _)))).mono ?_
  all_goals rintro e w1 ⟨ad, cd, ar, cr, vs, rfl, hown, hb1⟩
  all_goals have s1 := hb1.size
  all_goals simp only [World.size_alloc] at s1
  all_goals have hB := (below_alloc2 w _ _).trans (hb1.mono (by simp; omega))
  all_goals have hx := block_below hb1 (g := w.heap.size) ((alloc_lt (by simp)).trans (alloc_at rfl)) (by simp; omega)
  all_goals have hy := block_below hb1 (g := w.heap.size + 1) (alloc_at (by simp)) (by simp)
  all_goals have q0 : w1.cell? ⟨w.heap.size, 0, none⟩ = some (.slice a rs.length c1) := cell_block hx 0
  all_goals have q1 : w1.cell? ⟨w.heap.size, 1, none⟩ = some (.slice a' zs.length c2) := cell_block hx 1
  all_goals have f0 := free_block hx 0
  all_goals have f1 := free_block hx 1
  all_goals have r0 : w1.cell? ⟨w.heap.size + 1, 0, none⟩ = some (.slice none 0 0) := cell_block hy 0
  all_goals have r1 : w1.cell? ⟨w.heap.size + 1, 1, none⟩ = some (.slice none 0 0) := cell_block hy 1
  all_goals have g0 := free_block hy 0
  all_goals have g1 := free_block hy 1
  all_goals obtain ⟨g, cur, hga, hbg, hblk, hcap⟩ := own_some hown.r (by omega)
  all_goals subst hga
  all_goals simp only [World.size_alloc] at hbg
  all_goals have hgl : g < w1.heap.size := (Array.getElem?_eq_some_iff.1 hblk).1
  all_goals have hgx : w.heap.size ≠ g := by intro e; subst e; rw [hblk] at hx; simp at hx
  all_goals have hgy : w.heap.size + 1 ≠ g := by intro e; subst e; rw [hblk] at hy; simp at hy
  all_goals have c0 : w1.cell? ⟨g, k, none⟩ = some (.int .i64 z) := (by rw [hown.r.cellAt k (by omega), List.getElem?_map, List.getElem?_eq_getElem hkl, ← getD_of hkl 0, hz]; rfl)
  all_goals have c1f := hown.r.frozenAt k
  · have hzb : (z - 1 == 0) = false := by rw [beq_eq_false_iff_ne]; omega
    have hw : wrap64 (z - 1) = z - 1 := wrap_id (by omega)
    have o1 := ((hown.base (b' := w.heap.size) (by simp; omega)).set (i := 0) (u := .slice ad rs.length cd) hx (by decide) (by decide)).set (i := 1) (u := .slice (some ⟨g, 0, none⟩) zs.length cr) (set_block hx _) (by decide) (by decide)
    have o2 := o1.setRef hkl (z - 1)
    have y2 := set_block_ne (g := g) (i := k) (set_block_ne (g := w.heap.size) (i := 1) (set_block_ne (g := w.heap.size) (i := 0) hy (by omega) (.slice ad rs.length cd)) (by omega) (.slice (some ⟨g, 0, none⟩) zs.length cr)) hgy (.int .i64 (z - 1))
    have o3 := Lib.hid ((o2.set (i := 0) (u := .slice ad rs.length cd) y2 (by decide) (by decide)).set (i := 1) (u := .slice (some ⟨g, 0, none⟩) zs.length cr) (set_block y2 _) (by decide) (by decide))
    have HBB := Lib.hid (((((hB.setCell (p := ⟨w.heap.size, 0, none⟩) (by simp) (.slice ad rs.length cd)).setCell (p := ⟨w.heap.size, 1, none⟩) (by simp) (.slice (some ⟨g, 0, none⟩) zs.length cr)).setCell (p := ⟨g, k, none⟩) (by simp; omega) (.int .i64 (z - 1))).setCell (p := ⟨w.heap.size + 1, 0, none⟩) (by simp) (.slice ad rs.length cd)).setCell (p := ⟨w.heap.size + 1, 1, none⟩) (by simp) (.slice (some ⟨g, 0, none⟩) zs.length cr))
    clear hx hy hB hb1 hown hblk o1 o2 y2
    go_wp2
    exact bodyPost_ret (v := .tuple #[.agg #[.slice ad rs.length cd, .slice (some ⟨g, 0, none⟩) zs.length cr], .int .i64 0]) (by simp [results, Try.results24, go_sem, r0, r1]) rfl ⟨ad, cd, some ⟨g, 0, none⟩, cr, vs, by rw [List.length_set], by rw [List.length_set]; exact o3.out, HBB.out⟩
  · subst hzz
    obtain ⟨gd, curd, hgd, hbd, hblkd, hcapd⟩ := own_some hown.d (by omega)
    subst hgd
    simp only [World.size_alloc] at hbd
    have hdl : gd < w1.heap.size := (Array.getElem?_eq_some_iff.1 hblkd).1
    have hdg : gd ≠ g := by intro e; subst e; rw [hblk] at hblkd; simp at hblkd
    have hdx : w.heap.size ≠ gd := by omega
    have hdy : w.heap.size + 1 ≠ gd := by omega
    have hkv : k < vs.length := by have := hown.len; omega
    have d0 : w1.cell? ⟨gd, k, none⟩ = some (vs[k]'hkv) := (by rw [hown.d.cellAt k (by omega), List.getElem?_eq_getElem])
    have d1f := hown.d.frozenAt k
    have o1 := ((hown.base (b' := w.heap.size) (by simp; omega)).set (i := 0) (u := .slice (some ⟨gd, 0, none⟩) rs.length cd) hx (by decide) (by decide)).set (i := 1) (u := .slice (some ⟨g, 0, none⟩) zs.length cr) (set_block hx _) (by decide) (by decide)
    have o2 := (o1.setRef hkl 0).setNil hkr
    have y2 := set_block_ne (g := gd) (i := k) (set_block_ne (g := g) (i := k) (set_block_ne (g := w.heap.size) (i := 1) (set_block_ne (g := w.heap.size) (i := 0) hy (by omega) (.slice (some ⟨gd, 0, none⟩) rs.length cd)) (by omega) (.slice (some ⟨g, 0, none⟩) zs.length cr)) hgy (.int .i64 0)) hdy (.slice none 0 0)
    have o3 := Lib.hid ((o2.set (i := 0) (u := .slice (some ⟨gd, 0, none⟩) rs.length cd) y2 (by decide) (by decide)).set (i := 1) (u := .slice (some ⟨g, 0, none⟩) zs.length cr) (set_block y2 _) (by decide) (by decide))
    have HBB := Lib.hid ((((((hB.setCell (p := ⟨w.heap.size, 0, none⟩) (by simp) (.slice (some ⟨gd, 0, none⟩) rs.length cd)).setCell (p := ⟨w.heap.size, 1, none⟩) (by simp) (.slice (some ⟨g, 0, none⟩) zs.length cr)).setCell (p := ⟨g, k, none⟩) (by simp; omega) (.int .i64 0)).setCell (p := ⟨gd, k, none⟩) (by simp; omega) (.slice none 0 0)).setCell (p := ⟨w.heap.size + 1, 0, none⟩) (by simp) (.slice (some ⟨gd, 0, none⟩) rs.length cd)).setCell (p := ⟨w.heap.size + 1, 1, none⟩) (by simp) (.slice (some ⟨g, 0, none⟩) zs.length cr))
    clear hx hy hB hb1 hown hblk hblkd o1 o2 y2
    go_wp2
    exact bodyPost_ret (v := .tuple #[.agg #[.slice (some ⟨gd, 0, none⟩) rs.length cd, .slice (some ⟨g, 0, none⟩) zs.length cr], .int .i64 0]) (by simp [results, Try.results24, go_sem, r0, r1]) rfl ⟨some ⟨gd, 0, none⟩, cd, some ⟨g, 0, none⟩, cr, _, by rw [List.length_set, List.length_set], by rw [List.length_set, List.length_set]; exact o3.out, HBB.out⟩
end Go.Proofs.Ytneeimfffoomgaa
