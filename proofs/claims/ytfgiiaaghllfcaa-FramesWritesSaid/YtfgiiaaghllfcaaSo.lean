/- The contract of the reference's SharedOf. No condition. -/
import Derived.Test.YtfgiiaaghllfcaaSh
import Derived.IntWalk
namespace Go.Proofs.Ytfgiiaaghllfcaa
open Go Go.RowKit Go.ChangeShapes Go.WideShapes Go.Deep
set_option linter.unusedVariables false

set_option maxHeartbeats 2000000 in
theorem sharedOf_no (v : Value) (rs : List (List Int)) (zs : List Int) (n c : Int) (w : World) (hf : FramesR w.heap.size w v rs zs) (h : (¬ FOk rs zs ∧ c = 8) ∨ (FOk rs zs ∧ ¬ Kn zs n ∧ c = 6)) : Calls Try.prog 67 #[v, .int .i64 n] w (KnNo w c) := by
  have HF := Lib.hid hf
  obtain ⟨a, c1, a', c2, hs⟩ := hf.shape
  subst hs
  clear hf
  have hcz : (c != 0) = true := by rw [bne_iff_ne]; rcases h with ⟨_, rfl⟩ | ⟨_, _, rfl⟩ <;> decide
  have hce : (c == 0) = false := by rw [beq_eq_false_iff_ne]; rcases h with ⟨_, rfl⟩ | ⟨_, _, rfl⟩ <;> decide
  have HK := Lib.hid (kfault_any (.agg #[.slice a rs.length c1, .slice a' zs.length c2]) rs zs n c (by
    rcases h with ⟨h, rfl⟩ | ⟨h, k, rfl⟩
    · exact Or.inl ⟨h, rfl⟩
    · exact Or.inr (Or.inl ⟨h, k, rfl⟩)))
  clear h
  go_enter Try.func67, Try.ntmps67
  go_wp2_with fail
  refine (HK.out _ (HF.out.to (by simp; omega) (same_below (below_alloc2 _ _ _)))).mono ?_
  rintro e w1 ⟨rfl, hb1⟩
  have s1 := hb1.size
  simp only [World.size_alloc] at s1
  have hB := (below_alloc2 w _ _).trans (hb1.mono (by simp; omega))
  have hy := block_below hb1 (g := w.heap.size + 1) (alloc_at (by simp)) (by simp)
  have r0 : w1.cell? ⟨w.heap.size + 1, 0, none⟩ = some (.slice none 0 0) := cell_block hy 0
  have r1 : w1.cell? ⟨w.heap.size + 1, 1, none⟩ = some (.slice none 0 0) := cell_block hy 1
  have g0 := free_block hy 0
  have g1 := free_block hy 1
  have HBB := Lib.hid ((hB.setCell (p := ⟨w.heap.size + 1, 0, none⟩) (by simp) (.slice none 0 0)).setCell (p := ⟨w.heap.size + 1, 1, none⟩) (by simp) (.slice none 0 0))
  clear hy hB hb1
  go_wp2
  exact bodyPost_ret (v := .tuple #[.agg #[.slice none 0 0, .slice none 0 0], .int .i64 c]) (by simp [results, Try.results67, go_sem, r0, r1]) rfl ⟨rfl, HBB.out⟩

theorem ref_at {rs : List (List Int)} {zs : List Int} {w : World} {B k : Nat} {vd : Value} {a' : Option Addr} {c2 : Nat} (hf : FramesR B w (.agg #[vd, .slice a' zs.length c2]) rs zs) (hk : k < zs.length) : ∃ b off, a' = some ⟨b, off, none⟩ ∧ b < B ∧ w.cell? ⟨b, off + k, none⟩ = some (.int .i64 (zs.getD k 0)) := by
  obtain ⟨vd', vr', hv, _, ⟨a, c, hvr, _, _, hc⟩⟩ := hf
  simp only [Value.agg.injEq, Array.mk.injEq, List.cons.injEq, and_true] at hv
  obtain ⟨_, rfl⟩ := hv
  simp only [Value.slice.injEq, true_and] at hvr
  obtain ⟨rfl, rfl⟩ := hvr
  obtain ⟨b, off, vi, ha, hb, hcell, hvi, _⟩ := hc k hk
  subst hvi
  exact ⟨b, off, ha, hb, by rw [hcell, getD_of hk 0]⟩

set_option maxHeartbeats 2000000 in
theorem sharedOf_full (v : Value) (rs : List (List Int)) (zs : List Int) (k : Nat) (z : Int) (w : World) (hf : FramesR w.heap.size w v rs zs) (hok : FOk rs zs) (hk : Kn zs k) (hz : zs.getD k 0 = 200) : Calls Try.prog 67 #[v, .int .i64 k] w (KnNo w 1) := by
  have HF := Lib.hid hf
  obtain ⟨a, c1, a', c2, hs⟩ := hf.shape
  subst hs
  have HK := Lib.hid (kfault_any (.agg #[.slice a rs.length c1, .slice a' zs.length c2]) rs zs k 0 (Or.inr (Or.inr ⟨hok, hk, rfl⟩)))
  have hkl : k < zs.length := by have := hk.2.1; omega
  obtain ⟨b, off, ha, hbb, e1⟩ := ref_at hf hkl
  subst ha
  rw [hz] at e1
  clear hok hk hf
  go_enter Try.func67, Try.ntmps67
  go_wp2_with fail
  refine (HK.out _ (HF.out.to (by simp; omega) (same_below (below_alloc2 _ _ _)))).mono ?_
  rintro e w1 ⟨rfl, hb1⟩
  have s1 := hb1.size
  simp only [World.size_alloc] at s1
  have hB := (below_alloc2 w _ _).trans (hb1.mono (by simp; omega))
  have hx := block_below hb1 (g := w.heap.size) ((alloc_lt (by simp)).trans (alloc_at rfl)) (by simp; omega)
  have hy := block_below hb1 (g := w.heap.size + 1) (alloc_at (by simp)) (by simp)
  have q1 : w1.cell? ⟨w.heap.size, 1, none⟩ = some (.slice (some ⟨b, off, none⟩) zs.length c2) := cell_block hx 1
  have q2 : w1.cell? ⟨b, off + k, none⟩ = some (.int .i64 200) := (same_below hB _ _ hbb).trans e1
  have r0 : w1.cell? ⟨w.heap.size + 1, 0, none⟩ = some (.slice none 0 0) := cell_block hy 0
  have r1 : w1.cell? ⟨w.heap.size + 1, 1, none⟩ = some (.slice none 0 0) := cell_block hy 1
  have g0 := free_block hy 0
  have g1 := free_block hy 1
  have HBB := Lib.hid ((hB.setCell (p := ⟨w.heap.size + 1, 0, none⟩) (by simp) (.slice none 0 0)).setCell (p := ⟨w.heap.size + 1, 1, none⟩) (by simp) (.slice none 0 0))
  clear hy hx hB hb1
  go_wp2
  exact bodyPost_ret (v := .tuple #[.agg #[.slice none 0 0, .slice none 0 0], .int .i64 1]) (by simp [results, Try.results67, go_sem, r0, r1]) rfl ⟨rfl, HBB.out⟩

theorem FrOwn.grown {base : Nat} {w w' : World} {vd vr : Value} {rs : List (List Int)} {zs : List Int} {vs : List Value} (h : FrOwn base w vd vr rs zs vs) (hb : Below w.heap.size w w') : FrOwn base w' vd vr rs zs vs :=
  ⟨h.len, own_below h.d hb (Nat.le_refl _), own_below h.r hb (Nat.le_refl _), fun j hj => ⟨own_below (h.rows j hj).1 hb (Nat.le_refl _), (h.rows j hj).2⟩⟩

set_option maxHeartbeats 4000000 in
theorem sharedOf_yes (v : Value) (rs : List (List Int)) (zs : List Int) (k : Nat) (z : Int) (w : World) (hf : FramesR w.heap.size w v rs zs) (hok : FOk rs zs) (hk : Kn zs k) (hz : zs.getD k 0 = z) (hzz : z ≠ 200) : Calls Try.prog 67 #[v, .int .i64 k] w (FrYes w rs (zs.set k (z + 1))) := by
  have HF := Lib.hid hf
  obtain ⟨a, c1, a', c2, hs⟩ := hf.shape
  subst hs
  have HK := Lib.hid (kfault_any (.agg #[.slice a rs.length c1, .slice a' zs.length c2]) rs zs k 0 (Or.inr (Or.inr ⟨hok, hk, rfl⟩)))
  have hkl : k < zs.length := by have := hk.2.1; omega
  have hz1 : 1 ≤ z ∧ z < 200 := by
    have h2 := hok.2.2 k hkl
    have h3 := hk.2.2
    simp only [Int.toNat_natCast] at h3
    rw [hz] at h2 h3
    have := h2.1; have := h2.2.1; omega
  obtain ⟨b, off, ha, hbb, e1⟩ := ref_at hf hkl
  subst ha
  rw [hz] at e1
  have hw : wrap64 (z + 1) = z + 1 := wrap_id (by omega)
  have hw' : IntKind.i64.wrap (z + 1) = z + 1 := IntWalk.i64_in _ (by omega)
  clear hok hk hf hzz
  go_enter Try.func67, Try.ntmps67
  go_wp2_with fail
  refine (HK.out _ (HF.out.to (by simp; omega) (same_below (below_alloc2 _ _ _)))).mono ?_
  rintro e w1 ⟨rfl, hb1⟩
  have s1 := hb1.size
  simp only [World.size_alloc] at s1
  have hB := (below_alloc2 w _ _).trans (hb1.mono (by simp; omega))
  have hx := block_below hb1 (g := w.heap.size) ((alloc_lt (by simp)).trans (alloc_at rfl)) (by simp; omega)
  have hy := block_below hb1 (g := w.heap.size + 1) (alloc_at (by simp)) (by simp)
  have p0 : w1.cell? ⟨w.heap.size, 0, none⟩ = some (.slice a rs.length c1) := cell_block hx 0
  have p1 : w1.cell? ⟨w.heap.size, 1, none⟩ = some (.slice (some ⟨b, off, none⟩) zs.length c2) := cell_block hx 1
  have p2 : w1.cell? ⟨b, off + k, none⟩ = some (.int .i64 z) := (same_below hB _ _ hbb).trans e1
  have HB := Lib.hid hB
  have HX := Lib.hid hx
  have HY := Lib.hid hy
  clear hx hy hB hb1
  go_wp2_with fail
  refine (fcopyRef_any _ rs zs _ (HF.out.to (by omega) (same_below HB.out))).mono ?_
  rintro e w2 ⟨ad, cd, ar, cr, vs, rfl, hown, hb2⟩
  have s2 := hb2.size
  have hx2 := block_below hb2 HX.out (by omega)
  have hy2 := block_below hb2 HY.out (by omega)
  obtain ⟨g, cur, hga, hbg, hblk, hcap⟩ := own_some hown.r (by omega)
  subst hga
  have q1 : w2.cell? ⟨w.heap.size, 1, none⟩ = some (.slice (some ⟨b, off, none⟩) zs.length c2) := cell_block hx2 1
  have q2 : w2.cell? ⟨b, off + k, none⟩ = some (.int .i64 z) := (same_below hb2 _ _ (by omega)).trans p2
  have r0 : w2.cell? ⟨w.heap.size + 1, 0, none⟩ = some (.slice none 0 0) := cell_block hy2 0
  have r1 : w2.cell? ⟨w.heap.size + 1, 1, none⟩ = some (.slice none 0 0) := cell_block hy2 1
  have g0 := free_block hy2 0
  have g1 := free_block hy2 1
  have hgl : g < w2.heap.size := (Array.getElem?_eq_some_iff.1 hblk).1
  have l1 : w.heap.size < w2.heap.size := by omega
  have l2 : b < w2.heap.size := by omega
  have l3 : w.heap.size + 1 < w2.heap.size := by omega
  have n1 : g ≠ w.heap.size := by omega
  have n2 : g ≠ b := by omega
  have n3 : g ≠ w.heap.size + 1 := by omega
  have c0 : w2.cell? ⟨g, k, none⟩ = some (.int .i64 z) := (by rw [hown.r.cellAt k (by omega), List.getElem?_map, List.getElem?_eq_getElem hkl, ← getD_of hkl 0, hz]; rfl)
  have c1f := hown.r.frozenAt k
  have o2 := (hown.base (b' := w.heap.size) (by omega)).setRef hkl (z + 1)
  have y2 := set_block_ne (g := g) (i := k) hy2 (by omega) (.int .i64 (z + 1))
  have o4 := (o2.set (i := 0) (u := .slice ad rs.length cd) y2 (by decide) (by decide)).set (i := 1) (u := .slice (some ⟨g, 0, none⟩) zs.length cr) (set_block y2 _) (by decide) (by decide)
  have o3 := Lib.hid (o4.grown (below_alloc _ (.cells #[.slice ad rs.length cd, .slice (some ⟨g, 0, none⟩) zs.length cr] 28 (0, 0))).drew)
  have y4 := set_block (i := 1) (set_block (i := 0) y2 (.slice ad rs.length cd)) (.slice (some ⟨g, 0, none⟩) zs.length cr)
  have y5 := (alloc_lt (o := .cells #[.slice ad rs.length cd, .slice (some ⟨g, 0, none⟩) zs.length cr] 28 (0, 0)) (Array.getElem?_eq_some_iff.1 y4).1).trans y4
  have R0 := Lib.hid (cell_block y5 0)
  have R1 := Lib.hid (cell_block y5 1)
  have HBB := Lib.hid (((((HB.out.trans (hb2.mono (by omega))).setCell (p := ⟨g, k, none⟩) (by simp; omega) (.int .i64 (z + 1))).setCell (p := ⟨w.heap.size + 1, 0, none⟩) (by simp) (.slice ad rs.length cd)).setCell (p := ⟨w.heap.size + 1, 1, none⟩) (by simp) (.slice (some ⟨g, 0, none⟩) zs.length cr)).alloc (by simp; omega) (.cells #[.slice ad rs.length cd, .slice (some ⟨g, 0, none⟩) zs.length cr] 28 (0, 0))).drew
  clear hx2 hy2 hb2 hown hblk o2 y2 o4 y4 y5
  go_wp2
  go_region
  all_goals go_wp2
  all_goals have R0 := R0.out
  all_goals have R1 := R1.out
  all_goals simp only [Array.setIfInBounds] at R0 R1
  all_goals exact bodyPost_ret (v := .tuple #[.agg #[.slice ad rs.length cd, .slice (some ⟨g, 0, none⟩) zs.length cr], .int .i64 0]) (by simp [results, Try.results67, go_sem, R0, R1]) rfl ⟨ad, cd, some ⟨g, 0, none⟩, cr, vs, by rw [List.length_set], by rw [List.length_set]; exact o3.out, HBB.out⟩

theorem KnNo.ret {w w' : World} {c : Int} {e : Ending} (h : KnNo w c e w') : RetF w [] [] c e w' := by
  obtain ⟨rfl, hb⟩ := h
  exact ⟨_, rfl, framesR_nil _ _, hb⟩
theorem FrYes.ret {w w' : World} {rs : List (List Int)} {zs : List Int} {e : Ending} (h : FrYes w rs zs e w') (hb : FBd rs zs) : RetF w rs zs 0 e w' := by
  obtain ⟨ad, cd, ar, cr, vs, rfl, ho, hbel⟩ := h
  exact ⟨_, rfl, ho.reads hb, hbel⟩
theorem FBd.setRef {rs : List (List Int)} {zs : List Int} (h : FBd rs zs) (k : Nat) (z : Int) (hz : I64 z) : FBd rs (zs.set k z) :=
  ⟨h.row, fun x hx => (List.mem_or_eq_of_mem_set hx).elim (h.ref x) (fun e => e ▸ hz), h.nd, by rw [List.length_set]; exact h.nr⟩

/-- Share and SharedOf answer alike. -/
theorem share_both (rs : List (List Int)) (zs : List Int) (n : Int) (hbd : FBd rs zs) : ∃ rs' zs' c, ∀ (v : Value) (w : World), FramesR w.heap.size w v rs zs → Calls Try.prog 66 #[v, .int .i64 n] w (RetF w rs' zs' c) ∧ Calls Try.prog 67 #[v, .int .i64 n] w (RetF w rs' zs' c) := by
  rcases Classical.em (FOk rs zs) with h | h
  rcases Classical.em (Kn zs n) with k | k
  · obtain ⟨j, rfl⟩ : ∃ j : Nat, n = j := ⟨n.toNat, by have := k.1; omega⟩
    rcases Decidable.em (zs.getD j 0 = 200) with e | e
    · exact ⟨[], [], 1, fun v w hf => ⟨((share_yes v rs zs j 200 w hf h k e).1 rfl).mono fun _ _ => KnNo.ret, (sharedOf_full v rs zs j 200 w hf h k e).mono fun _ _ => KnNo.ret⟩⟩
    · have hj : j < zs.length := by have := k.2.1; omega
      have h2 := h.2.2 j hj
      have hb2 := hbd.setRef j (zs.getD j 0 + 1) (by have := h2.1; have := h2.2.1; unfold I64; omega)
      exact ⟨rs, zs.set j (zs.getD j 0 + 1), 0, fun v w hf => ⟨((share_yes v rs zs j _ w hf h k rfl).2 e).mono fun _ _ h => h.ret hb2, (sharedOf_yes v rs zs j _ w hf h k rfl e).mono fun _ _ h => h.ret hb2⟩⟩
  · exact ⟨[], [], 6, fun v w hf => ⟨(share_no v rs zs n 6 w hf (Or.inr ⟨h, k, rfl⟩)).mono fun _ _ => KnNo.ret, (sharedOf_no v rs zs n 6 w hf (Or.inr ⟨h, k, rfl⟩)).mono fun _ _ => KnNo.ret⟩⟩
  · exact ⟨[], [], 8, fun v w hf => ⟨(share_no v rs zs n 8 w hf (Or.inl ⟨h, rfl⟩)).mono fun _ _ => KnNo.ret, (sharedOf_no v rs zs n 8 w hf (Or.inl ⟨h, rfl⟩)).mono fun _ _ => KnNo.ret⟩⟩
end Go.Proofs.Ytfgiiaaghllfcaa
