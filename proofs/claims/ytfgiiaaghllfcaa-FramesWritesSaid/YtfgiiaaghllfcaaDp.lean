/- The contract of the reference's DroppedOf. No condition. -/
import Derived.Test.YtfgiiaaghllfcaaDo
namespace Go.Proofs.Ytfgiiaaghllfcaa
open Go Go.RowKit Go.ChangeShapes Go.WideShapes Go.Deep
set_option linter.unusedVariables false

set_option maxHeartbeats 4000000 in
theorem droppedOf_last (v : Value) (rs : List (List Int)) (zs : List Int) (k : Nat) (w : World) (hf : FramesR w.heap.size w v rs zs) (hok : FOk rs zs) (hk : Kn zs k) (hz : zs.getD k 0 = 1) : Calls Try.prog 63 #[v, .int .i64 k] w (FrYes w (rs.set k []) (zs.set k 0)) := by
  have HF := Lib.hid hf
  obtain ⟨a, c1, a', c2, hs⟩ := hf.shape
  subst hs
  have HK := Lib.hid (kfault_any (.agg #[.slice a rs.length c1, .slice a' zs.length c2]) rs zs k 0 (Or.inr (Or.inr ⟨hok, hk, rfl⟩)))
  have hkl : k < zs.length := by have := hk.2.1; omega
  have hkr : k < rs.length := by rw [hok.1]; exact hkl
  obtain ⟨b, off, ha, hbb, e1⟩ := ref_at hf hkl
  subst ha
  rw [hz] at e1
  clear hok hk hf
  go_enter Try.func63, Try.ntmps63
  go_wp2_with fail
  refine (HK.out _ (HF.out.to (by simp; omega) (same_below (below_alloc2 _ _ _)))).mono ?_
  rintro e w1 ⟨rfl, hb1⟩
  have s1 := hb1.size
  simp only [World.size_alloc] at s1
  have hB := (below_alloc2 w _ _).trans (hb1.mono (by simp; omega))
  have hx := block_below hb1 (g := w.heap.size) ((alloc_lt (by simp)).trans (alloc_at rfl)) (by simp; omega)
  have hy := block_below hb1 (g := w.heap.size + 1) (alloc_at (by simp)) (by simp)
  have p0 : w1.cell? ⟨w.heap.size, 0, none⟩ = some (.slice a rs.length c1) := cell_block hx 0
  have p1 : w1.cell? ⟨w.heap.size, 1, none⟩ = some (.slice (some ⟨b, off, none⟩) zs.length c2) := cell_block hx 1
  have p2 : w1.cell? ⟨b, off + k, none⟩ = some (.int .i64 1) := (same_below hB _ _ hbb).trans e1
  have HB := Lib.hid hB
  have HX := Lib.hid hx
  have HY := Lib.hid hy
  clear hx hy hB hb1
  go_wp2_with fail
  refine (fcopyRef_any _ rs zs _ (HF.out.to (by omega) (same_below HB.out))).mono ?_
  rintro e w2 ⟨ad, cd, ar, cr, vs, rfl, hown, hb2⟩
  have s2 := hb2.size
  have hx2 := block_below hb2 HX.out (by omega)
  have hy2 := block_below hb2 HY.out (by omega)
  obtain ⟨g, cur, hga, hbg, hblk, hcap⟩ := own_some hown.r (by omega)
  subst hga
  obtain ⟨gd, curd, hgd, hbd, hblkd, hcapd⟩ := own_some hown.d (by omega)
  subst hgd
  have hdg : gd ≠ g := by intro e; subst e; rw [hblk] at hblkd; simp at hblkd
  have hkv : k < vs.length := by have := hown.len; omega
  have d0 : w2.cell? ⟨gd, k, none⟩ = some (vs[k]'hkv) := (by rw [hown.d.cellAt k (by omega), List.getElem?_eq_getElem])
  have d1f := hown.d.frozenAt k
  have hdl : gd < w2.heap.size := (Array.getElem?_eq_some_iff.1 hblkd).1
  have n4 : gd ≠ w.heap.size := by omega
  have n5 : gd ≠ b := by omega
  have n6 : gd ≠ w.heap.size + 1 := by omega
  have q1 : w2.cell? ⟨w.heap.size, 1, none⟩ = some (.slice (some ⟨b, off, none⟩) zs.length c2) := cell_block hx2 1
  have q2 : w2.cell? ⟨b, off + k, none⟩ = some (.int .i64 1) := (same_below hb2 _ _ (by omega)).trans p2
  have r0 : w2.cell? ⟨w.heap.size + 1, 0, none⟩ = some (.slice none 0 0) := cell_block hy2 0
  have r1 : w2.cell? ⟨w.heap.size + 1, 1, none⟩ = some (.slice none 0 0) := cell_block hy2 1
  have g0 := free_block hy2 0
  have g1 := free_block hy2 1
  have hgl : g < w2.heap.size := (Array.getElem?_eq_some_iff.1 hblk).1
  have l1 : w.heap.size < w2.heap.size := by omega
  have l2 : b < w2.heap.size := by omega
  have l3 : w.heap.size + 1 < w2.heap.size := by omega
  have n1 : g ≠ w.heap.size := by omega
  have n2 : g ≠ b := by omega
  have n3 : g ≠ w.heap.size + 1 := by omega
  have c0 : w2.cell? ⟨g, k, none⟩ = some (.int .i64 1) := (by rw [hown.r.cellAt k (by omega), List.getElem?_map, List.getElem?_eq_getElem hkl, ← getD_of hkl 0, hz]; rfl)
  have c1f := hown.r.frozenAt k
  have o2 := ((hown.base (b' := w.heap.size) (by omega)).setRef hkl 0).setNil hkr
  have y2 := set_block_ne (g := gd) (i := k) (set_block_ne (g := g) (i := k) hy2 (by omega) (.int .i64 0)) (by omega) (.slice none 0 0)
  have o4 := (o2.set (i := 0) (u := .slice (some ⟨gd, 0, none⟩) rs.length cd) y2 (by decide) (by decide)).set (i := 1) (u := .slice (some ⟨g, 0, none⟩) zs.length cr) (set_block y2 _) (by decide) (by decide)
  have o3 := Lib.hid (o4.grown (below_alloc _ (.cells #[.slice (some ⟨gd, 0, none⟩) rs.length cd, .slice (some ⟨g, 0, none⟩) zs.length cr] 28 (0, 0))).drew)
  have y4 := set_block (i := 1) (set_block (i := 0) y2 (.slice (some ⟨gd, 0, none⟩) rs.length cd)) (.slice (some ⟨g, 0, none⟩) zs.length cr)
  have y5 := (alloc_lt (o := .cells #[.slice (some ⟨gd, 0, none⟩) rs.length cd, .slice (some ⟨g, 0, none⟩) zs.length cr] 28 (0, 0)) (Array.getElem?_eq_some_iff.1 y4).1).trans y4
  have R0 := Lib.hid (cell_block y5 0)
  have R1 := Lib.hid (cell_block y5 1)
  have HBB := Lib.hid ((((((HB.out.trans (hb2.mono (by omega))).setCell (p := ⟨g, k, none⟩) (by simp; omega) (.int .i64 0)).setCell (p := ⟨gd, k, none⟩) (by simp; omega) (.slice none 0 0)).setCell (p := ⟨w.heap.size + 1, 0, none⟩) (by simp) (.slice (some ⟨gd, 0, none⟩) rs.length cd)).setCell (p := ⟨w.heap.size + 1, 1, none⟩) (by simp) (.slice (some ⟨g, 0, none⟩) zs.length cr)).alloc (by simp; omega) (.cells #[.slice (some ⟨gd, 0, none⟩) rs.length cd, .slice (some ⟨g, 0, none⟩) zs.length cr] 28 (0, 0))).drew
  clear hx2 hy2 hb2 hown hblk hblkd o2 y2 o4 y4 y5
  go_wp2
  go_region
  all_goals go_wp2
  all_goals have R0 := R0.out
  all_goals have R1 := R1.out
  all_goals simp only [Array.setIfInBounds] at R0 R1
  all_goals exact bodyPost_ret (v := .tuple #[.agg #[.slice (some ⟨gd, 0, none⟩) rs.length cd, .slice (some ⟨g, 0, none⟩) zs.length cr], .int .i64 0]) (by simp [results, Try.results63, go_sem, R0, R1]) rfl ⟨some ⟨gd, 0, none⟩, cd, some ⟨g, 0, none⟩, cr, _, by rw [List.length_set, List.length_set], by rw [List.length_set, List.length_set]; exact o3.out, HBB.out⟩

end Go.Proofs.Ytfgiiaaghllfcaa
