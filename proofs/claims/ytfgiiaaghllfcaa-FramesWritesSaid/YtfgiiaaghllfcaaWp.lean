/- The contract of the reference's WroteOf where it writes. No condition. -/
import Derived.Test.YtfgiiaaghllfcaaWo
import Derived.IntWalk
namespace Go.Proofs.Ytfgiiaaghllfcaa
open Go Go.RowKit Go.ChangeShapes Go.WideShapes Go.Deep
set_option linter.unusedVariables false
attribute [local go_sem ↓] Go.wp_at_zero Go.wp_at_succ

set_option maxHeartbeats 4000000 in
theorem wroteOf_one (v : Value) (rs : List (List Int)) (zs : List Int) (k j : Nat) (x : Int) (w : World) (hf : FramesR w.heap.size w v rs zs) (hok : FOk rs zs) (hk : Kn zs k) (hj : j < 16) (h1 : zs.getD k 0 = 1) : Calls Try.prog 69 #[v, .int .i64 k, .int .i64 j, .int .i64 x] w (FrYesI w k (rs.set k ((rs.getD k []).set j x)) zs) := by
  have HF := Lib.hid hf
  obtain ⟨a, c1, a', c2, hs⟩ := hf.shape
  subst hs
  have HK := Lib.hid (kfault_any (.agg #[.slice a rs.length c1, .slice a' zs.length c2]) rs zs k 0 (Or.inr (Or.inr ⟨hok, hk, rfl⟩)))
  obtain ⟨hkz, hkr, h16, _, _⟩ := kn_len hok hk
  obtain ⟨b, off, ha, hbb, e1⟩ := ref_at hf hkz
  subst ha
  rw [h1] at e1
  have h200 : zs.length ≤ 200 := hok.2.1
  have h200' : rs.length ≤ 200 := by rw [hok.1]; exact hok.2.1
  have hjj : (0 : Int) ≤ (j : Int) ∧ (j : Int) ≤ 15 := by omega
  have HJ := Lib.hid hjj
  have H16 := Lib.hid h16
  clear hf hok hk h1 h16 hjj
  go_enter Try.func69, Try.ntmps69
  go_wp2_with fail
  refine (HK.out _ (HF.out.to (by simp; omega) (same_below (below_alloc2 _ _ _)))).mono ?_
  rintro e w1 ⟨rfl, hb1⟩
  have s1 := hb1.size
  simp only [World.size_alloc] at s1
  have hB := (below_alloc2 w _ _).trans (hb1.mono (by simp; omega))
  have hx := block_below hb1 (g := w.heap.size) ((alloc_lt (by simp)).trans (alloc_at rfl)) (by simp; omega)
  have hy := block_below hb1 (g := w.heap.size + 1) (alloc_at (by simp)) (by simp)
  have p0 : w1.cell? ⟨w.heap.size, 0, none⟩ = some (.slice a rs.length c1) := cell_block hx 0
  have p1 : w1.cell? ⟨w.heap.size, 1, none⟩ = some (.slice (some ⟨b, off, none⟩) zs.length c2) := cell_block hx 1
  have HB := Lib.hid hB
  have HX := Lib.hid hx
  have HY := Lib.hid hy
  clear hx hy hB hb1
  go_wp2_with (go_at_call 82; refine (in_yes _ _ _ _ ?_).mono ?_; exact HJ.out; rintro e w' ⟨rfl, rfl⟩)
  refine (fcopyRef_any _ rs zs _ (HF.out.to (by omega) (same_below HB.out))).mono ?_
  rintro e w2 ⟨ad, cd, ar, cr, vs, rfl, hown, hb2⟩
  have s2 := hb2.size
  have l2 : w.heap.size < w2.heap.size := by omega
  have lb2 : b < w2.heap.size := by omega
  have q0 : w2.cell? ⟨w.heap.size, 0, none⟩ = some (.slice a rs.length c1) := (same_below hb2 _ _ (by omega)).trans p0
  have q1 : w2.cell? ⟨w.heap.size, 1, none⟩ = some (.slice (some ⟨b, off, none⟩) zs.length c2) := (same_below hb2 _ _ (by omega)).trans p1
  have q2 : w2.cell? ⟨b, off + k, none⟩ = some (.int .i64 1) := (same_below hb2 _ _ (by omega)).trans ((same_below HB.out _ _ hbb).trans e1)
  obtain ⟨hfb, hp⟩ := wo_open HB.out HX.out HY.out hown hb2
  have HFB := Lib.hid hfb
  have l1 : (k : Int) < (rs.length : Int) := by omega
  have l2' : (k : Int) < (zs.length : Int) := by omega
  clear hown hb2 hfb hp
  go_upto_region 15 with fail
  generalize hW : World.alloc w2 _ = W at HFB ⊢
  generalize hG : w2.heap.size = g at HFB ⊢
  clear hW hG q0 q1 q2 p0 p1 l2 lb2
  have hfb := HFB.out
  obtain ⟨gd, gr, rfl, rfl, hcd, hcr, hat⟩ := hfb.o.at_ hkr hkz
  obtain ⟨gk, ck, hv, hck, lgk, wgk, ⟨curk, hbk⟩, hrow, hne⟩ := hfb.o.row_ hkr H16.out (by omega)
  obtain ⟨cd0, cr0, fd0, fr0, ld, lr, wd, wr, _, _⟩ := hat k hkr hkz
  obtain ⟨cj, fj⟩ := hrow j hj
  rw [hv] at cd0
  have x0 : W.cell? ⟨g, 0, none⟩ = some (.slice (some ⟨gd, 0, none⟩) rs.length cd) := cell_block hfb.x 0
  have x1 : W.cell? ⟨g, 1, none⟩ = some (.slice (some ⟨gr, 0, none⟩) zs.length cr) := cell_block hfb.x 1
  have r0 : W.cell? ⟨w.heap.size + 1, 0, none⟩ = some (.slice none 0 0) := cell_block hfb.y 0
  have r1 : W.cell? ⟨w.heap.size + 1, 1, none⟩ = some (.slice none 0 0) := cell_block hfb.y 1
  have g0 := free_block hfb.y 0
  have g1 := free_block hfb.y 1
  have nx : g ≠ gk := by intro e; subst e; rw [hfb.x] at hbk; simp at hbk
  have ny : w.heap.size + 1 ≠ gk := by intro e; subst e; rw [hfb.y] at hbk; simp at hbk
  have l3 : (j : Int) < 16 := by omega
  have HFin := Lib.hid (((hfb.put hbk (i := j) (u := .int .i64 x) (by decide) wgk (hfb.o.setWord hkr rfl (by rw [H16.out]; exact hv) (by rw [H16.out]; exact hj) x))).fin k (by rw [List.length_set]) rfl)
  clear hfb hbk hrow hne hat hv HFB H16
  go_wp2
  exact bodyPost_ret (v := .tuple #[.agg #[.slice (some ⟨gd, 0, none⟩) rs.length cd, .slice (some ⟨gr, 0, none⟩) zs.length cr], .int .i64 k, .int .i64 0]) (by simp [results, Try.results69, go_sem, r0, r1]) rfl HFin.out

set_option maxHeartbeats 4000000 in
theorem wroteOf_full (v : Value) (rs : List (List Int)) (zs : List Int) (k j : Nat) (x z : Int) (w : World) (hf : FramesR w.heap.size w v rs zs) (hok : FOk rs zs) (hk : Kn zs k) (hj : j < 16) (hzk : zs.getD k 0 = z) (h1 : 1 < z) (hz : Fz zs (-1)) : Calls Try.prog 69 #[v, .int .i64 k, .int .i64 j, .int .i64 x] w (KnNoI w 7) := by
  have HF := Lib.hid hf
  obtain ⟨a, c1, a', c2, hs⟩ := hf.shape
  subst hs
  have HK := Lib.hid (kfault_any (.agg #[.slice a rs.length c1, .slice a' zs.length c2]) rs zs k 0 (Or.inr (Or.inr ⟨hok, hk, rfl⟩)))
  obtain ⟨hkz, hkr, h16, _, _⟩ := kn_len hok hk
  obtain ⟨b, off, ha, hbb, e1⟩ := ref_at hf hkz
  subst ha
  rw [hzk] at e1
  have h200 : zs.length ≤ 200 := hok.2.1
  have hjj : (0 : Int) ≤ (j : Int) ∧ (j : Int) ≤ 15 := by omega
  have HJ := Lib.hid hjj
  have HZ := Lib.hid hz
  clear hf hok hk h16 hjj hz hzk
  go_enter Try.func69, Try.ntmps69
  go_wp2_with fail
  refine (HK.out _ (HF.out.to (by simp; omega) (same_below (below_alloc2 _ _ _)))).mono ?_
  rintro e w1 ⟨rfl, hb1⟩
  have s1 := hb1.size
  simp only [World.size_alloc] at s1
  have hB := (below_alloc2 w _ _).trans (hb1.mono (by simp; omega))
  have hx := block_below hb1 (g := w.heap.size) ((alloc_lt (by simp)).trans (alloc_at rfl)) (by simp; omega)
  have hy := block_below hb1 (g := w.heap.size + 1) (alloc_at (by simp)) (by simp)
  have p0 : w1.cell? ⟨w.heap.size, 0, none⟩ = some (.slice a rs.length c1) := cell_block hx 0
  have p1 : w1.cell? ⟨w.heap.size, 1, none⟩ = some (.slice (some ⟨b, off, none⟩) zs.length c2) := cell_block hx 1
  have HB := Lib.hid hB
  have HX := Lib.hid hx
  have HY := Lib.hid hy
  clear hx hy hB hb1
  go_wp2_with (go_at_call 82; refine (in_yes _ _ _ _ ?_).mono ?_; exact HJ.out; rintro e w' ⟨rfl, rfl⟩)
  refine (fcopyRef_any _ rs zs _ (HF.out.to (by omega) (same_below HB.out))).mono ?_
  rintro e w2 ⟨ad, cd, ar, cr, vs, rfl, hown, hb2⟩
  have s2 := hb2.size
  have l2 : w.heap.size < w2.heap.size := by omega
  have lb2 : b < w2.heap.size := by omega
  have q0 : w2.cell? ⟨w.heap.size, 0, none⟩ = some (.slice a rs.length c1) := (same_below hb2 _ _ (by omega)).trans p0
  have q1 : w2.cell? ⟨w.heap.size, 1, none⟩ = some (.slice (some ⟨b, off, none⟩) zs.length c2) := (same_below hb2 _ _ (by omega)).trans p1
  have q2 : w2.cell? ⟨b, off + k, none⟩ = some (.int .i64 z) := (same_below hb2 _ _ (by omega)).trans ((same_below HB.out _ _ hbb).trans e1)
  obtain ⟨hfb, hp⟩ := wo_open HB.out HX.out HY.out hown hb2
  have HBB := Lib.hid hfb.b
  have HYY := Lib.hid hfb.y
  have l2' : (k : Int) < (zs.length : Int) := by omega
  have lw : w.heap.size ≤ w2.heap.size := by omega
  clear hown hb2 hfb hp
  go_wp2_with fail
  refine (firstFree_any _ rs zs (-1) HZ.out _ (HF.out.to (by simp; omega) (same_below HBB.out))).mono ?_
  rintro e w3 ⟨rfl, hb3⟩
  have hy3 := block_below hb3 HYY.out (by simp; omega)
  have r0 : w3.cell? ⟨w.heap.size + 1, 0, none⟩ = some (.slice none 0 0) := cell_block hy3 0
  have r1 : w3.cell? ⟨w.heap.size + 1, 1, none⟩ = some (.slice none 0 0) := cell_block hy3 1
  have g0 := free_block hy3 0
  have g1 := free_block hy3 1
  have HBF := Lib.hid (((HBB.out.trans (hb3.mono (by simp; omega))).setCell (p := ⟨w.heap.size + 1, 0, none⟩) (by simp) (.slice none 0 0)).setCell (p := ⟨w.heap.size + 1, 1, none⟩) (by simp) (.slice none 0 0))
  clear hy3 hb3 HBB HYY
  go_wp2
  exact bodyPost_ret (v := .tuple #[.agg #[.slice none 0 0, .slice none 0 0], .int .i64 0, .int .i64 7]) (by simp [results, Try.results69, go_sem, r0, r1]) rfl ⟨rfl, HBF.out⟩
end Go.Proofs.Ytfgiiaaghllfcaa
