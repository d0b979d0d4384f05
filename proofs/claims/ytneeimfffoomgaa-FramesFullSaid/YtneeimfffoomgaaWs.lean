/- The contract of frames.Write where it writes. No condition. -/
import Derived.Test.YtneeimfffoomgaaWr
namespace Go.Proofs.Ytneeimfffoomgaa
open Go Go.RowKit Go.ChangeShapes Go.WideShapes Go.Deep
set_option linter.unusedVariables false
attribute [local go_sem ↓] Go.wp_at_zero Go.wp_at_succ

theorem kn_len {rs : List (List Int)} {zs : List Int} {k : Nat} (hok : FOk rs zs) (hk : Kn zs k) : k < zs.length ∧ k < rs.length ∧ (rs.getD k []).length = 16 ∧ 1 ≤ zs.getD k 0 ∧ zs.getD k 0 ≤ 200 := by
  have h1 : k < zs.length := by have := hk.2.1; omega
  have h2 := hok.2.2 k h1
  have h3 := hk.2.2
  simp only [Int.toNat_natCast] at h3
  exact ⟨h1, by rw [hok.1]; exact h1, h2.2.2.2 h3, by have := h2.1; omega, h2.2.1⟩

set_option maxHeartbeats 4000000 in
/-- Alone: the word is written in its place. -/
theorem write_one (v : Value) (rs : List (List Int)) (zs : List Int) (k j : Nat) (x : Int) (w : World) (hf : FramesR w.heap.size w v rs zs) (hok : FOk rs zs) (hk : Kn zs k) (hj : j < 16) (h1 : zs.getD k 0 = 1) : Calls Try.prog 26 #[v, .int .i64 k, .int .i64 j, .int .i64 x] w (FrYesI w k (rs.set k ((rs.getD k []).set j x)) zs) := by
  have HF := Lib.hid hf
  obtain ⟨a, c1, a', c2, hs⟩ := hf.shape
  subst hs
  have HK := Lib.hid (fun w' (hf : FramesR w'.heap.size w' (.agg #[.slice a rs.length c1, .slice a' zs.length c2]) rs zs) => (known_ok _ rs zs k w' hf hok).2 hk)
  obtain ⟨hkz, hkr, h16, _, _⟩ := kn_len hok hk
  have h200 : zs.length ≤ 200 := hok.2.1
  have h200' : rs.length ≤ 200 := by rw [hok.1]; exact hok.2.1
  have H1 := Lib.hid h1
  have H16 := Lib.hid h16
  clear hf hok hk h1 h16
  go_enter Try.func26, Try.ntmps26
  go_wp2_with fail
  refine (HK.out _ (HF.out.to (by simp; omega) (same_below (below_alloc2 _ _ _)))).mono ?_
  rintro e w1 ⟨ad, cd, ar, cr, vs, rfl, hown, hb1⟩
  obtain ⟨hfb, hx1⟩ := wr_open rfl rfl hown hb1
  have q0 : w1.cell? ⟨w.heap.size, 0, none⟩ = some (.slice a rs.length c1) := cell_block hx1 0
  have q1 : w1.cell? ⟨w.heap.size, 1, none⟩ = some (.slice a' zs.length c2) := cell_block hx1 1
  have f0 := free_block hx1 0
  have f1 := free_block hx1 1
  have HFB := Lib.hid hfb
  clear hown hb1 hx1 hfb
  go_upto_region 6 with fail
  generalize hW : World.setCell (World.setCell w1 _ _) _ _ = W at HFB ⊢
  clear hW q0 q1 f0 f1 w1
  have hfb := HFB.out
  obtain ⟨gd, gr, rfl, rfl, hcd, hcr, hat⟩ := hfb.o.at_ hkr hkz
  obtain ⟨gk, ck, hv, hck, lgk, wgk, ⟨curk, hbk⟩, hrow, hne⟩ := hfb.o.row_ hkr H16.out (by omega)
  obtain ⟨cd0, cr0, fd0, fr0, ld, lr, wd, wr, _, _⟩ := hat k hkr hkz
  obtain ⟨cj, fj⟩ := hrow j hj
  rw [H1.out] at cr0
  rw [hv] at cd0
  have x0 : W.cell? ⟨w.heap.size, 0, none⟩ = some (.slice (some ⟨gd, 0, none⟩) rs.length cd) := cell_block hfb.x 0
  have x1 : W.cell? ⟨w.heap.size, 1, none⟩ = some (.slice (some ⟨gr, 0, none⟩) zs.length cr) := cell_block hfb.x 1
  have r0 : W.cell? ⟨w.heap.size + 1, 0, none⟩ = some (.slice none 0 0) := cell_block hfb.y 0
  have r1 : W.cell? ⟨w.heap.size + 1, 1, none⟩ = some (.slice none 0 0) := cell_block hfb.y 1
  have g0 := free_block hfb.y 0
  have g1 := free_block hfb.y 1
  have nx : w.heap.size ≠ gk := by intro e; subst e; rw [hfb.x] at hbk; simp at hbk
  have ny : w.heap.size + 1 ≠ gk := by intro e; subst e; rw [hfb.y] at hbk; simp at hbk
  have l1 : (k : Int) < (rs.length : Int) := by omega
  have l2 : (k : Int) < (zs.length : Int) := by omega
  have l3 : (j : Int) < 16 := by omega
  have HFin := Lib.hid (((hfb.put hbk (i := j) (u := .int .i64 x) (by decide) wgk (hfb.o.setWord hkr rfl (by rw [H16.out]; exact hv) (by rw [H16.out]; exact hj) x))).fin k (by rw [List.length_set]) rfl)
  clear hfb hbk hrow hne hat hv HFB H1 H16
  go_wp2
  exact bodyPost_ret (v := .tuple #[.agg #[.slice (some ⟨gd, 0, none⟩) rs.length cd, .slice (some ⟨gr, 0, none⟩) zs.length cr], .int .i64 k, .int .i64 0]) (by simp [results, Try.results26, go_sem, r0, r1]) rfl HFin.out

set_option maxHeartbeats 4000000 in
/-- Others know it, and no frame is free. -/
theorem write_full (v : Value) (rs : List (List Int)) (zs : List Int) (k j : Nat) (x : Int) (w : World) (hf : FramesR w.heap.size w v rs zs) (hok : FOk rs zs) (hk : Kn zs k) (hj : j < 16) (h1 : 1 < zs.getD k 0) (hz : Fz zs (-1)) : Calls Try.prog 26 #[v, .int .i64 k, .int .i64 j, .int .i64 x] w (KnNoI w 7) := by
  have HF := Lib.hid hf
  obtain ⟨a, c1, a', c2, hs⟩ := hf.shape
  subst hs
  have HK := Lib.hid (fun w' (hf : FramesR w'.heap.size w' (.agg #[.slice a rs.length c1, .slice a' zs.length c2]) rs zs) => (known_ok _ rs zs k w' hf hok).2 hk)
  obtain ⟨hkz, hkr, h16, _, _⟩ := kn_len hok hk
  have h200 : zs.length ≤ 200 := hok.2.1
  have h200' : rs.length ≤ 200 := by rw [hok.1]; exact hok.2.1
  have HZ := Lib.hid hz
  have HBD := Lib.hid hf.bd
  clear hf hok hk h16 hz
  generalize hzk : zs.getD k 0 = z at *
  have HZK := Lib.hid hzk
  clear hzk
  go_enter Try.func26, Try.ntmps26
  go_wp2_with fail
  refine (HK.out _ (HF.out.to (by simp; omega) (same_below (below_alloc2 _ _ _)))).mono ?_
  rintro e w1 ⟨ad, cd, ar, cr, vs, rfl, hown, hb1⟩
  obtain ⟨hfb, hx1⟩ := wr_open rfl rfl hown hb1
  have q0 : w1.cell? ⟨w.heap.size, 0, none⟩ = some (.slice a rs.length c1) := cell_block hx1 0
  have q1 : w1.cell? ⟨w.heap.size, 1, none⟩ = some (.slice a' zs.length c2) := cell_block hx1 1
  have f0 := free_block hx1 0
  have f1 := free_block hx1 1
  have HFB := Lib.hid hfb
  clear hown hb1 hx1 hfb
  go_upto_region 6 with fail
  generalize hW : World.setCell (World.setCell w1 _ _) _ _ = W at HFB ⊢
  clear hW q0 q1 f0 f1 w1
  have hfb := HFB.out
  obtain ⟨gd, gr, rfl, rfl, hcd, hcr, hat⟩ := hfb.o.at_ hkr hkz
  obtain ⟨cd0, cr0, fd0, fr0, ld, lr, wd, wr, _, _⟩ := hat k hkr hkz
  rw [HZK.out] at cr0
  have x0 : W.cell? ⟨w.heap.size, 0, none⟩ = some (.slice (some ⟨gd, 0, none⟩) rs.length cd) := cell_block hfb.x 0
  have x1 : W.cell? ⟨w.heap.size, 1, none⟩ = some (.slice (some ⟨gr, 0, none⟩) zs.length cr) := cell_block hfb.x 1
  have r0 : W.cell? ⟨w.heap.size + 1, 0, none⟩ = some (.slice none 0 0) := cell_block hfb.y 0
  have r1 : W.cell? ⟨w.heap.size + 1, 1, none⟩ = some (.slice none 0 0) := cell_block hfb.y 1
  have g0 := free_block hfb.y 0
  have g1 := free_block hfb.y 1
  have l1 : (k : Int) < (rs.length : Int) := by omega
  have l2 : (k : Int) < (zs.length : Int) := by omega
  have HINT := Lib.hid (ints_of_owns hfb.o.r HBD.out.nr HBD.out.ref)
  have HBB := Lib.hid ((hfb.b.setCell (p := ⟨w.heap.size + 1, 0, none⟩) (by simp) (.slice none 0 0)).setCell (p := ⟨w.heap.size + 1, 1, none⟩) (by simp) (.slice none 0 0))
  clear hfb hat HFB
  go_wp2_with fail
  refine (index_any _ zs (-1) HZ.out _ HINT.out).mono ?_
  rintro e w2 ⟨rfl, rfl⟩
  go_wp2
  exact bodyPost_ret (v := .tuple #[.agg #[.slice none 0 0, .slice none 0 0], .int .i64 0, .int .i64 7]) (by simp [results, Try.results26, go_sem, r0, r1]) rfl ⟨rfl, HBB.out⟩
end Go.Proofs.Ytneeimfffoomgaa
