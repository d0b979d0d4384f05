/- run.Record. No condition beyond the readings and the table. -/
import Derived.Test.YtilcnlmapifdgaaDoorYQg
import Derived.Test.YtilcnlmapifdgaaDoorYQh
import Derived.Handy
import Derived.StillTailTactics
import Derived.Deep.RegionWith
import Derived.Deep.RegionLaw
import Derived.Deep.CutBlock
import Derived.Deep.CutRange
import Derived.Deep.RegionHeld3
import Derived.Deep.LoopGhost
namespace Go.Proofs.YtilcnlmapifdgaaDoor
open Go Go.RowKit Go.ChangeShapes Go.WideShapes Go.Deep
set_option linter.unusedVariables false
attribute [local go_sem ↓] Go.wp_at_zero Go.wp_at_succ

set_option maxHeartbeats 16000000 in
set_option maxRecDepth 100000 in
theorem record_any (ai : Option Addr) (ci : Nat) (a0 a1 a2 a3 : Option Addr) (c0 c1 c2 c3 : Nat) (img is vs : List Int) (bs : List (List Int)) (ds : List Int) (n : Int) (w : World) (ht : Tab w) (hi : Ints w.heap.size w (.slice ai img.length ci) img) (h0 : Ints w.heap.size w (.slice a0 is.length c0) is) (h1 : Ints w.heap.size w (.slice a1 vs.length c1) vs) (h2 : RowsR w.heap.size w (.slice a2 bs.length c2) bs) (h3 : Ints w.heap.size w (.slice a3 ds.length c3) ds) (hn : I64 n) : Calls Tryd.prog 19 #[.slice ai img.length ci, .agg #[.slice a0 is.length c0, .slice a1 vs.length c1, .slice a2 bs.length c2, .slice a3 ds.length c3], .int .i64 n] w (RecPost img is vs bs ds n w) := by
  have HI := Lib.hid hi
  have H0 := Lib.hid h0
  have H1 := Lib.hid h1
  have H2 := Lib.hid h2
  have H3 := Lib.hid h3
  have HT := Lib.hid ht
  obtain ⟨hn1, hn2⟩ := hn
  clear hi h0 h1 h2 h3 ht
  obtain ⟨W1, hW1⟩ : ∃ W1, W1 = (((w.alloc (.cells #[.slice a0 is.length c0, .slice a1 vs.length c1, .slice a2 bs.length c2, .slice a3 ds.length c3] 48 (0, 0))).alloc (.cells #[.slice none 0 0, .slice none 0 0, .int .i64 0] 27 (0, 0))).alloc (.cells #[.slice none 0 0, .int .i64 0, .int .i64 0, .bool false, .bool false, .int .i64 0, .int .i64 0, .int .i64 0, .slice none 0 0, .slice none 0 0, .int .i64 0, .int .i64 0] 29 (0, 0))) := ⟨_, rfl⟩
  have HBA := Lib.hid (show Below w.heap.size w W1 from by rw [hW1]; exact (below_alloc2 w _ _).alloc (by simp; omega) _)
  have hsz : W1.heap.size = w.heap.size + 3 := by rw [hW1]; simp
  have hxw : W1.heap[w.heap.size]? = some (.cells #[.slice a0 is.length c0, .slice a1 vs.length c1, .slice a2 bs.length c2, .slice a3 ds.length c3] 48 (0, 0)) := by rw [hW1]; exact (alloc_lt (by simp; omega)).trans ((alloc_lt (by simp)).trans (alloc_at rfl))
  have hxt : W1.heap[w.heap.size + 1]? = some (.cells #[.slice none 0 0, .slice none 0 0, .int .i64 0] 27 (0, 0)) := by rw [hW1]; exact (alloc_lt (by simp)).trans (alloc_at (by simp))
  have hxm : W1.heap[w.heap.size + 2]? = some (.cells #[.slice none 0 0, .int .i64 0, .int .i64 0, .bool false, .bool false, .int .i64 0, .int .i64 0, .int .i64 0, .slice none 0 0, .slice none 0 0, .int .i64 0, .int .i64 0] 29 (0, 0)) := by rw [hW1]; exact alloc_at (by simp)
  have HXW := Lib.hid hxw
  have HXT := Lib.hid hxt
  have HXM := Lib.hid hxm
  have HNW := Lib.hid (cnew_all (.slice ai img.length ci) img W1 (HI.out.to HBA.out.size (same_below HBA.out)))
  go_enter Tryd.func19, Tryd.ntmps19
  go_upto_region 1 with fail
  rw [← hW1]
  clear hW1 hxw hxt hxm
  obtain ⟨nc, hnc⟩ : ∃ nc, newC img = nc := ⟨_, rfl⟩
  rw [hnc] at HNW
  have HNC := Lib.hid hnc
  clear hnc
  go_wp2_with fail
  refine HNW.out.mono ?_
  rintro e w1 ⟨ar, cr, am, cm, ao, co, rfl, hown, hb1⟩
  rw [Mach.agg]
  have hs1 := hb1.size
  have HBF := Lib.hid hb1
  have HOWN := Lib.hid hown
  go_upto_region 2 with fail

  obtain ⟨W2, hW2⟩ : ∃ W2, W2 = w1.alloc (.cells #[.slice ar (newM img).regs.length cr, .int .i64 (newM img).pc, .int .i64 (newM img).back, .bool (newM img).ints, .bool (newM img).wait, .int .i64 (newM img).table, .int .i64 (newM img).count, .int .i64 (newM img).fin, .slice am (newM img).mem.length cm, .slice ao (newM img).out.length co, .int .i64 (newM img).ready, .int .i64 (newM img).want] 29 (0, 0)) := ⟨_, rfl⟩
  have hbw2 : Below w1.heap.size w1 W2 := by rw [hW2]; exact below_alloc _ _
  have hxg : W2.heap[w1.heap.size]? = some (.cells #[.slice ar (newM img).regs.length cr, .int .i64 (newM img).pc, .int .i64 (newM img).back, .bool (newM img).ints, .bool (newM img).wait, .int .i64 (newM img).table, .int .i64 (newM img).count, .int .i64 (newM img).fin, .slice am (newM img).mem.length cm, .slice ao (newM img).out.length co, .int .i64 (newM img).ready, .int .i64 (newM img).want] 29 (0, 0)) := by rw [hW2]; exact alloc_at rfl
  rw [← hW2]
  have hxw := block_below hbw2 (block_below hb1 HXW.out (by omega)) (by omega)
  have hxt := block_below hbw2 (block_below hb1 HXT.out (by omega)) (by omega)
  have hxm := block_below hbw2 (block_below hb1 HXM.out (by omega)) (by omega)
  have HB1 := Lib.hid (HBA.out.trans ((hb1.trans (hbw2.mono hs1)).mono HBA.out.size))
  have HBG := Lib.hid hbw2
  have HXG := Lib.hid hxg
  have lw1 : w.heap.size + 2 < W2.heap.size := (Array.getElem?_eq_some_iff.1 hxm).1
  have lw2 : w.heap.size + 1 < W2.heap.size := by omega
  have lw3 : w.heap.size < W2.heap.size := by omega
  have lw4 : w.heap.size + 2 < w1.heap.size := by omega
  generalize hgb : w1.heap.size = gb at *

  have r0 : W2.cell? ⟨w.heap.size + 2, 0, none⟩ = some (.slice none 0 0) := cell_block hxm 0
  have g0 := free_block hxm 0
  have r1 : W2.cell? ⟨w.heap.size + 2, 1, none⟩ = some (.int .i64 0) := cell_block hxm 1
  have g1 := free_block hxm 1
  have r2 : W2.cell? ⟨w.heap.size + 2, 2, none⟩ = some (.int .i64 0) := cell_block hxm 2
  have g2 := free_block hxm 2
  have r3 : W2.cell? ⟨w.heap.size + 2, 3, none⟩ = some (.bool false) := cell_block hxm 3
  have g3 := free_block hxm 3
  have r4 : W2.cell? ⟨w.heap.size + 2, 4, none⟩ = some (.bool false) := cell_block hxm 4
  have g4 := free_block hxm 4
  have r5 : W2.cell? ⟨w.heap.size + 2, 5, none⟩ = some (.int .i64 0) := cell_block hxm 5
  have g5 := free_block hxm 5
  have r6 : W2.cell? ⟨w.heap.size + 2, 6, none⟩ = some (.int .i64 0) := cell_block hxm 6
  have g6 := free_block hxm 6
  have r7 : W2.cell? ⟨w.heap.size + 2, 7, none⟩ = some (.int .i64 0) := cell_block hxm 7
  have g7 := free_block hxm 7
  have r8 : W2.cell? ⟨w.heap.size + 2, 8, none⟩ = some (.slice none 0 0) := cell_block hxm 8
  have g8 := free_block hxm 8
  have r9 : W2.cell? ⟨w.heap.size + 2, 9, none⟩ = some (.slice none 0 0) := cell_block hxm 9
  have g9 := free_block hxm 9
  have r10 : W2.cell? ⟨w.heap.size + 2, 10, none⟩ = some (.int .i64 0) := cell_block hxm 10
  have g10 := free_block hxm 10
  have r11 : W2.cell? ⟨w.heap.size + 2, 11, none⟩ = some (.int .i64 0) := cell_block hxm 11
  have g11 := free_block hxm 11
  have s0 : W2.cell? ⟨w.heap.size + 1, 0, none⟩ = some (.slice none 0 0) := cell_block hxt 0
  have t0 := free_block hxt 0
  have s1 : W2.cell? ⟨w.heap.size + 1, 1, none⟩ = some (.slice none 0 0) := cell_block hxt 1
  have t1 := free_block hxt 1
  have s2 : W2.cell? ⟨w.heap.size + 1, 2, none⟩ = some (.int .i64 0) := cell_block hxt 2
  have t2 := free_block hxt 2
  have u0 : W2.cell? ⟨w.heap.size, 0, none⟩ = some (.slice a0 is.length c0) := cell_block hxw 0
  have u1 : W2.cell? ⟨w.heap.size, 1, none⟩ = some (.slice a1 vs.length c1) := cell_block hxw 1
  have u2 : W2.cell? ⟨w.heap.size, 2, none⟩ = some (.slice a2 bs.length c2) := cell_block hxw 2
  have u3 : W2.cell? ⟨w.heap.size, 3, none⟩ = some (.slice a3 ds.length c3) := cell_block hxw 3
  have HXW1 := Lib.hid hxw
  have HXT1 := Lib.hid hxt
  have HXM1 := Lib.hid hxm
  clear hxw hxt hxm hown hb1 HNW HXW hsz hs1 hW2 hbw2 hxg
  by_cases hz : nc = 0
  · subst hz
    have HIM := Lib.hid (imgM_ok HNC.out)
    have hbw := HB1.out.size
    have HWC := Lib.hid (wcheck_any a0 a1 a2 a3 c0 c1 c2 c3 is vs bs ds W2 (H0.out.to hbw (same_below HB1.out)) (H1.out.to hbw (same_below HB1.out)) (H2.out.to hbw (same_below HB1.out)) (H3.out.to hbw (same_below HB1.out)))
    obtain ⟨wc, hwc⟩ : ∃ wc, worldC is vs bs ds = wc := ⟨_, rfl⟩
    unfold WorldPost at HWC
    rw [hwc] at HWC
    have HWCE := Lib.hid hwc
    have HBGE := Lib.hid (And.intro hgb hbw)
    clear hwc hgb hbw r0 r1 r2 r3 r4 r5 r6 r7 r8 r9 r10 r11 g0 g1 g2 g3 g4 g5 g6 g7 g8 g9 g10 g11 s0 s1 s2 t0 t1 t2
    go_wp2_with fail
    refine HWC.out.mono ?_
    rintro e w3 ⟨rfl, hb3⟩
    have hs3 := hb3.size
    have hxw := block_below hb3 HXW1.out lw3
    have hxt := block_below hb3 HXT1.out lw2
    have hxm := block_below hb3 HXM1.out lw1
    have hxg := block_below hb3 HXG.out (Array.getElem?_eq_some_iff.1 HXG.out).1
    have HB3 := Lib.hid (HB1.out.trans (hb3.mono HB1.out.size))
    have HBG3 := Lib.hid ((HBG.out.trans (hb3.mono (by rw [← HBGE.out.1]; exact HBG.out.size))))
    have HXW3 := Lib.hid hxw
    have HXT3 := Lib.hid hxt
    have HXM3 := Lib.hid hxm
    have HXG3 := Lib.hid hxg
    have lv1 : w.heap.size + 2 < w3.heap.size := by omega
    have lv2 : w.heap.size + 1 < w3.heap.size := by omega
    have lv3 : w.heap.size < w3.heap.size := by omega
    clear lw1 lw2 lw3 u0 u1 u2 u3 hb3 hs3 HWC
    by_cases hwz : wc = 0
    · subst hwz
      by_cases hno : n < 0 ∨ 3000 < n
      · have HR := Lib.hid (show RecR img is vs bs ds n 2 [] 0 [] zeroM from Or.inr (Or.inr (Or.inl ⟨HNC.out, HWCE.out, hno, rfl, recE0⟩)))
        have r0 : w3.cell? ⟨w.heap.size + 2, 0, none⟩ = some (.slice none 0 0) := cell_block hxm 0
        have g0 := free_block hxm 0
        have r1 : w3.cell? ⟨w.heap.size + 2, 1, none⟩ = some (.int .i64 0) := cell_block hxm 1
        have g1 := free_block hxm 1
        have r2 : w3.cell? ⟨w.heap.size + 2, 2, none⟩ = some (.int .i64 0) := cell_block hxm 2
        have g2 := free_block hxm 2
        have r3 : w3.cell? ⟨w.heap.size + 2, 3, none⟩ = some (.bool false) := cell_block hxm 3
        have g3 := free_block hxm 3
        have r4 : w3.cell? ⟨w.heap.size + 2, 4, none⟩ = some (.bool false) := cell_block hxm 4
        have g4 := free_block hxm 4
        have r5 : w3.cell? ⟨w.heap.size + 2, 5, none⟩ = some (.int .i64 0) := cell_block hxm 5
        have g5 := free_block hxm 5
        have r6 : w3.cell? ⟨w.heap.size + 2, 6, none⟩ = some (.int .i64 0) := cell_block hxm 6
        have g6 := free_block hxm 6
        have r7 : w3.cell? ⟨w.heap.size + 2, 7, none⟩ = some (.int .i64 0) := cell_block hxm 7
        have g7 := free_block hxm 7
        have r8 : w3.cell? ⟨w.heap.size + 2, 8, none⟩ = some (.slice none 0 0) := cell_block hxm 8
        have g8 := free_block hxm 8
        have r9 : w3.cell? ⟨w.heap.size + 2, 9, none⟩ = some (.slice none 0 0) := cell_block hxm 9
        have g9 := free_block hxm 9
        have r10 : w3.cell? ⟨w.heap.size + 2, 10, none⟩ = some (.int .i64 0) := cell_block hxm 10
        have g10 := free_block hxm 10
        have r11 : w3.cell? ⟨w.heap.size + 2, 11, none⟩ = some (.int .i64 0) := cell_block hxm 11
        have g11 := free_block hxm 11
        have s0 : w3.cell? ⟨w.heap.size + 1, 0, none⟩ = some (.slice none 0 0) := cell_block hxt 0
        have t0 := free_block hxt 0
        have s1 : w3.cell? ⟨w.heap.size + 1, 1, none⟩ = some (.slice none 0 0) := cell_block hxt 1
        have t1 := free_block hxt 1
        have s2 : w3.cell? ⟨w.heap.size + 1, 2, none⟩ = some (.int .i64 0) := cell_block hxt 2
        have t2 := free_block hxt 2
        clear hxw hxt hxm hxg
        rcases (show n < 0 ∨ (¬ n < 0 ∧ 3000 < n) by omega) with h | ⟨h, h2⟩
        · clear hno
          go_wp2_with fail
          refine bodyPost_ret (v := .tuple #[.agg #[.slice none 0 0, .slice none 0 0, .int .i64 0], .agg #[.slice none 0 0, .int .i64 0, .int .i64 0, .bool false, .bool false, .int .i64 0, .int .i64 0, .int .i64 0, .slice none 0 0, .slice none 0 0, .int .i64 0, .int .i64 0], .int .i64 2]) (by simp [results, Tryd.results19, go_sem, r0, r1, r2, r3, r4, r5, r6, r7, r8, r9, r10, r11, s0, s1, s2]) rfl ?_
          refine RecPost.no HR.out ?_
          go_grown
          exact HB3.out
        · clear hno
          go_wp2_with fail
          refine bodyPost_ret (v := .tuple #[.agg #[.slice none 0 0, .slice none 0 0, .int .i64 0], .agg #[.slice none 0 0, .int .i64 0, .int .i64 0, .bool false, .bool false, .int .i64 0, .int .i64 0, .int .i64 0, .slice none 0 0, .slice none 0 0, .int .i64 0, .int .i64 0], .int .i64 2]) (by simp [results, Tryd.results19, go_sem, r0, r1, r2, r3, r4, r5, r6, r7, r8, r9, r10, r11, s0, s1, s2]) rfl ?_
          refine RecPost.no HR.out ?_
          go_grown
          exact HB3.out
      · have hn0 : 0 ≤ n := by omega
        have hn3 : n ≤ 3000 := by omega
        have hnn0 : ¬ n < 0 := by omega
        have hnn3 : ¬ 3000 < n := by omega
        have HN3 := Lib.hid (And.intro hn0 hn3)
        have HWD := Lib.hid (worldC_ok HWCE.out)
        have HB13 := Lib.hid (HBF.out.trans (HBG3.out.mono (by rw [← HBGE.out.1]; exact HBF.out.size)))
        have hgst := gst_start HIM.out.1 (mown_below (by have := HOWN.out; rw [HIM.out.2] at this; exact this) (by rw [HBGE.out.1]; exact HBG3.out)) HB13.out
        have hg38 := HXG3.out
        rw [HIM.out.2] at hg38 ⊢
        have h8 := HIM.out.1.regs
        have h256 := HIM.out.1.mem
        obtain ⟨gr, mb, rfl, rfl, hgst⟩ := hgst
        rw [h8, h256] at hg38 ⊢
        have p0 : w3.cell? ⟨gb, 0, none⟩ = some (.slice (some ⟨gr, 0, none⟩) 8 cr) := cell_block hg38 0
        have p1 : w3.cell? ⟨gb, 1, none⟩ = some (.int .i64 (imageM img).pc) := cell_block hg38 1
        have p2 : w3.cell? ⟨gb, 2, none⟩ = some (.int .i64 (imageM img).back) := cell_block hg38 2
        have p3 : w3.cell? ⟨gb, 3, none⟩ = some (.bool (imageM img).ints) := cell_block hg38 3
        have p4 : w3.cell? ⟨gb, 4, none⟩ = some (.bool (imageM img).wait) := cell_block hg38 4
        have p5 : w3.cell? ⟨gb, 5, none⟩ = some (.int .i64 (imageM img).table) := cell_block hg38 5
        have p6 : w3.cell? ⟨gb, 6, none⟩ = some (.int .i64 (imageM img).count) := cell_block hg38 6
        have p7 : w3.cell? ⟨gb, 7, none⟩ = some (.int .i64 (imageM img).fin) := cell_block hg38 7
        have p8 : w3.cell? ⟨gb, 8, none⟩ = some (.slice (some ⟨mb, 0, none⟩) 256 cm) := cell_block hg38 8
        have p9 : w3.cell? ⟨gb, 9, none⟩ = some (.slice ao (imageM img).out.length co) := cell_block hg38 9
        have p10 : w3.cell? ⟨gb, 10, none⟩ = some (.int .i64 (imageM img).ready) := cell_block hg38 10
        have p11 : w3.cell? ⟨gb, 11, none⟩ = some (.int .i64 (imageM img).want) := cell_block hg38 11
        have lgb : gb < w3.heap.size := (Array.getElem?_eq_some_iff.1 hg38).1
        have u0 : w3.cell? ⟨w.heap.size, 0, none⟩ = some (.slice a0 is.length c0) := cell_block hxw 0
        have u1 : w3.cell? ⟨w.heap.size, 1, none⟩ = some (.slice a1 vs.length c1) := cell_block hxw 1
        have u2 : w3.cell? ⟨w.heap.size, 2, none⟩ = some (.slice a2 bs.length c2) := cell_block hxw 2
        have u3 : w3.cell? ⟨w.heap.size, 3, none⟩ = some (.slice a3 ds.length c3) := cell_block hxw 3
        have HG4 := Lib.hid hgst
        clear hno h8 h256 hg38 hgst hxt hxm hxg hxw
        go_upto_region 10 with fail
        obtain ⟨W4, hW4⟩ : ∃ W4, W4 = w3.alloc (.cells #[.slice (some ⟨gr, 0, none⟩) 8 cr, .int .i64 (imageM img).pc, .int .i64 (imageM img).back, .bool (imageM img).ints, .bool (imageM img).wait, .int .i64 (imageM img).table, .int .i64 (imageM img).count, .int .i64 (imageM img).fin, .slice (some ⟨mb, 0, none⟩) 256 cm, .slice ao (imageM img).out.length co, .int .i64 (imageM img).ready, .int .i64 (imageM img).want, .int .i64 0] 84 (0, 0)) := ⟨_, rfl⟩
        rw [← hW4] at HG4 ⊢
        have c8 : W4.cell? ⟨w3.heap.size, 8, none⟩ = some (.slice (some ⟨mb, 0, none⟩) 256 cm) := cell_block HG4.out.box 8
        have hs4 : W4.heap.size = w3.heap.size + 1 := by rw [hW4]; simp
        have hx4 : ∀ {g : Nat} {o : Obj}, w3.heap[g]? = some o → W4.heap[g]? = some o := fun h => by rw [hW4]; exact (alloc_lt (Array.getElem?_eq_some_iff.1 h).1).trans h
        have hxw4 := hx4 HXW3.out
        clear p0 p1 p2 p3 p4 p5 p6 p7 p8 p9 p10 p11 u0 u1 u2 u3 lgb
        generalize hcb : w3.heap.size = cb at *
        have u0 : W4.cell? ⟨w.heap.size, 0, none⟩ = some (.slice a0 is.length c0) := cell_block hxw4 0
        have u1 : W4.cell? ⟨w.heap.size, 1, none⟩ = some (.slice a1 vs.length c1) := cell_block hxw4 1
        have u2 : W4.cell? ⟨w.heap.size, 2, none⟩ = some (.slice a2 bs.length c2) := cell_block hxw4 2
        have u3 : W4.cell? ⟨w.heap.size, 3, none⟩ = some (.slice a3 ds.length c3) := cell_block hxw4 3
        have HSTART := rcs_start (b := bs.getD 0 zero16) HIM.out.1 HG4.out (H0.out.to HBA.out.size (same_below HBA.out)) (H1.out.to HBA.out.size (same_below HBA.out)) (H2.out.to HBA.out.size (same_below HBA.out)) (H3.out.to HBA.out.size (same_below HBA.out))
        obtain ⟨C0, hst⟩ := HSTART
        have HSTART := Lib.hid hst
        have lcb : cb < W4.heap.size := by omega
        have lww : w.heap.size < W4.heap.size := by omega
        clear hst hx4 hxw4 hW4 hcb
        go_upto_region 12 with fail
        generalize World.alloc W4 _ = wz at *
        rw [hs4] at HSTART
        generalize cb + 1 = ob at *
        clear c8 u0 u1 u2 u3 lcb lww hs4 HG4 lv1 lv2 lv3 hnn0 hnn3 lw4 hn1 hn2
        go_upto_block 0 with fail

        refine rc_loop HBA HXM HXT (Lib.hid (And.intro HNC.out HWCE.out)) HN3 HWD HIM HSTART hn0 hn3 ?_
        intros
        rename_i s15 s16 s17 s19 s20 s21 s22 s23 wx hcut
        obtain ⟨s, ps, aa, ca, ak, nk, ck, C, rfl, HR8, HP, HOK, HRL⟩ := hcut
        have hob := HR8.out.low.2
        have HBX := Lib.hid (HBA.out.trans (hob.below (B := w.heap.size) (fun g hg => hg.elim) HBA.out.size))
        have hxm := hob.at HXM.out (fun q => q)
        have hxt := hob.at HXT.out (fun q => q)
        have HXM8 := Lib.hid hxm
        have HXT8 := Lib.hid hxt
        have hpl : ps.length ≤ 1000 := by have := congrArg List.length HP.out; rw [List.length_map] at this; rw [this]; exact HOK.out.len
        obtain ⟨d, hd⟩ := evres_ex s.all
        have hev : EvsR wx.heap.size wx (.slice aa ps.length ca) s.all := by rw [← HP.out]; exact HR8.out.q.all.evs (by omega)
        have lx1 : w.heap.size + 2 < wx.heap.size := (Array.getElem?_eq_some_iff.1 hxm).1
        clear hob hxm hxt HSTART
        by_cases hd0 : d = 0
        · subst hd0
          have HEN := Lib.hid (encode_good _ s.all wx hev (HT.out.to HBX.out) hd)
          have HR := Lib.hid (show RecR img is vs bs ds n 0 (encE s.all) s.m.count img s.m from Or.inr (Or.inr (Or.inr ⟨HNC.out, HWCE.out, HN3.out.1, HN3.out.2, Or.inr ⟨by rw [HRL.out], 0, by rw [HRL.out]; exact hd, Or.inr ⟨rfl, rfl, by rw [HRL.out], by rw [HRL.out], rfl, by rw [HRL.out]⟩⟩⟩)))
          have HLE := Lib.hid (show (encE s.all).length ≤ 100000000 from by have hp := payE_le hd.ok.1 hd.ok.2; unfold encE; rw [List.length_append, show (sumB (payE s.all)).length = 4 from rfl]; omega)
          clear hev hd
          go_upto_region 37 with (go_at_call 46; refine HEN.out.mono ?_; rintro e w13 ⟨ab, cb2, rfl, hob, hb13⟩; have HOB := Lib.hid hob; have HB13 := Lib.hid hb13; clear hob hb13)
          obtain ⟨wro, ao, co, hcx, hsv⟩ := (HR8.out.below HB13.out).fin HBA.out (g := w.heap.size + 2) ⟨_, block_below HB13.out HXM8.out lx1⟩
          have hok := HR8.out.ok
          have hxm := block_below HB13.out HXM8.out lx1
          have hxt := block_below HB13.out HXT8.out (by omega)
          refine rc_r37 (Lib.hid hcx) (Lib.hid hxm) (Lib.hid hxt) (Lib.hid hsv) (Lib.hid (own_base HOB.out HBX.out.size)) HI ?_
          intros
          rename_i s8 wy hcut
          obtain ⟨rfl, ai2, ci2, HM2, HT2, HFS⟩ := hcut
          clear hcx hsv hxm hxt HEN lx1
          have r0 : wy.cell? ⟨w.heap.size + 2, 0, none⟩ = some (.slice (some ⟨gr, 0, none⟩) 8 cr) := cell_block HM2.out 0
          have r1 : wy.cell? ⟨w.heap.size + 2, 1, none⟩ = some (.int .i64 s.m.pc) := cell_block HM2.out 1
          have r2 : wy.cell? ⟨w.heap.size + 2, 2, none⟩ = some (.int .i64 s.m.back) := cell_block HM2.out 2
          have r3 : wy.cell? ⟨w.heap.size + 2, 3, none⟩ = some (.bool s.m.ints) := cell_block HM2.out 3
          have r4 : wy.cell? ⟨w.heap.size + 2, 4, none⟩ = some (.bool s.m.wait) := cell_block HM2.out 4
          have r5 : wy.cell? ⟨w.heap.size + 2, 5, none⟩ = some (.int .i64 s.m.table) := cell_block HM2.out 5
          have r6 : wy.cell? ⟨w.heap.size + 2, 6, none⟩ = some (.int .i64 s.m.count) := cell_block HM2.out 6
          have r7 : wy.cell? ⟨w.heap.size + 2, 7, none⟩ = some (.int .i64 s.m.fin) := cell_block HM2.out 7
          have r8 : wy.cell? ⟨w.heap.size + 2, 8, none⟩ = some (.slice (some ⟨mb, 0, none⟩) 256 cm) := cell_block HM2.out 8
          have r9 : wy.cell? ⟨w.heap.size + 2, 9, none⟩ = some (.slice ao s.m.out.length co) := cell_block HM2.out 9
          have r10 : wy.cell? ⟨w.heap.size + 2, 10, none⟩ = some (.int .i64 s.m.ready) := cell_block HM2.out 10
          have r11 : wy.cell? ⟨w.heap.size + 2, 11, none⟩ = some (.int .i64 s.m.want) := cell_block HM2.out 11
          have s0 : wy.cell? ⟨w.heap.size + 1, 0, none⟩ = some (.slice ai2 img.length ci2) := cell_block HT2.out 0
          have s1 : wy.cell? ⟨w.heap.size + 1, 1, none⟩ = some (.slice ab (encE s.all).length cb2) := cell_block HT2.out 1
          have s2 : wy.cell? ⟨w.heap.size + 1, 2, none⟩ = some (.int .i64 s.m.count) := cell_block HT2.out 2
          go_wp2_with fail
          refine bodyPost_ret (v := .tuple #[.agg #[.slice ai2 img.length ci2, .slice ab (encE s.all).length cb2, .int .i64 s.m.count], .agg #[.slice (some ⟨gr, 0, none⟩) 8 cr, .int .i64 s.m.pc, .int .i64 s.m.back, .bool s.m.ints, .bool s.m.wait, .int .i64 s.m.table, .int .i64 s.m.count, .int .i64 s.m.fin, .slice (some ⟨mb, 0, none⟩) 256 cm, .slice ao s.m.out.length co, .int .i64 s.m.ready, .int .i64 s.m.want], .int .i64 0]) (by simp [results, Tryd.results19, go_sem, r0, r1, r2, r3, r4, r5, r6, r7, r8, r9, r10, r11, s0, s1, s2]) rfl ?_
          exact ⟨0, encE s.all, s.m.count, img, s.m, _, _, some ⟨gr, 0, none⟩, cr, some ⟨mb, 0, none⟩, cm, ao, co, HR.out, by rw [hok.regs, hok.mem]; rfl, HFS.out.ra, HFS.out.rb, ⟨HI.out.i64, HI.out.len, HLE.out⟩, by rw [hok.regs, hok.mem]; exact HFS.out.own, HFS.out.below⟩
        · have HEN := Lib.hid (encode_bad _ s.all wx hev (HT.out.to HBX.out) d hd hd0)
          have HR := Lib.hid (show RecR img is vs bs ds n d [] 0 [] zeroM from Or.inr (Or.inr (Or.inr ⟨HNC.out, HWCE.out, HN3.out.1, HN3.out.2, Or.inr ⟨by rw [HRL.out], d, by rw [HRL.out]; exact hd, Or.inl ⟨hd0, rfl, recE0⟩⟩⟩)))
          have hd1 : (d != 0) = true := by rw [bne_iff_ne]; exact hd0
          clear hev hd hd0
          go_wp2_with fail
          refine HEN.out.mono ?_
          rintro e w13 ⟨rfl, hb13⟩
          have hxm := block_below hb13 HXM8.out lx1
          have hxt := block_below hb13 HXT8.out (by omega)
          have HB13 := Lib.hid (HBX.out.trans (hb13.mono HBX.out.size))
          have ly1 : w.heap.size + 2 < w13.heap.size := (Array.getElem?_eq_some_iff.1 hxm).1
          have ly2 : w.heap.size + 1 < w13.heap.size := by omega
          have r0 : w13.cell? ⟨w.heap.size + 2, 0, none⟩ = some (.slice none 0 0) := cell_block hxm 0
          have g0 := free_block hxm 0
          have r1 : w13.cell? ⟨w.heap.size + 2, 1, none⟩ = some (.int .i64 0) := cell_block hxm 1
          have g1 := free_block hxm 1
          have r2 : w13.cell? ⟨w.heap.size + 2, 2, none⟩ = some (.int .i64 0) := cell_block hxm 2
          have g2 := free_block hxm 2
          have r3 : w13.cell? ⟨w.heap.size + 2, 3, none⟩ = some (.bool false) := cell_block hxm 3
          have g3 := free_block hxm 3
          have r4 : w13.cell? ⟨w.heap.size + 2, 4, none⟩ = some (.bool false) := cell_block hxm 4
          have g4 := free_block hxm 4
          have r5 : w13.cell? ⟨w.heap.size + 2, 5, none⟩ = some (.int .i64 0) := cell_block hxm 5
          have g5 := free_block hxm 5
          have r6 : w13.cell? ⟨w.heap.size + 2, 6, none⟩ = some (.int .i64 0) := cell_block hxm 6
          have g6 := free_block hxm 6
          have r7 : w13.cell? ⟨w.heap.size + 2, 7, none⟩ = some (.int .i64 0) := cell_block hxm 7
          have g7 := free_block hxm 7
          have r8 : w13.cell? ⟨w.heap.size + 2, 8, none⟩ = some (.slice none 0 0) := cell_block hxm 8
          have g8 := free_block hxm 8
          have r9 : w13.cell? ⟨w.heap.size + 2, 9, none⟩ = some (.slice none 0 0) := cell_block hxm 9
          have g9 := free_block hxm 9
          have r10 : w13.cell? ⟨w.heap.size + 2, 10, none⟩ = some (.int .i64 0) := cell_block hxm 10
          have g10 := free_block hxm 10
          have r11 : w13.cell? ⟨w.heap.size + 2, 11, none⟩ = some (.int .i64 0) := cell_block hxm 11
          have g11 := free_block hxm 11
          have s0 : w13.cell? ⟨w.heap.size + 1, 0, none⟩ = some (.slice none 0 0) := cell_block hxt 0
          have t0 := free_block hxt 0
          have s1 : w13.cell? ⟨w.heap.size + 1, 1, none⟩ = some (.slice none 0 0) := cell_block hxt 1
          have t1 := free_block hxt 1
          have s2 : w13.cell? ⟨w.heap.size + 1, 2, none⟩ = some (.int .i64 0) := cell_block hxt 2
          have t2 := free_block hxt 2
          clear hxm hxt hb13 HEN lx1
          go_wp2_with fail
          refine bodyPost_ret (v := .tuple #[.agg #[.slice none 0 0, .slice none 0 0, .int .i64 0], .agg #[.slice none 0 0, .int .i64 0, .int .i64 0, .bool false, .bool false, .int .i64 0, .int .i64 0, .int .i64 0, .slice none 0 0, .slice none 0 0, .int .i64 0, .int .i64 0], .int .i64 d]) (by simp [results, Tryd.results19, go_sem, r0, r1, r2, r3, r4, r5, r6, r7, r8, r9, r10, r11, s0, s1, s2]) rfl ?_
          refine RecPost.no HR.out ?_
          go_grown
          exact HB13.out
    · have HR := Lib.hid (show RecR img is vs bs ds n wc [] 0 [] zeroM from Or.inr (Or.inl ⟨HNC.out, by rw [HWCE.out]; exact hwz, HWCE.out.symm, recE0⟩))
      have r0 : w3.cell? ⟨w.heap.size + 2, 0, none⟩ = some (.slice none 0 0) := cell_block hxm 0
      have g0 := free_block hxm 0
      have r1 : w3.cell? ⟨w.heap.size + 2, 1, none⟩ = some (.int .i64 0) := cell_block hxm 1
      have g1 := free_block hxm 1
      have r2 : w3.cell? ⟨w.heap.size + 2, 2, none⟩ = some (.int .i64 0) := cell_block hxm 2
      have g2 := free_block hxm 2
      have r3 : w3.cell? ⟨w.heap.size + 2, 3, none⟩ = some (.bool false) := cell_block hxm 3
      have g3 := free_block hxm 3
      have r4 : w3.cell? ⟨w.heap.size + 2, 4, none⟩ = some (.bool false) := cell_block hxm 4
      have g4 := free_block hxm 4
      have r5 : w3.cell? ⟨w.heap.size + 2, 5, none⟩ = some (.int .i64 0) := cell_block hxm 5
      have g5 := free_block hxm 5
      have r6 : w3.cell? ⟨w.heap.size + 2, 6, none⟩ = some (.int .i64 0) := cell_block hxm 6
      have g6 := free_block hxm 6
      have r7 : w3.cell? ⟨w.heap.size + 2, 7, none⟩ = some (.int .i64 0) := cell_block hxm 7
      have g7 := free_block hxm 7
      have r8 : w3.cell? ⟨w.heap.size + 2, 8, none⟩ = some (.slice none 0 0) := cell_block hxm 8
      have g8 := free_block hxm 8
      have r9 : w3.cell? ⟨w.heap.size + 2, 9, none⟩ = some (.slice none 0 0) := cell_block hxm 9
      have g9 := free_block hxm 9
      have r10 : w3.cell? ⟨w.heap.size + 2, 10, none⟩ = some (.int .i64 0) := cell_block hxm 10
      have g10 := free_block hxm 10
      have r11 : w3.cell? ⟨w.heap.size + 2, 11, none⟩ = some (.int .i64 0) := cell_block hxm 11
      have g11 := free_block hxm 11
      have s0 : w3.cell? ⟨w.heap.size + 1, 0, none⟩ = some (.slice none 0 0) := cell_block hxt 0
      have t0 := free_block hxt 0
      have s1 : w3.cell? ⟨w.heap.size + 1, 1, none⟩ = some (.slice none 0 0) := cell_block hxt 1
      have t1 := free_block hxt 1
      have s2 : w3.cell? ⟨w.heap.size + 1, 2, none⟩ = some (.int .i64 0) := cell_block hxt 2
      have t2 := free_block hxt 2
      clear hxw hxt hxm hxg
      have hd1 : (wc != 0) = true := by rw [bne_iff_ne]; exact hwz
      clear hwz
      go_wp2_with fail
      refine bodyPost_ret (v := .tuple #[.agg #[.slice none 0 0, .slice none 0 0, .int .i64 0], .agg #[.slice none 0 0, .int .i64 0, .int .i64 0, .bool false, .bool false, .int .i64 0, .int .i64 0, .int .i64 0, .slice none 0 0, .slice none 0 0, .int .i64 0, .int .i64 0], .int .i64 wc]) (by simp [results, Tryd.results19, go_sem, r0, r1, r2, r3, r4, r5, r6, r7, r8, r9, r10, r11, s0, s1, s2]) rfl ?_
      refine RecPost.no HR.out ?_
      go_grown
      exact HB3.out
  · have HR := Lib.hid (show RecR img is vs bs ds n nc [] 0 [] zeroM from Or.inl ⟨by rw [HNC.out]; exact hz, HNC.out.symm, recE0⟩)
    have hd1 : (nc != 0) = true := by rw [bne_iff_ne]; exact hz
    clear hz
    go_wp2_with fail
    refine bodyPost_ret (v := .tuple #[.agg #[.slice none 0 0, .slice none 0 0, .int .i64 0], .agg #[.slice none 0 0, .int .i64 0, .int .i64 0, .bool false, .bool false, .int .i64 0, .int .i64 0, .int .i64 0, .slice none 0 0, .slice none 0 0, .int .i64 0, .int .i64 0], .int .i64 nc]) (by simp [results, Tryd.results19, go_sem, r0, r1, r2, r3, r4, r5, r6, r7, r8, r9, r10, r11, s0, s1, s2]) rfl ?_
    refine RecPost.no HR.out ?_
    go_grown
    exact HB1.out
end Go.Proofs.YtilcnlmapifdgaaDoor
