/- The document's RecordedOf. No condition beyond the readings. -/
import Derived.Test.YtenicnneppgfmaaDoorYQk
import Derived.Test.YtenicnneppgfmaaDoorYQl
import Derived.Test.YtenicnneppgfmaaDoorYNu
import Derived.Handy
import Derived.StillTailTactics
import Derived.Deep.RegionWith
import Derived.Deep.RegionLaw
import Derived.Deep.CutBlock
import Derived.Deep.CutRange
import Derived.Deep.RegionHeld3
import Derived.Deep.LoopGhost
namespace Go.Proofs.YtenicnneppgfmaaDoor
open Go Go.RowKit Go.ChangeShapes Go.WideShapes Go.Deep
set_option linter.unusedVariables false
attribute [local go_sem ↓] Go.wp_at_zero Go.wp_at_succ

set_option maxHeartbeats 16000000 in
set_option maxRecDepth 100000 in
theorem recorded_any (ai : Option Addr) (ci : Nat) (a0 a1 a2 a3 : Option Addr) (c0 c1 c2 c3 : Nat) (img is vs : List Int) (bs : List (List Int)) (ds : List Int) (n : Int) (w : World) (hi : Ints w.heap.size w (.slice ai img.length ci) img) (h0 : Ints w.heap.size w (.slice a0 is.length c0) is) (h1 : Ints w.heap.size w (.slice a1 vs.length c1) vs) (h2 : RowsR w.heap.size w (.slice a2 bs.length c2) bs) (h3 : Ints w.heap.size w (.slice a3 ds.length c3) ds) (hn : I64 n) : Calls Tryd.prog 13 #[.slice ai img.length ci, .agg #[.slice a0 is.length c0, .slice a1 vs.length c1, .slice a2 bs.length c2, .slice a3 ds.length c3], .int .i64 n] w (RecPost img is vs bs ds n w) := by
  have HI := Lib.hid hi
  have H0 := Lib.hid h0
  have H1 := Lib.hid h1
  have H2 := Lib.hid h2
  have H3 := Lib.hid h3
  obtain ⟨hn1, hn2⟩ := hn
  clear hi h0 h1 h2 h3
  obtain ⟨W1, hW1⟩ : ∃ W1, W1 = (((w.alloc (.cells #[.slice a0 is.length c0, .slice a1 vs.length c1, .slice a2 bs.length c2, .slice a3 ds.length c3] 25 (0, 0))).alloc (.cells #[.slice none 0 0, .slice none 0 0, .int .i64 0] 28 (0, 0))).alloc (.cells #[.slice none 0 0, .int .i64 0, .int .i64 0, .bool false, .bool false, .int .i64 0, .int .i64 0, .int .i64 0, .slice none 0 0, .slice none 0 0, .int .i64 0, .int .i64 0] 30 (0, 0))) := ⟨_, rfl⟩
  have HBA := Lib.hid (show Below w.heap.size w W1 from by rw [hW1]; exact (below_alloc2 w _ _).alloc (by simp; omega) _)
  have hsz : W1.heap.size = w.heap.size + 3 := by rw [hW1]; simp
  have hxw : W1.heap[w.heap.size]? = some (.cells #[.slice a0 is.length c0, .slice a1 vs.length c1, .slice a2 bs.length c2, .slice a3 ds.length c3] 25 (0, 0)) := by rw [hW1]; exact (alloc_lt (by simp; omega)).trans ((alloc_lt (by simp)).trans (alloc_at rfl))
  have hxt : W1.heap[w.heap.size + 1]? = some (.cells #[.slice none 0 0, .slice none 0 0, .int .i64 0] 28 (0, 0)) := by rw [hW1]; exact (alloc_lt (by simp)).trans (alloc_at (by simp))
  have hxm : W1.heap[w.heap.size + 2]? = some (.cells #[.slice none 0 0, .int .i64 0, .int .i64 0, .bool false, .bool false, .int .i64 0, .int .i64 0, .int .i64 0, .slice none 0 0, .slice none 0 0, .int .i64 0, .int .i64 0] 30 (0, 0)) := by rw [hW1]; exact alloc_at (by simp)
  have HXW := Lib.hid hxw
  have HW1S := Lib.hid hsz
  have HXT := Lib.hid hxt
  have HXM := Lib.hid hxm
  have HNW := Lib.hid (guestnew_all (.slice ai img.length ci) img W1 (HI.out.to HBA.out.size (same_below HBA.out)))
  go_enter Tryd.func13, Tryd.ntmps13
  go_upto_region 1 with fail
  rw [← hW1]
  clear hW1 hxw hxt hxm
  obtain ⟨nc, hnc⟩ : ∃ nc, newC img = nc := ⟨_, rfl⟩
  rw [hnc] at HNW
  have HNC := Lib.hid hnc
  clear hnc
  go_wp2_with fail
  refine HNW.out.mono ?_
  rintro e w1 ⟨ar, cr, am, cm, ao, co, rfl, hown, hb1⟩
  rw [Mach.agg]
  have hs1 := hb1.size
  have HBF := Lib.hid hb1
  have HOWN := Lib.hid hown
  go_upto_region 2 with fail
  obtain ⟨W2, hW2⟩ : ∃ W2, W2 = w1.alloc (.cells #[.slice ar (newM img).regs.length cr, .int .i64 (newM img).pc, .int .i64 (newM img).back, .bool (newM img).ints, .bool (newM img).wait, .int .i64 (newM img).table, .int .i64 (newM img).count, .int .i64 (newM img).fin, .slice am (newM img).mem.length cm, .slice ao (newM img).out.length co, .int .i64 (newM img).ready, .int .i64 (newM img).want] 30 (0, 0)) := ⟨_, rfl⟩
  have hbw2 : Below w1.heap.size w1 W2 := by rw [hW2]; exact below_alloc _ _
  have hxg : W2.heap[w1.heap.size]? = some (.cells #[.slice ar (newM img).regs.length cr, .int .i64 (newM img).pc, .int .i64 (newM img).back, .bool (newM img).ints, .bool (newM img).wait, .int .i64 (newM img).table, .int .i64 (newM img).count, .int .i64 (newM img).fin, .slice am (newM img).mem.length cm, .slice ao (newM img).out.length co, .int .i64 (newM img).ready, .int .i64 (newM img).want] 30 (0, 0)) := by rw [hW2]; exact alloc_at rfl
  rw [← hW2]
  have hxw := block_below hbw2 (block_below hb1 HXW.out (by omega)) (by omega)
  have hxt := block_below hbw2 (block_below hb1 HXT.out (by omega)) (by omega)
  have hxm := block_below hbw2 (block_below hb1 HXM.out (by omega)) (by omega)
  have HB1 := Lib.hid (HBA.out.trans ((hb1.trans (hbw2.mono hs1)).mono HBA.out.size))
  have HBG := Lib.hid hbw2
  have HXG := Lib.hid hxg
  have lw1 : w.heap.size + 2 < W2.heap.size := (Array.getElem?_eq_some_iff.1 hxm).1
  have lw2 : w.heap.size + 1 < W2.heap.size := by omega
  have lw3 : w.heap.size < W2.heap.size := by omega
  have lw4 : w.heap.size + 2 < w1.heap.size := by omega
  generalize hgb : w1.heap.size = gb at *
  have r0 : W2.cell? ⟨w.heap.size + 2, 0, none⟩ = some (.slice none 0 0) := cell_block hxm 0
  have g0 := free_block hxm 0
  have r1 : W2.cell? ⟨w.heap.size + 2, 1, none⟩ = some (.int .i64 0) := cell_block hxm 1
  have g1 := free_block hxm 1
  have r2 : W2.cell? ⟨w.heap.size + 2, 2, none⟩ = some (.int .i64 0) := cell_block hxm 2
  have g2 := free_block hxm 2
  have r3 : W2.cell? ⟨w.heap.size + 2, 3, none⟩ = some (.bool false) := cell_block hxm 3
  have g3 := free_block hxm 3
  have r4 : W2.cell? ⟨w.heap.size + 2, 4, none⟩ = some (.bool false) := cell_block hxm 4
  have g4 := free_block hxm 4
  have r5 : W2.cell? ⟨w.heap.size + 2, 5, none⟩ = some (.int .i64 0) := cell_block hxm 5
  have g5 := free_block hxm 5
  have r6 : W2.cell? ⟨w.heap.size + 2, 6, none⟩ = some (.int .i64 0) := cell_block hxm 6
  have g6 := free_block hxm 6
  have r7 : W2.cell? ⟨w.heap.size + 2, 7, none⟩ = some (.int .i64 0) := cell_block hxm 7
  have g7 := free_block hxm 7
  have r8 : W2.cell? ⟨w.heap.size + 2, 8, none⟩ = some (.slice none 0 0) := cell_block hxm 8
  have g8 := free_block hxm 8
  have r9 : W2.cell? ⟨w.heap.size + 2, 9, none⟩ = some (.slice none 0 0) := cell_block hxm 9
  have g9 := free_block hxm 9
  have r10 : W2.cell? ⟨w.heap.size + 2, 10, none⟩ = some (.int .i64 0) := cell_block hxm 10
  have g10 := free_block hxm 10
  have r11 : W2.cell? ⟨w.heap.size + 2, 11, none⟩ = some (.int .i64 0) := cell_block hxm 11
  have g11 := free_block hxm 11
  have s0 : W2.cell? ⟨w.heap.size + 1, 0, none⟩ = some (.slice none 0 0) := cell_block hxt 0
  have t0 := free_block hxt 0
  have s1 : W2.cell? ⟨w.heap.size + 1, 1, none⟩ = some (.slice none 0 0) := cell_block hxt 1
  have t1 := free_block hxt 1
  have s2 : W2.cell? ⟨w.heap.size + 1, 2, none⟩ = some (.int .i64 0) := cell_block hxt 2
  have t2 := free_block hxt 2
  have u0 : W2.cell? ⟨w.heap.size, 0, none⟩ = some (.slice a0 is.length c0) := cell_block hxw 0
  have u1 : W2.cell? ⟨w.heap.size, 1, none⟩ = some (.slice a1 vs.length c1) := cell_block hxw 1
  have u2 : W2.cell? ⟨w.heap.size, 2, none⟩ = some (.slice a2 bs.length c2) := cell_block hxw 2
  have u3 : W2.cell? ⟨w.heap.size, 3, none⟩ = some (.slice a3 ds.length c3) := cell_block hxw 3
  have HXW1 := Lib.hid hxw
  have HXT1 := Lib.hid hxt
  have HXM1 := Lib.hid hxm
  clear hxw hxt hxm hown hb1 HNW hsz hs1 hW2 hbw2 hxg
  by_cases hz : nc = 0
  · subst hz
    have HIM := Lib.hid (imgM_ok HNC.out)
    have hbw := HB1.out.size
    have HWC := Lib.hid (wfault_any a0 a1 a2 a3 c0 c1 c2 c3 is vs bs ds W2 (H0.out.to hbw (same_below HB1.out)) (H1.out.to hbw (same_below HB1.out)) (H2.out.to hbw (same_below HB1.out)) (H3.out.to hbw (same_below HB1.out)))
    obtain ⟨wc, hwc⟩ : ∃ wc, worldC is vs bs ds = wc := ⟨_, rfl⟩
    unfold WorldPost at HWC
    rw [hwc] at HWC
    have HWCE := Lib.hid hwc
    have HBGE := Lib.hid (And.intro hgb hbw)
    clear hwc hgb hbw r0 r1 r2 r3 r4 r5 r6 r7 r8 r9 r10 r11 g0 g1 g2 g3 g4 g5 g6 g7 g8 g9 g10 g11 s0 s1 s2 t0 t1 t2
    go_wp2_with fail
    refine HWC.out.mono ?_
    rintro e w3 ⟨rfl, hb3⟩
    have hs3 := hb3.size
    have hxw := block_below hb3 HXW1.out lw3
    have hxt := block_below hb3 HXT1.out lw2
    have hxm := block_below hb3 HXM1.out lw1
    have hxg := block_below hb3 HXG.out (Array.getElem?_eq_some_iff.1 HXG.out).1
    have HB3 := Lib.hid (HB1.out.trans (hb3.mono HB1.out.size))
    have HBG3 := Lib.hid ((HBG.out.trans (hb3.mono (by rw [← HBGE.out.1]; exact HBG.out.size))))
    have HXW3 := Lib.hid hxw
    have HXT3 := Lib.hid hxt
    have HXM3 := Lib.hid hxm
    have HXG3 := Lib.hid hxg
    have lv1 : w.heap.size + 2 < w3.heap.size := by omega
    have lv2 : w.heap.size + 1 < w3.heap.size := by omega
    have lv3 : w.heap.size < w3.heap.size := by omega
    clear lw1 lw2 lw3 u0 u1 u2 u3 hb3 hs3 HWC
    by_cases hwz : wc = 0
    · subst hwz
      by_cases hno : ¬ (0 ≤ n ∧ n ≤ 3000)
      · have HR := Lib.hid (show RecR img is vs bs ds n 2 [] 0 [] zeroM from Or.inr (Or.inr (Or.inl ⟨HNC.out, HWCE.out, by omega, rfl, recE0⟩)))
        have HIN := Lib.hid (fun W => in_no n 0 3000 W hno)
        have r0 : w3.cell? ⟨w.heap.size + 2, 0, none⟩ = some (.slice none 0 0) := cell_block hxm 0
        have g0 := free_block hxm 0
        have r1 : w3.cell? ⟨w.heap.size + 2, 1, none⟩ = some (.int .i64 0) := cell_block hxm 1
        have g1 := free_block hxm 1
        have r2 : w3.cell? ⟨w.heap.size + 2, 2, none⟩ = some (.int .i64 0) := cell_block hxm 2
        have g2 := free_block hxm 2
        have r3 : w3.cell? ⟨w.heap.size + 2, 3, none⟩ = some (.bool false) := cell_block hxm 3
        have g3 := free_block hxm 3
        have r4 : w3.cell? ⟨w.heap.size + 2, 4, none⟩ = some (.bool false) := cell_block hxm 4
        have g4 := free_block hxm 4
        have r5 : w3.cell? ⟨w.heap.size + 2, 5, none⟩ = some (.int .i64 0) := cell_block hxm 5
        have g5 := free_block hxm 5
        have r6 : w3.cell? ⟨w.heap.size + 2, 6, none⟩ = some (.int .i64 0) := cell_block hxm 6
        have g6 := free_block hxm 6
        have r7 : w3.cell? ⟨w.heap.size + 2, 7, none⟩ = some (.int .i64 0) := cell_block hxm 7
        have g7 := free_block hxm 7
        have r8 : w3.cell? ⟨w.heap.size + 2, 8, none⟩ = some (.slice none 0 0) := cell_block hxm 8
        have g8 := free_block hxm 8
        have r9 : w3.cell? ⟨w.heap.size + 2, 9, none⟩ = some (.slice none 0 0) := cell_block hxm 9
        have g9 := free_block hxm 9
        have r10 : w3.cell? ⟨w.heap.size + 2, 10, none⟩ = some (.int .i64 0) := cell_block hxm 10
        have g10 := free_block hxm 10
        have r11 : w3.cell? ⟨w.heap.size + 2, 11, none⟩ = some (.int .i64 0) := cell_block hxm 11
        have g11 := free_block hxm 11
        have s0 : w3.cell? ⟨w.heap.size + 1, 0, none⟩ = some (.slice none 0 0) := cell_block hxt 0
        have t0 := free_block hxt 0
        have s1 : w3.cell? ⟨w.heap.size + 1, 1, none⟩ = some (.slice none 0 0) := cell_block hxt 1
        have t1 := free_block hxt 1
        have s2 : w3.cell? ⟨w.heap.size + 1, 2, none⟩ = some (.int .i64 0) := cell_block hxt 2
        have t2 := free_block hxt 2
        clear hxw hxt hxm hxg hno
        go_wp2_with (go_at_call 50; refine (HIN.out _).mono ?_; rintro e w' ⟨rfl, rfl⟩)
        refine bodyPost_ret (v := .tuple #[.agg #[.slice none 0 0, .slice none 0 0, .int .i64 0], .agg #[.slice none 0 0, .int .i64 0, .int .i64 0, .bool false, .bool false, .int .i64 0, .int .i64 0, .int .i64 0, .slice none 0 0, .slice none 0 0, .int .i64 0, .int .i64 0], .int .i64 2]) (by simp [results, Tryd.results13, go_sem, r0, r1, r2, r3, r4, r5, r6, r7, r8, r9, r10, r11, s0, s1, s2]) rfl ?_
        refine RecPost.no HR.out ?_
        go_grown
        exact HB3.out
      · have hin : 0 ≤ n ∧ n ≤ 3000 := Classical.not_not.1 hno
        have hn0 := hin.1
        have hn3 := hin.2
        have HIN := Lib.hid (fun W => in_yes n 0 3000 W hin)
        have HN3 := Lib.hid (And.intro hn0 hn3)
        have HWD := Lib.hid (worldC_ok HWCE.out)
        have HB13 := Lib.hid (HBF.out.trans (HBG3.out.mono (by rw [← HBGE.out.1]; exact HBF.out.size)))
        have hgst := za_start HIM.out.1 (mown_below (by have := HOWN.out; rw [HIM.out.2] at this; exact this) (by rw [HBGE.out.1]; exact HBG3.out)) HB13.out
        have hg38 := HXG3.out
        rw [HIM.out.2] at hg38
        have h8 := HIM.out.1.regs
        have h256 := HIM.out.1.mem
        obtain ⟨gr, mb, rfl, rfl, hgst⟩ := hgst
        rw [h8, h256] at hg38
        have hgg : W1.heap.size ≤ gb := by rw [← HBGE.out.1]; exact HBF.out.size
        have HSTART : Hid (DrE W1 gb gr cr mb cm (imageM img) [] none 0 w3) := Lib.hid ⟨ao, co, hg38, hgst, OutSt.nil _ _, fun p hp => (by cases hp), hgg⟩
        have HGG := Lib.hid hgg
        clear hno h8 h256 hg38 hgst hxt hxm hxg hxw hin hgg lv1 lv2 lv3 lw4 hn1 hn2
        go_upto_block 0 with (go_at_call 50; refine (HIN.out _).mono ?_; rintro e w' ⟨rfl, rfl⟩)
        refine rr_loop HBA HXW HXM HXT (Lib.hid (H0.out.to HBA.out.size (same_below HBA.out))) (Lib.hid (H1.out.to HBA.out.size (same_below HBA.out))) (Lib.hid (H2.out.to HBA.out.size (same_below HBA.out))) (Lib.hid (H3.out.to HBA.out.size (same_below HBA.out))) (Lib.hid (And.intro HNC.out HWCE.out)) HN3 HWD HIM HSTART hn0 hn3 ?_
        intros
        rename_i s11 s12 s13 s14 s15 s16 s17 s18 s19 s20 s21 s22 s23 s24 s25 s26 wx hcut
        obtain ⟨s, ps, aa, ca, rfl, HD8, HP, HOK, HRL⟩ := hcut
        obtain ⟨ao8, co8, hd8⟩ := HD8.out
        have hob := hd8.za.old
        have HS8 := Lib.hid hd8
        have HBX := Lib.hid (HBA.out.trans (hob.below (B := w.heap.size) (fun g hg => hg.elim) HBA.out.size))
        have hxm := hob.at HXM.out (fun q => q)
        have hxt := hob.at HXT.out (fun q => q)
        have HXM8 := Lib.hid hxm
        have HXT8 := Lib.hid hxt
        have hpl : ps.length ≤ 1000 := by have := congrArg List.length HP.out; rw [List.length_map] at this; rw [this]; exact HOK.out.len
        obtain ⟨d, hd⟩ := evres_ex s.all
        have hev : EvsR wx.heap.size wx (.slice aa ps.length ca) s.all := by rw [← HP.out]; exact hd8.all.evs (by omega)
        have lx1 : w.heap.size + 2 < wx.heap.size := (Array.getElem?_eq_some_iff.1 hxm).1
        have hw1s : W1.heap.size = w.heap.size + 3 := HW1S.out
        have HNE : Hid (¬ gb = w.heap.size + 2 ∧ ¬ gb = w.heap.size + 1) := Lib.hid (by have := HGG.out; omega)
        clear hob hxm hxt HSTART hd8 hw1s
        by_cases hd0 : d = 0
        · subst hd0
          have HEN := Lib.hid (bytes_good _ s.all wx hev hd)
          have HR := Lib.hid (show RecR img is vs bs ds n 0 (encE s.all) s.m.count img s.m from Or.inr (Or.inr (Or.inr ⟨HNC.out, HWCE.out, HN3.out.1, HN3.out.2, Or.inr ⟨by rw [HRL.out], 0, by rw [HRL.out]; exact hd, Or.inr ⟨rfl, rfl, by rw [HRL.out], by rw [HRL.out], rfl, by rw [HRL.out]⟩⟩⟩)))
          have HLE := Lib.hid (show (encE s.all).length ≤ 100000000 from by have hp := payE_le hd.ok.1 hd.ok.2; unfold encE; rw [List.length_append, show (sumB (payE s.all)).length = 4 from rfl]; omega)
          clear hev hd
          go_upto_region 56 with (go_at_call 54; refine HEN.out.mono ?_; rintro e w13 ⟨ab, cb2, rfl, hob, hb13⟩; have HOB := Lib.hid hob; have HB13 := Lib.hid hb13; clear hob hb13)
          have hok := HOK.out.ok
          have hd13 := HS8.out.below HB13.out
          have hxm := block_below HB13.out HXM8.out lx1
          have hxt := block_below HB13.out HXT8.out (by omega)
          have hsv := hd13.za.sinv (w := w) (g := w.heap.size + 2) hok HBA.out ⟨_, hxm⟩
          refine rr_r56 (Lib.hid hd13.box) HNE (Lib.hid hxm) (Lib.hid hxt) (Lib.hid hsv) (Lib.hid (own_base HOB.out HBX.out.size)) HI ?_
          intros
          rename_i s8 wy hcut
          obtain ⟨rfl, ai2, ci2, HM2, HT2, HFS⟩ := hcut
          clear hsv hxm hxt HEN lx1 hd13
          have r0 : wy.cell? ⟨w.heap.size + 2, 0, none⟩ = some (.slice (some ⟨gr, 0, none⟩) 8 cr) := cell_block HM2.out 0
          have r1 : wy.cell? ⟨w.heap.size + 2, 1, none⟩ = some (.int .i64 s.m.pc) := cell_block HM2.out 1
          have r2 : wy.cell? ⟨w.heap.size + 2, 2, none⟩ = some (.int .i64 s.m.back) := cell_block HM2.out 2
          have r3 : wy.cell? ⟨w.heap.size + 2, 3, none⟩ = some (.bool s.m.ints) := cell_block HM2.out 3
          have r4 : wy.cell? ⟨w.heap.size + 2, 4, none⟩ = some (.bool s.m.wait) := cell_block HM2.out 4
          have r5 : wy.cell? ⟨w.heap.size + 2, 5, none⟩ = some (.int .i64 s.m.table) := cell_block HM2.out 5
          have r6 : wy.cell? ⟨w.heap.size + 2, 6, none⟩ = some (.int .i64 s.m.count) := cell_block HM2.out 6
          have r7 : wy.cell? ⟨w.heap.size + 2, 7, none⟩ = some (.int .i64 s.m.fin) := cell_block HM2.out 7
          have r8 : wy.cell? ⟨w.heap.size + 2, 8, none⟩ = some (.slice (some ⟨mb, 0, none⟩) 256 cm) := cell_block HM2.out 8
          have r9 : wy.cell? ⟨w.heap.size + 2, 9, none⟩ = some (.slice ao8 s.m.out.length co8) := cell_block HM2.out 9
          have r10 : wy.cell? ⟨w.heap.size + 2, 10, none⟩ = some (.int .i64 s.m.ready) := cell_block HM2.out 10
          have r11 : wy.cell? ⟨w.heap.size + 2, 11, none⟩ = some (.int .i64 s.m.want) := cell_block HM2.out 11
          have s0 : wy.cell? ⟨w.heap.size + 1, 0, none⟩ = some (.slice ai2 img.length ci2) := cell_block HT2.out 0
          have s1 : wy.cell? ⟨w.heap.size + 1, 1, none⟩ = some (.slice ab (encE s.all).length cb2) := cell_block HT2.out 1
          have s2 : wy.cell? ⟨w.heap.size + 1, 2, none⟩ = some (.int .i64 s.m.count) := cell_block HT2.out 2
          go_wp2_with fail
          refine bodyPost_ret (v := .tuple #[.agg #[.slice ai2 img.length ci2, .slice ab (encE s.all).length cb2, .int .i64 s.m.count], .agg #[.slice (some ⟨gr, 0, none⟩) 8 cr, .int .i64 s.m.pc, .int .i64 s.m.back, .bool s.m.ints, .bool s.m.wait, .int .i64 s.m.table, .int .i64 s.m.count, .int .i64 s.m.fin, .slice (some ⟨mb, 0, none⟩) 256 cm, .slice ao8 s.m.out.length co8, .int .i64 s.m.ready, .int .i64 s.m.want], .int .i64 0]) (by simp [results, Tryd.results13, go_sem, r0, r1, r2, r3, r4, r5, r6, r7, r8, r9, r10, r11, s0, s1, s2]) rfl ?_
          exact ⟨0, encE s.all, s.m.count, img, s.m, _, _, some ⟨gr, 0, none⟩, cr, some ⟨mb, 0, none⟩, cm, ao8, co8, HR.out, by rw [hok.regs, hok.mem]; rfl, HFS.out.ra, HFS.out.rb, ⟨HI.out.i64, HI.out.len, HLE.out⟩, by rw [hok.regs, hok.mem]; exact HFS.out.own, HFS.out.below⟩
        · have HEN := Lib.hid (bytes_bad _ s.all wx hev d hd hd0)
          have HR := Lib.hid (show RecR img is vs bs ds n d [] 0 [] zeroM from Or.inr (Or.inr (Or.inr ⟨HNC.out, HWCE.out, HN3.out.1, HN3.out.2, Or.inr ⟨by rw [HRL.out], d, by rw [HRL.out]; exact hd, Or.inl ⟨hd0, rfl, recE0⟩⟩⟩)))
          have hd1 : (d != 0) = true := by rw [bne_iff_ne]; exact hd0
          clear hev hd hd0
          go_wp2_with fail
          refine HEN.out.mono ?_
          rintro e w13 ⟨rfl, hb13⟩
          have hxm := block_below hb13 HXM8.out lx1
          have hxt := block_below hb13 HXT8.out (by omega)
          have HB13 := Lib.hid (HBX.out.trans (hb13.mono HBX.out.size))
          have ly1 : w.heap.size + 2 < w13.heap.size := (Array.getElem?_eq_some_iff.1 hxm).1
          have ly2 : w.heap.size + 1 < w13.heap.size := by omega
          have r0 : w13.cell? ⟨w.heap.size + 2, 0, none⟩ = some (.slice none 0 0) := cell_block hxm 0
          have g0 := free_block hxm 0
          have r1 : w13.cell? ⟨w.heap.size + 2, 1, none⟩ = some (.int .i64 0) := cell_block hxm 1
          have g1 := free_block hxm 1
          have r2 : w13.cell? ⟨w.heap.size + 2, 2, none⟩ = some (.int .i64 0) := cell_block hxm 2
          have g2 := free_block hxm 2
          have r3 : w13.cell? ⟨w.heap.size + 2, 3, none⟩ = some (.bool false) := cell_block hxm 3
          have g3 := free_block hxm 3
          have r4 : w13.cell? ⟨w.heap.size + 2, 4, none⟩ = some (.bool false) := cell_block hxm 4
          have g4 := free_block hxm 4
          have r5 : w13.cell? ⟨w.heap.size + 2, 5, none⟩ = some (.int .i64 0) := cell_block hxm 5
          have g5 := free_block hxm 5
          have r6 : w13.cell? ⟨w.heap.size + 2, 6, none⟩ = some (.int .i64 0) := cell_block hxm 6
          have g6 := free_block hxm 6
          have r7 : w13.cell? ⟨w.heap.size + 2, 7, none⟩ = some (.int .i64 0) := cell_block hxm 7
          have g7 := free_block hxm 7
          have r8 : w13.cell? ⟨w.heap.size + 2, 8, none⟩ = some (.slice none 0 0) := cell_block hxm 8
          have g8 := free_block hxm 8
          have r9 : w13.cell? ⟨w.heap.size + 2, 9, none⟩ = some (.slice none 0 0) := cell_block hxm 9
          have g9 := free_block hxm 9
          have r10 : w13.cell? ⟨w.heap.size + 2, 10, none⟩ = some (.int .i64 0) := cell_block hxm 10
          have g10 := free_block hxm 10
          have r11 : w13.cell? ⟨w.heap.size + 2, 11, none⟩ = some (.int .i64 0) := cell_block hxm 11
          have g11 := free_block hxm 11
          have s0 : w13.cell? ⟨w.heap.size + 1, 0, none⟩ = some (.slice none 0 0) := cell_block hxt 0
          have t0 := free_block hxt 0
          have s1 : w13.cell? ⟨w.heap.size + 1, 1, none⟩ = some (.slice none 0 0) := cell_block hxt 1
          have t1 := free_block hxt 1
          have s2 : w13.cell? ⟨w.heap.size + 1, 2, none⟩ = some (.int .i64 0) := cell_block hxt 2
          have t2 := free_block hxt 2
          clear hxm hxt hb13 HEN lx1
          go_wp2_with fail
          refine bodyPost_ret (v := .tuple #[.agg #[.slice none 0 0, .slice none 0 0, .int .i64 0], .agg #[.slice none 0 0, .int .i64 0, .int .i64 0, .bool false, .bool false, .int .i64 0, .int .i64 0, .int .i64 0, .slice none 0 0, .slice none 0 0, .int .i64 0, .int .i64 0], .int .i64 d]) (by simp [results, Tryd.results13, go_sem, r0, r1, r2, r3, r4, r5, r6, r7, r8, r9, r10, r11, s0, s1, s2]) rfl ?_
          refine RecPost.no HR.out ?_
          go_grown
          exact HB13.out
    · have HR := Lib.hid (show RecR img is vs bs ds n wc [] 0 [] zeroM from Or.inr (Or.inl ⟨HNC.out, by rw [HWCE.out]; exact hwz, HWCE.out.symm, recE0⟩))
      have r0 : w3.cell? ⟨w.heap.size + 2, 0, none⟩ = some (.slice none 0 0) := cell_block hxm 0
      have g0 := free_block hxm 0
      have r1 : w3.cell? ⟨w.heap.size + 2, 1, none⟩ = some (.int .i64 0) := cell_block hxm 1
      have g1 := free_block hxm 1
      have r2 : w3.cell? ⟨w.heap.size + 2, 2, none⟩ = some (.int .i64 0) := cell_block hxm 2
      have g2 := free_block hxm 2
      have r3 : w3.cell? ⟨w.heap.size + 2, 3, none⟩ = some (.bool false) := cell_block hxm 3
      have g3 := free_block hxm 3
      have r4 : w3.cell? ⟨w.heap.size + 2, 4, none⟩ = some (.bool false) := cell_block hxm 4
      have g4 := free_block hxm 4
      have r5 : w3.cell? ⟨w.heap.size + 2, 5, none⟩ = some (.int .i64 0) := cell_block hxm 5
      have g5 := free_block hxm 5
      have r6 : w3.cell? ⟨w.heap.size + 2, 6, none⟩ = some (.int .i64 0) := cell_block hxm 6
      have g6 := free_block hxm 6
      have r7 : w3.cell? ⟨w.heap.size + 2, 7, none⟩ = some (.int .i64 0) := cell_block hxm 7
      have g7 := free_block hxm 7
      have r8 : w3.cell? ⟨w.heap.size + 2, 8, none⟩ = some (.slice none 0 0) := cell_block hxm 8
      have g8 := free_block hxm 8
      have r9 : w3.cell? ⟨w.heap.size + 2, 9, none⟩ = some (.slice none 0 0) := cell_block hxm 9
      have g9 := free_block hxm 9
      have r10 : w3.cell? ⟨w.heap.size + 2, 10, none⟩ = some (.int .i64 0) := cell_block hxm 10
      have g10 := free_block hxm 10
      have r11 : w3.cell? ⟨w.heap.size + 2, 11, none⟩ = some (.int .i64 0) := cell_block hxm 11
      have g11 := free_block hxm 11
      have s0 : w3.cell? ⟨w.heap.size + 1, 0, none⟩ = some (.slice none 0 0) := cell_block hxt 0
      have t0 := free_block hxt 0
      have s1 : w3.cell? ⟨w.heap.size + 1, 1, none⟩ = some (.slice none 0 0) := cell_block hxt 1
      have t1 := free_block hxt 1
      have s2 : w3.cell? ⟨w.heap.size + 1, 2, none⟩ = some (.int .i64 0) := cell_block hxt 2
      have t2 := free_block hxt 2
      clear hxw hxt hxm hxg
      have hd1 : (wc != 0) = true := by rw [bne_iff_ne]; exact hwz
      have hd2 : (wc == 0) = false := by rw [beq_eq_false_iff_ne]; exact hwz
      clear hwz
      go_wp2_with fail
      refine bodyPost_ret (v := .tuple #[.agg #[.slice none 0 0, .slice none 0 0, .int .i64 0], .agg #[.slice none 0 0, .int .i64 0, .int .i64 0, .bool false, .bool false, .int .i64 0, .int .i64 0, .int .i64 0, .slice none 0 0, .slice none 0 0, .int .i64 0, .int .i64 0], .int .i64 wc]) (by simp [results, Tryd.results13, go_sem, r0, r1, r2, r3, r4, r5, r6, r7, r8, r9, r10, r11, s0, s1, s2]) rfl ?_
      refine RecPost.no HR.out ?_
      go_grown
      exact HB3.out
  · have HR := Lib.hid (show RecR img is vs bs ds n nc [] 0 [] zeroM from Or.inl ⟨by rw [HNC.out]; exact hz, HNC.out.symm, recE0⟩)
    have hd1 : (nc != 0) = true := by rw [bne_iff_ne]; exact hz
    have hd2 : (nc == 0) = false := by rw [beq_eq_false_iff_ne]; exact hz
    clear hz
    go_wp2_with fail
    refine bodyPost_ret (v := .tuple #[.agg #[.slice none 0 0, .slice none 0 0, .int .i64 0], .agg #[.slice none 0 0, .int .i64 0, .int .i64 0, .bool false, .bool false, .int .i64 0, .int .i64 0, .int .i64 0, .slice none 0 0, .slice none 0 0, .int .i64 0, .int .i64 0], .int .i64 nc]) (by simp [results, Tryd.results13, go_sem, r0, r1, r2, r3, r4, r5, r6, r7, r8, r9, r10, r11, s0, s1, s2]) rfl ?_
    refine RecPost.no HR.out ?_
    go_grown
    exact HB1.out
end Go.Proofs.YtenicnneppgfmaaDoor
