/- The contract of frames.Take. No condition. -/
import Derived.Test.YtneeimfffoomgaaFo
namespace Go.Proofs.Ytneeimfffoomgaa
open Go Go.RowKit Go.ChangeShapes Go.WideShapes Go.Deep
set_option linter.unusedVariables false

/-- No frames, and no place. -/
def KnNoI (w : World) (c : Int) (e : Ending) (w' : World) : Prop := e = .returned (.tuple #[.agg #[.slice none 0 0, .slice none 0 0], .int .i64 0, .int .i64 c]) ∧ Below w.heap.size w w'
/-- Frames of the call's own, and a place. -/
def FrYesI (w : World) (i : Int) (rs : List (List Int)) (zs : List Int) (e : Ending) (w' : World) : Prop := ∃ ad cd ar cr vs, e = .returned (.tuple #[.agg #[.slice ad rs.length cd, .slice ar zs.length cr], .int .i64 i, .int .i64 0]) ∧ FrOwn w.heap.size w' (.slice ad rs.length cd) (.slice ar zs.length cr) rs zs vs ∧ Below w.heap.size w w'
/-- Frames, a place and an error are handed back; nothing that was there is written. -/
def RetFI (w : World) (rs : List (List Int)) (zs : List Int) (i err : Int) (e : Ending) (w' : World) : Prop := ∃ v, e = .returned (.tuple #[v, .int .i64 i, .int .i64 err]) ∧ FramesR w'.heap.size w' v rs zs ∧ Below w.heap.size w w'
theorem KnNoI.ret {w w' : World} {c : Int} {e : Ending} (h : KnNoI w c e w') : RetFI w [] [] 0 c e w' := by
  obtain ⟨rfl, hb⟩ := h
  exact ⟨_, rfl, framesR_nil _ _, hb⟩
theorem FrYesI.ret {w w' : World} {i : Int} {rs : List (List Int)} {zs : List Int} {e : Ending} (h : FrYesI w i rs zs e w') (hb : FBd rs zs) : RetFI w rs zs i 0 e w' := by
  obtain ⟨ad, cd, ar, cr, vs, rfl, ho, hbel⟩ := h
  exact ⟨_, rfl, ho.reads hb, hbel⟩

set_option maxHeartbeats 2000000 in
theorem take_bad (v : Value) (rs : List (List Int)) (zs : List Int) (w : World) (hf : FramesR w.heap.size w v rs zs) (hok : ¬ FOk rs zs) : Calls Try.prog 23 #[v] w (KnNoI w 8) := by
  have HF := Lib.hid hf
  obtain ⟨a, c1, a', c2, hs⟩ := hf.shape
  subst hs
  clear hf
  go_enter Try.func23, Try.ntmps23
  go_wp2_with fail
  refine (fcheck_any _ rs zs _ (HF.out.to (by simp; omega) (same_below (below_alloc2 _ _ _)))).mono ?_
  rintro e w1 ⟨⟨hno, rfl⟩ | ⟨_, rfl⟩, hb1⟩
  · exact absurd hno hok
  have hB := (below_alloc2 w _ _).trans (hb1.mono (by simp; omega))
  have hy := block_below hb1 (g := w.heap.size + 1) (alloc_at (by simp)) (by simp)
  have r0 : w1.cell? ⟨w.heap.size + 1, 0, none⟩ = some (.slice none 0 0) := cell_block hy 0
  have r1 : w1.cell? ⟨w.heap.size + 1, 1, none⟩ = some (.slice none 0 0) := cell_block hy 1
  have g0 := free_block hy 0
  have g1 := free_block hy 1
  have HBB := Lib.hid ((hB.setCell (p := ⟨w.heap.size + 1, 0, none⟩) (by simp) (.slice none 0 0)).setCell (p := ⟨w.heap.size + 1, 1, none⟩) (by simp) (.slice none 0 0))
  clear hy hB hb1
  go_wp2
  exact bodyPost_ret (v := .tuple #[.agg #[.slice none 0 0, .slice none 0 0], .int .i64 0, .int .i64 8]) (by simp [results, Try.results23, go_sem, r0, r1]) rfl ⟨rfl, HBB.out⟩

set_option maxHeartbeats 2000000 in
theorem take_full (v : Value) (rs : List (List Int)) (zs : List Int) (w : World) (hf : FramesR w.heap.size w v rs zs) (hok : FOk rs zs) (hz : Fz zs (-1)) : Calls Try.prog 23 #[v] w (KnNoI w 7) := by
  obtain ⟨vd, vr, rfl, ⟨a, cd, rfl, _⟩, hr⟩ := id hf
  obtain ⟨a', cr, hvr, _⟩ := id hr
  subst hvr
  have HF := Lib.hid hf
  have HR := Lib.hid hr
  have HZ := Lib.hid hz
  clear hf hr hz
  go_enter Try.func23, Try.ntmps23
  go_wp2_with fail
  refine (fcheck_any _ rs zs _ (HF.out.to (by simp; omega) (same_below (below_alloc2 _ _ _)))).mono ?_
  rintro e w1 ⟨⟨_, rfl⟩ | ⟨hno, rfl⟩, hb1⟩
  rotate_left
  · exact absurd hok hno
  have s1 := hb1.size
  simp only [World.size_alloc] at s1
  have hB := (below_alloc2 w _ _).trans (hb1.mono (by simp; omega))
  have hx := block_below hb1 (g := w.heap.size) ((alloc_lt (by simp)).trans (alloc_at rfl)) (by simp; omega)
  have hy := block_below hb1 (g := w.heap.size + 1) (alloc_at (by simp)) (by simp)
  have q1 : w1.cell? ⟨w.heap.size, 1, none⟩ = some (.slice a' zs.length cr) := cell_block hx 1
  have r0 : w1.cell? ⟨w.heap.size + 1, 0, none⟩ = some (.slice none 0 0) := cell_block hy 0
  have r1 : w1.cell? ⟨w.heap.size + 1, 1, none⟩ = some (.slice none 0 0) := cell_block hy 1
  have g0 := free_block hy 0
  have g1 := free_block hy 1
  have HBB := Lib.hid ((hB.setCell (p := ⟨w.heap.size + 1, 0, none⟩) (by simp) (.slice none 0 0)).setCell (p := ⟨w.heap.size + 1, 1, none⟩) (by simp) (.slice none 0 0))
  have HB := Lib.hid hB
  clear hx hy hB hb1
  go_wp2_with fail
  refine (index_any _ zs (-1) HZ.out _ (HR.out.to (by omega) (same_below HB.out))).mono ?_
  rintro e w2 ⟨rfl, rfl⟩
  go_wp2
  exact bodyPost_ret (v := .tuple #[.agg #[.slice none 0 0, .slice none 0 0], .int .i64 0, .int .i64 7]) (by simp [results, Try.results23, go_sem, r0, r1]) rfl ⟨rfl, HBB.out⟩

/-- What stands behind the two stores. -/
def TakeCut (w : World) (rs : List (List Int)) (zs : List Int) (wx : World) : Prop := ∃ ad cd ar cr vs, wx.heap[w.heap.size]? = some (.cells #[.slice ad rs.length cd, .slice ar zs.length cr] 46 (0, 0)) ∧
  wx.heap[w.heap.size + 1]? = some (.cells #[.slice none 0 0, .slice none 0 0] 46 (0, 0)) ∧ FrOwn w.heap.size wx (.slice ad rs.length cd) (.slice ar zs.length cr) rs zs vs ∧ Below w.heap.size w wx

theorem zeros_own (W : World) : (W.alloc (.cells (zeroInts 16) 3)).ownsRow W.heap.size 3 1 (.slice (some ⟨W.heap.size, 0, none⟩) 16 16) (List.replicate 16 (0 : Int)).length ((List.replicate 16 (0 : Int)).map (Value.int .i64)) := by
  rw [List.length_replicate]
  exact ⟨by simp, .inr ⟨W.heap.size, 16, zeroInts 16, rfl, Nat.le_refl _, heap_alloc_new W _, Nat.le_refl _, by unfold maxLen; omega, by rw [zeroInts_size], by rw [zeroInts_list]; simp⟩⟩

theorem mk16 (w : World) : (Instr.makeSlice 24 (.int .i64 16) (.int .i64 16)).run Try.prog w = .ok (.slice (some ⟨w.heap.size, 0, none⟩) 16 16) (w.alloc (.cells (zeroInts 16) 3)) := mk_ints 16 (by omega) (by omega) w

/-- A new row is put, and counted. -/
theorem FrOwn.take {base gd cd gr cr k : Nat} {W : World} {rs : List (List Int)} {zs : List Int} {vs : List Value} (h : FrOwn base W (.slice (some ⟨gd, 0, none⟩) rs.length cd) (.slice (some ⟨gr, 0, none⟩) zs.length cr) rs zs vs) (hb : base ≤ W.heap.size) (hk : k < rs.length) (hz : k < zs.length) :
    FrOwn base ((((W.setCell ⟨gr, k, none⟩ (.int .i64 1)).setCell ⟨gd, k, none⟩ (.slice (some ⟨W.heap.size, 0, none⟩) 16 16)).alloc (.cells (zeroInts 16) 3)).drew) (.slice (some ⟨gd, 0, none⟩) rs.length cd) (.slice (some ⟨gr, 0, none⟩) zs.length cr) (rs.set k (List.replicate 16 0)) (zs.set k 1) (vs.set k (.slice (some ⟨W.heap.size, 0, none⟩) 16 16)) ∧
    FrOwn base ((((W.setCell ⟨gd, k, none⟩ (.slice (some ⟨W.heap.size, 0, none⟩) 16 16)).setCell ⟨gr, k, none⟩ (.int .i64 1)).alloc (.cells (zeroInts 16) 3)).drew) (.slice (some ⟨gd, 0, none⟩) rs.length cd) (.slice (some ⟨gr, 0, none⟩) zs.length cr) (rs.set k (List.replicate 16 0)) (zs.set k 1) (vs.set k (.slice (some ⟨W.heap.size, 0, none⟩) 16 16)) := by
  have hu := zeros_own W
  obtain ⟨gd', curd, hgd', _, hblkd, _⟩ := own_some h.d (by omega)
  obtain ⟨gr', curr, hgr', _, hblkr, _⟩ := own_some h.r (by omega)
  simp only [Option.some.injEq, Addr.mk.injEq, and_true] at hgd' hgr'
  subst hgd' hgr'
  have ld : gd < W.heap.size := (Array.getElem?_eq_some_iff.1 hblkd).1
  have lr : gr < W.heap.size := (Array.getElem?_eq_some_iff.1 hblkr).1
  have hr := apart_of h.r hu (Nat.le_refl _)
  have hrows := fun i (hi : i < rs.length) => apart_of (h.rows i hi).1 hu (Nat.le_refl _)
  have g1 := h.grown (below_alloc W (.cells (zeroInts 16) 3))
  have hub := own_base hu hb
  have bd : (W.alloc (.cells (zeroInts 16) 3)).heap[gd]? = some (.cells curd 24 (0, 0)) := (alloc_lt ld).trans hblkd
  have br : (W.alloc (.cells (zeroInts 16) 3)).heap[gr]? = some (.cells curr 3 (0, 0)) := (alloc_lt lr).trans hblkr
  have ne_r : some gr ≠ Value.ownBlock (.slice (some ⟨W.heap.size, 0, none⟩) 16 16) := by simp [Value.ownBlock]; omega
  constructor
  · have f1 := g1.setRef hz 1
    have f2 := f1.setRow hk (own_set hub ne_r _) hr.2 hr.1 (fun i hi _ => ⟨(hrows i hi).2, (hrows i hi).1⟩)
    rw [World.setCell_alloc_past _ _ _ _ lr, World.setCell_alloc_past _ _ _ _ (by simpa using ld)] at f2
    exact f2.grown (Below.refl _ _).drew
  · have f1 := g1.setRow hk hub hr.2 hr.1 (fun i hi _ => ⟨(hrows i hi).2, (hrows i hi).1⟩)
    have f2 : FrOwn base (((W.alloc (.cells (zeroInts 16) 3)).setCell ⟨gd, k, none⟩ (.slice (some ⟨W.heap.size, 0, none⟩) 16 16)).setCell ⟨gr, k, none⟩ (.int .i64 1)) (.slice (some ⟨gd, 0, none⟩) rs.length cd) (.slice (some ⟨gr, 0, none⟩) zs.length cr) (rs.set k (List.replicate 16 0)) (zs.set k 1) (vs.set k (.slice (some ⟨W.heap.size, 0, none⟩) 16 16)) := by
      have e : (rs.set k (List.replicate 16 0)).length = rs.length := List.length_set ..
      have f := f1.setRef hz 1
      exact f
    rw [World.setCell_alloc_past _ _ _ _ ld, World.setCell_alloc_past _ _ _ _ (by simpa using lr)] at f2
    exact f2.grown (Below.refl _ _).drew

theorem take_close {w W : World} {rs : List (List Int)} {zs : List Int} {vs : List Value} {gd cd gr cr k H : Nat} (hx : W.heap[w.heap.size]? = some (.cells #[.slice (some ⟨gd, 0, none⟩) rs.length cd, .slice (some ⟨gr, 0, none⟩) zs.length cr] 46 (0, 0)))
    (hy : W.heap[w.heap.size + 1]? = some (.cells #[.slice none 0 0, .slice none 0 0] 46 (0, 0))) (h : FrOwn w.heap.size W (.slice (some ⟨gd, 0, none⟩) rs.length cd) (.slice (some ⟨gr, 0, none⟩) zs.length cr) rs zs vs) (hb : Below w.heap.size w W)
    (hk : k < rs.length) (hz : k < zs.length) (hH : W.heap.size = H) :
    TakeCut w (rs.set k (List.replicate 16 0)) (zs.set k 1) ((((W.setCell ⟨gr, k, none⟩ (.int .i64 1)).setCell ⟨gd, k, none⟩ (.slice (some ⟨H, 0, none⟩) 16 16)).alloc (.cells (zeroInts 16) 3)).drew) := by
  subst hH
  have T := (h.take hb.size hk hz).1
  obtain ⟨gd', curd, hgd', hbd, hblkd, _⟩ := own_some h.d (by omega)
  obtain ⟨gr', curr, hgr', hbr, hblkr, _⟩ := own_some h.r (by omega)
  simp only [Option.some.injEq, Addr.mk.injEq, and_true] at hgd' hgr'
  subst hgd' hgr'
  have far : ∀ {g : Nat} {cs : Array Value}, W.heap[g]? = some (.cells cs 46 (0, 0)) → ((((W.setCell ⟨gr, k, none⟩ (.int .i64 1)).setCell ⟨gd, k, none⟩ (.slice (some ⟨W.heap.size, 0, none⟩) 16 16)).alloc (.cells (zeroInts 16) 3)).drew).heap[g]? = some (.cells cs 46 (0, 0)) := by
    intro g cs hg
    have n1 : g ≠ gr := by intro e; subst e; rw [hblkr] at hg; simp at hg
    have n2 : g ≠ gd := by intro e; subst e; rw [hblkd] at hg; simp at hg
    have e2 := set_block_ne (g := gd) (i := k) (set_block_ne (g := gr) (i := k) hg n1 (.int .i64 1)) n2 (.slice (some ⟨W.heap.size, 0, none⟩) 16 16)
    exact (alloc_lt (Array.getElem?_eq_some_iff.1 e2).1).trans e2
  refine ⟨some ⟨gd, 0, none⟩, cd, some ⟨gr, 0, none⟩, cr, vs.set k (.slice (some ⟨W.heap.size, 0, none⟩) 16 16), ?_, far hy, ?_, (((hb.setCell (by simp; omega) _).setCell (by simp; omega) _).alloc (by simp; exact hb.size) _).drew⟩
  · rw [List.length_set, List.length_set]
    exact far hx
  · rw [List.length_set, List.length_set]
    exact T

set_option maxHeartbeats 4000000 in
theorem take_yes (v : Value) (rs : List (List Int)) (zs : List Int) (k : Nat) (w : World) (hf : FramesR w.heap.size w v rs zs) (hok : FOk rs zs) (hz : Fz zs k) (hkz : k < zs.length) : Calls Try.prog 23 #[v] w (FrYesI w k (rs.set k (List.replicate 16 0)) (zs.set k 1)) := by
  obtain ⟨vd, vr, rfl, ⟨a, cd0, rfl, _⟩, hr⟩ := id hf
  obtain ⟨a', cr0, hvr, hlz, _⟩ := id hr
  subst hvr
  have HF := Lib.hid hf
  have HR := Lib.hid hr
  have HZ := Lib.hid hz
  have hkr : k < rs.length := by rw [hok.1]; exact hkz
  have h200 : zs.length ≤ 200 := hok.2.1
  have h200' : rs.length ≤ 200 := by rw [hok.1]; exact hok.2.1
  clear hf hr hz
  go_enter Try.func23, Try.ntmps23
  go_wp2_with fail
  refine (fcheck_any _ rs zs _ (HF.out.to (by simp; omega) (same_below (below_alloc2 _ _ _)))).mono ?_
  rintro e w1 ⟨⟨_, rfl⟩ | ⟨hno, rfl⟩, hb1⟩
  rotate_left
  · exact absurd hok hno
  clear hok
  have s1 := hb1.size
  simp only [World.size_alloc] at s1
  have hB := (below_alloc2 w _ _).trans (hb1.mono (by simp; omega))
  have hx := block_below hb1 (g := w.heap.size) ((alloc_lt (by simp)).trans (alloc_at rfl)) (by simp; omega)
  have hy := block_below hb1 (g := w.heap.size + 1) (alloc_at (by simp)) (by simp)
  have q0 : w1.cell? ⟨w.heap.size, 0, none⟩ = some (.slice a rs.length cd0) := cell_block hx 0
  have q1 : w1.cell? ⟨w.heap.size, 1, none⟩ = some (.slice a' zs.length cr0) := cell_block hx 1
  have HB := Lib.hid hB
  have HX := Lib.hid hx
  have HY := Lib.hid hy
  clear hx hy hB hb1
  go_wp2_with fail
  refine (index_any _ zs k HZ.out _ (HR.out.to (by omega) (same_below HB.out))).mono ?_
  rintro e w2 ⟨rfl, rfl⟩
  go_wp2_with fail
  refine (fcopy_any _ rs zs _ (HF.out.to (by omega) (same_below HB.out))).mono ?_
  rintro e w3 ⟨ad, cd, ar, cr, vs, rfl, hown, hb3⟩
  have s3 := hb3.size
  have hx3 := block_below hb3 HX.out (by omega)
  have hy3 := block_below hb3 HY.out (by omega)
  obtain ⟨gd, curd, hgd, hbd, hblkd, hcapd⟩ := own_some hown.d (by omega)
  obtain ⟨gr, curr, hgr, hbr, hblkr, hcapr⟩ := own_some hown.r (by omega)
  subst hgd hgr
  have b0 : w3.cell? ⟨w.heap.size, 0, none⟩ = some (.slice a rs.length cd0) := cell_block hx3 0
  have b1 : w3.cell? ⟨w.heap.size, 1, none⟩ = some (.slice a' zs.length cr0) := cell_block hx3 1
  have f0 := free_block hx3 0
  have f1 := free_block hx3 1
  have o1 := ((hown.base (b' := w.heap.size) (by omega)).set (i := 0) (u := .slice (some ⟨gd, 0, none⟩) rs.length cd) hx3 (by decide) (by decide)).set (i := 1) (u := .slice (some ⟨gr, 0, none⟩) zs.length cr) (set_block hx3 _) (by decide) (by decide)
  have x4 := set_block (i := 1) (set_block (i := 0) hx3 (.slice (some ⟨gd, 0, none⟩) rs.length cd)) (.slice (some ⟨gr, 0, none⟩) zs.length cr)
  have y4 := set_block_ne (g := w.heap.size) (i := 1) (set_block_ne (g := w.heap.size) (i := 0) hy3 (by omega) (.slice (some ⟨gd, 0, none⟩) rs.length cd)) (by omega) (.slice (some ⟨gr, 0, none⟩) zs.length cr)
  have B4 := ((HB.out.trans (hb3.mono (by omega))).setCell (p := ⟨w.heap.size, 0, none⟩) (by simp) (.slice (some ⟨gd, 0, none⟩) rs.length cd)).setCell (p := ⟨w.heap.size, 1, none⟩) (by simp) (.slice (some ⟨gr, 0, none⟩) zs.length cr)
  have HO := Lib.hid o1
  have HX4 := Lib.hid x4
  have HY4 := Lib.hid y4
  have HB4 := Lib.hid B4
  have HC0 := Lib.hid (show w3.cell? ⟨gr, k, none⟩ = some (.int .i64 (zs.getD k 0)) by rw [hown.r.cellAt k (by omega), List.getElem?_map, List.getElem?_eq_getElem hkz, ← getD_of hkz 0]; rfl)
  have hkv : k < vs.length := by have := hown.len; omega
  have HC1 := Lib.hid (show w3.cell? ⟨gd, k, none⟩ = some (vs.getD k undef) by rw [hown.d.cellAt k (by omega), List.getElem?_eq_getElem hkv, ← getD_of hkv undef])
  have fr := hown.r.frozenAt k
  have fd := hown.d.frozenAt k
  have lgd : gd < w3.heap.size := (Array.getElem?_eq_some_iff.1 hblkd).1
  have lgr : gr < w3.heap.size := (Array.getElem?_eq_some_iff.1 hblkr).1
  have lx : w.heap.size < w3.heap.size := by omega
  have nxd : w.heap.size ≠ gd := by intro e; subst e; rw [hblkd] at hx3; simp at hx3
  have nxr : w.heap.size ≠ gr := by intro e; subst e; rw [hblkr] at hx3; simp at hx3
  have ndr : gd ≠ gr := by intro e; subst e; rw [hblkr] at hblkd; simp at hblkd
  clear o1 x4 y4 B4 hx3 hy3 hown hb3 hblkd hblkr
  have cr0' : w3.cell? ⟨gr, k, none⟩ = some (.int .i64 (zs.getD k 0)) := HC0.out
  have cd0' : w3.cell? ⟨gd, k, none⟩ = some (vs.getD k undef) := HC1.out
  have hmk := mk16
  go_upto_region 1 with fail
  go_cut [] (fun wx => TakeCut w (rs.set k (List.replicate 16 0)) (zs.set k 1) wx)
  case first =>
    go_region
    all_goals (go_wp2_with fail; go_meet)
    all_goals exact take_close HX4.out HY4.out HO.out HB4.out hkr hkz (by simp)
  case rest =>
    obtain ⟨ad, cd, ar, cr, vs, hx, hy, hown, hb⟩ := hcut
    have q0 : wc.cell? ⟨w.heap.size, 0, none⟩ = some (.slice ad (rs.set k (List.replicate 16 0)).length cd) := cell_block hx 0
    have q1 : wc.cell? ⟨w.heap.size, 1, none⟩ = some (.slice ar (zs.set k 1).length cr) := cell_block hx 1
    have r0 : wc.cell? ⟨w.heap.size + 1, 0, none⟩ = some (.slice none 0 0) := cell_block hy 0
    have r1 : wc.cell? ⟨w.heap.size + 1, 1, none⟩ = some (.slice none 0 0) := cell_block hy 1
    have g0 := free_block hy 0
    have g1 := free_block hy 1
    have HBB := Lib.hid ((hb.setCell (p := ⟨w.heap.size + 1, 0, none⟩) (by simp) (.slice ad (rs.set k (List.replicate 16 0)).length cd)).setCell (p := ⟨w.heap.size + 1, 1, none⟩) (by simp) (.slice ar (zs.set k 1).length cr))
    have o3 := Lib.hid ((hown.set (i := 0) (u := .slice ad (rs.set k (List.replicate 16 0)).length cd) hy (by decide) (by decide)).set (i := 1) (u := .slice ar (zs.set k 1).length cr) (set_block hy _) (by decide) (by decide))
    generalize hrs' : rs.set k (List.replicate 16 0) = rs' at *
    generalize hzs' : zs.set k 1 = zs' at *
    clear hx hy hown hb hrs' hzs'
    go_wp2
    exact bodyPost_ret (v := .tuple #[.agg #[.slice ad rs'.length cd, .slice ar zs'.length cr], .int .i64 k, .int .i64 0]) (by simp [results, Try.results23, go_sem, r0, r1]) rfl ⟨ad, cd, ar, cr, vs, rfl, o3.out, HBB.out⟩
end Go.Proofs.Ytneeimfffoomgaa
