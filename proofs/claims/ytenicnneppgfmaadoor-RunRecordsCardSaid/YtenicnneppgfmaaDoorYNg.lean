/- The contract of the reference's GuestNew. No condition beyond the reading. -/
import Derived.Test.YtenicnneppgfmaaDoorYNw
import Derived.Deep.AppendLies
namespace Go.Proofs.YtenicnneppgfmaaDoor
open Go Go.RowKit Go.ChangeShapes Go.WideShapes Go.Deep
set_option linter.unusedVariables false
attribute [local go_sem ↓] Go.wp_at_zero Go.wp_at_succ

set_option maxHeartbeats 400000 in
set_option maxRecDepth 100000 in
theorem guest_bad (v : Value) (img : List Int) (w : World) (hv : Ints w.heap.size w v img) (hb : 256 < img.length ∨ img.any oddB = true) : Calls Tryd.prog 48 #[v] w (NewPost w zeroM (newC img)) := by
  obtain ⟨a, c, rfl, hl, hl2, hc⟩ := id hv
  have HV := Lib.hid hv
  clear hv hc
  by_cases h1 : 256 < img.length
  · have hC : newC img = 1 := by unfold newC; rw [if_pos h1]
    rw [hC]
    clear hC hb
    go_enter Tryd.func48, Tryd.ntmps48
    go_wp2
    exact bodyPost_ret (v := .tuple #[.agg #[.slice none 0 0, .int .i64 0, .int .i64 0, .bool false, .bool false, .int .i64 0, .int .i64 0, .int .i64 0, .slice none 0 0, .slice none 0 0, .int .i64 0, .int .i64 0], .int .i64 1]) (by simp [results, Tryd.results48, go_sem]) rfl (zero_post (below_alloc _ _))
  · have h2 : img.any oddB = true := by rcases hb with h | h; exact absurd h h1; exact h
    have hC : newC img = 2 := by unfold newC; rw [if_neg h1, if_pos h2]
    rw [hC]
    have H2 := Lib.hid h2
    clear hC hb h2
    go_enter Tryd.func48, Tryd.ntmps48
    go_wp2_with (go_at_call 85; refine (may_or (wordsMay_any _ img _ ?_)).mono ?_; (exact HV.out.to (by simp) (same_alloc _ _)); rintro e w' (⟨rfl, ho1, n1, rfl⟩ | ⟨rfl, ho1, n1, rfl⟩))
    · refine bodyPost_ret (v := .tuple #[.agg #[.slice none 0 0, .int .i64 0, .int .i64 0, .bool false, .bool false, .int .i64 0, .int .i64 0, .int .i64 0, .slice none 0 0, .slice none 0 0, .int .i64 0, .int .i64 0], .int .i64 2]) (by simp [results, Tryd.results48, go_sem]) rfl (zero_post ?_)
      repeat' (refine Below.setCell ?_ (by simp) _)
      exact below_drewN (below_alloc _ _) _
    · exact absurd (H2.out.symm.trans ho1.out) (by decide)

/-- The state of the making: the result's box, the guest's box gb, its registers gr, its memory. -/
structure GInv (w : World) (gb gr : Nat) (a : Option Addr) (n c : Nat) (mem : List Int) (wx : World) : Prop where
  x : wx.heap[w.heap.size]? = some (.cells #[.slice none 0 0, .int .i64 0, .int .i64 0, .bool false, .bool false, .int .i64 0, .int .i64 0, .int .i64 0, .slice none 0 0, .slice none 0 0, .int .i64 0, .int .i64 0] 30 (0, 0))
  y : wx.heap[gb]? = some (.cells #[.slice (some ⟨gr, 0, none⟩) 8 8, .int .i64 0, .int .i64 0, .bool false, .bool false, .int .i64 (-1), .int .i64 0, .int .i64 0, .slice a n c, .slice none 0 0, .int .i64 0, .int .i64 (-1)] 30 (0, 0))
  r : wx.heap[gr]? = some (.cells ((List.replicate 8 (0 : Int)).map (Value.int .i64)).toArray 3 (0, 0))
  m : wx.ownsRow w.heap.size 3 1 (.slice a n c) n (mem.map (Value.int .i64))
  b : Below w.heap.size w wx
  wr : w.heap.size < gr
  wb : w.heap.size < gb
  rm : some gr ≠ (Value.slice a n c).ownBlock

theorem ginv_step {w wr W1 W4 : World} {gb gr n c g4 cp4 : Nat} {a : Option Addr} {mem : List Int} {O : Obj} (hd : W1 = wr.alloc O) (h : GInv w gb gr a n c mem wr)
    (own4 : W4.ownsRow w.heap.size 3 1 (.slice (some ⟨g4, 0, none⟩) (n + 1) cp4) (n + 1) ((mem ++ [0]).map (Value.int .i64))) (hg4 : W1.grownBy W4 (Value.slice a n c).ownBlock) (hat : (Value.slice a n c).ownBlock = some g4 ∨ g4 = W1.heap.size) :
    GInv w gb gr (some ⟨g4, 0, none⟩) (n + 1) cp4 (mem ++ [0]) (W4.setCell ⟨gb, 8, none⟩ (.slice (some ⟨g4, 0, none⟩) (n + 1) cp4)) := by
  subst hd
  have b1 := below_alloc wr O
  have m1 := h.m.alloc O
  have x1 := block_below b1 h.x (Array.getElem?_eq_some_iff.1 h.x).1
  have y1 := block_below b1 h.y (Array.getElem?_eq_some_iff.1 h.y).1
  have lr := (Array.getElem?_eq_some_iff.1 h.r).1
  have r1 := block_below b1 h.r lr
  have x4 := block_grown hg4 x1 (own_ne_block m1 x1 (by decide))
  have y4 := block_grown hg4 y1 (own_ne_block m1 y1 (by decide))
  have r4 := block_grown hg4 r1 h.rm
  have nrb : gr ≠ gb := by intro e; subst e; have := h.y; rw [h.r] at this; simp at this
  refine ⟨set_block_ne x4 (by have := h.wb; omega) _, ?_, set_block_ne r4 nrb _, own_set own4 (own_ne_block own4 y4 (by decide)) _, (below_grown (h.b.trans (b1.mono h.b.size)) m1 hg4 (by have := h.b.size; simp; omega) (Nat.le_refl _)).setCell (by simp; have := h.wb; omega) _, h.wr, h.wb, ?_⟩
  · simpa using set_block (i := 8) y4 (.slice (some ⟨g4, 0, none⟩) (n + 1) cp4)
  · rcases hat with e | e
    · intro e'
      exact h.rm (by rw [e', e]; rfl)
    · simp only [Value.ownBlock, ne_eq, Option.some.injEq]
      simp at e
      omega

theorem GInv.own {w wx : World} {gb gr c : Nat} {a : Option Addr} {img : List Int} (hl : img.length ≤ 256) (h : GInv w gb gr a 256 c (imageM img).mem wx) : SInv w w.heap.size (imageM img) (.slice (some ⟨gr, 0, none⟩) 8 8) (.slice a 256 c) (.slice none 0 0) wx := by
  have l1 : (imageM img).regs.length = 8 := by simp [imageM]
  have l2 := image_len img hl
  have o1 := own_block (base := w.heap.size) h.r (by have := h.wr; omega) (n := 8) (by simp) (by omega)
  have hm := h.m
  refine ⟨⟨by rw [l1]; exact o1, by rw [l2]; exact hm, World.ownsRow_nil _ _ _ _, Or.inr h.rm, ?_, ?_, ?_, Or.inl rfl, Or.inl rfl⟩, ⟨_, h.x⟩, h.b⟩
  · exact Or.inr (by simp [Value.ownBlock])
  · unfold Apart
    cases e : Value.ownBlock (.slice a 256 c) with
    | none => exact Or.inl rfl
    | some q => exact Or.inr (by simp [Value.ownBlock])
  · unfold Apart
    cases e : Value.ownBlock (.slice a 256 c) with
    | none => exact Or.inl rfl
    | some q => exact Or.inr (by have := h.rm; rw [e] at this; exact fun e' => this e'.symm)

theorem set12 {w : World} {g : Nat} {t : TypeId} {a0 a1 a2 a3 a4 a5 a6 a7 a8 a9 a10 a11 b0 b1 b2 b3 b4 b5 b6 b7 b8 b9 b10 b11 : Value} (h : w.heap[g]? = some (.cells #[a0, a1, a2, a3, a4, a5, a6, a7, a8, a9, a10, a11] t (0, 0))) : ((((((((((((w.setCell ⟨g, 0, none⟩ b0).setCell ⟨g, 1, none⟩ b1).setCell ⟨g, 2, none⟩ b2).setCell ⟨g, 3, none⟩ b3).setCell ⟨g, 4, none⟩ b4).setCell ⟨g, 5, none⟩ b5).setCell ⟨g, 6, none⟩ b6).setCell ⟨g, 7, none⟩ b7).setCell ⟨g, 8, none⟩ b8).setCell ⟨g, 9, none⟩ b9).setCell ⟨g, 10, none⟩ b10).setCell ⟨g, 11, none⟩ b11).heap[g]? = some (.cells #[b0, b1, b2, b3, b4, b5, b6, b7, b8, b9, b10, b11] t (0, 0)) := by
  simpa using (set_block (i := 11) (set_block (i := 10) (set_block (i := 9) (set_block (i := 8) (set_block (i := 7) (set_block (i := 6) (set_block (i := 5) (set_block (i := 4) (set_block (i := 3) (set_block (i := 2) (set_block (i := 1) (set_block (i := 0) h b0) b1) b2) b3) b4) b5) b6) b7) b8) b9) b10) b11)

/-- The guest's box, filled. -/
abbrev gbox (gr : Nat) (a2 : Option Addr) (n c2 : Nat) : Obj := .cells #[.slice (some ⟨gr, 0, none⟩) 8 8, .int .i64 0, .int .i64 0, .bool false, .bool false, .int .i64 (-1), .int .i64 0, .int .i64 0, .slice a2 n c2, .slice none 0 0, .int .i64 0, .int .i64 (-1)] 30 (0, 0)
abbrev gsets (w : World) (g gr : Nat) (a2 : Option Addr) (n c2 : Nat) : World := ((((((((((((w.setCell ⟨g, 0, none⟩ (.slice (some ⟨gr, 0, none⟩) 8 8)).setCell ⟨g, 1, none⟩ (.int .i64 0)).setCell ⟨g, 2, none⟩ (.int .i64 0)).setCell ⟨g, 3, none⟩ (.bool false)).setCell ⟨g, 4, none⟩ (.bool false)).setCell ⟨g, 5, none⟩ (.int .i64 (-1))).setCell ⟨g, 6, none⟩ (.int .i64 0)).setCell ⟨g, 7, none⟩ (.int .i64 0)).setCell ⟨g, 8, none⟩ (.slice a2 n c2)).setCell ⟨g, 9, none⟩ (.slice none 0 0)).setCell ⟨g, 10, none⟩ (.int .i64 0)).setCell ⟨g, 11, none⟩ (.int .i64 (-1)))
abbrev zobj : Obj := .cells #[.slice none 0 0, .int .i64 0, .int .i64 0, .bool false, .bool false, .int .i64 0, .int .i64 0, .int .i64 0, .slice none 0 0, .slice none 0 0, .int .i64 0, .int .i64 0] 30 (0, 0)
structure GPre (w w2 : World) (lo : Nat) (a2 : Option Addr) (n c2 : Nat) (img : List Int) : Prop where
  x : w2.heap[w.heap.size]? = some zobj
  b : Below w.heap.size w w2
  o : w2.ownsRow w.heap.size 3 1 (.slice a2 n c2) n (img.map (Value.int .i64))
  l : ∀ k, (Value.slice a2 n c2).ownBlock = some k → lo ≤ k ∧ k < w2.heap.size
  s : lo ≤ w2.heap.size
  p : w.heap.size < lo
theorem gsets_ne {w : World} {g gr n c2 k : Nat} {a2 : Option Addr} {o : Obj} (h : w.heap[k]? = some o) (hne : k ≠ g) : (gsets w g gr a2 n c2).heap[k]? = some o := by
  simp only [gsets]
  repeat (refine set_block_ne ?_ hne _)
  exact h
theorem gsets_own {w : World} {g gr n c2 m base : Nat} {a2 : Option Addr} {v : Value} {xs : List Value} (h : w.ownsRow base 3 1 v m xs) (hne : some g ≠ v.ownBlock) : (gsets w g gr a2 n c2).ownsRow base 3 1 v m xs := by
  simp only [gsets]
  repeat (refine own_set ?_ hne _)
  exact h
theorem gsets_below {w0 w : World} {B g gr n c2 : Nat} {a2 : Option Addr} (h : Below B w0 w) (hg : B ≤ g) : Below B w0 (gsets w g gr a2 n c2) := by
  simp only [gsets]
  repeat (refine Below.setCell ?_ (by simpa using hg) _)
  exact h
theorem gsets_size (w : World) (g gr n c2 : Nat) (a2 : Option Addr) : (gsets w g gr a2 n c2).heap.size = w.heap.size := by simp [gsets]
theorem zreg (w : World) (g : Nat) (h : w.heap[g]? = some (.cells (zeroInts 8) 3 (0, 0))) : w.heap[g]? = some (.cells ((List.replicate 8 (0 : Int)).map (Value.int .i64)).toArray 3 (0, 0)) := by rw [← zeroInts_eq]; exact h
theorem gclose1 {w w2 : World} {lo gr n c2 : Nat} {a2 : Option Addr} {img : List Int} (h : GPre w w2 lo a2 n c2 img) (hr : w2.heap[gr]? = some (.cells (zeroInts 8) 3 (0, 0))) (h1 : w.heap.size < gr) (h2 : gr < lo) : GInv w w2.heap.size gr a2 n c2 img (w2.alloc (gbox gr a2 n c2)) :=
  ⟨(alloc_lt (by have := h.p; have := h.s; omega)).trans h.x, alloc_at rfl, zreg _ _ ((alloc_lt (by have := h.s; omega)).trans hr), h.o.alloc _, h.b.alloc h.b.size _, h1, by have := h.s; omega, fun e => by have := h.l gr e.symm; omega⟩
theorem gclose2 {w w2 : World} {lo g gr n c2 : Nat} {a2 : Option Addr} {img : List Int} (h : GPre w w2 lo a2 n c2 img) (hr : w2.heap[gr]? = some (.cells (zeroInts 8) 3 (0, 0))) (hg : w2.heap[g]? = some zobj) (h1 : w.heap.size < gr) (h2 : gr < lo) (h3 : w.heap.size < g) (h4 : g < lo) : GInv w g gr a2 n c2 img (gsets w2 g gr a2 n c2) :=
  ⟨gsets_ne h.x (by omega), set12 hg, zreg _ _ (gsets_ne hr (by intro e; subst e; rw [hg] at hr; simp at hr)), gsets_own h.o (fun e => by have := h.l g e.symm; omega), gsets_below h.b (by omega), h1, h3, fun e => by have := h.l gr e.symm; omega⟩
theorem gclose3 {w w2 : World} {lo n c2 : Nat} {a2 : Option Addr} {img : List Int} (h : GPre w w2 lo a2 n c2 img) : GInv w (w2.heap.size + 1) w2.heap.size a2 n c2 img ((w2.alloc (.cells (zeroInts 8) 3)).alloc (gbox w2.heap.size a2 n c2)) :=
  ⟨(alloc_lt (by have := h.p; have := h.s; simp; omega)).trans ((alloc_lt (by have := h.p; have := h.s; omega)).trans h.x), alloc_at (by simp), zreg _ _ ((alloc_lt (by simp)).trans (alloc_at rfl)), (h.o.alloc _).alloc _, (h.b.alloc h.b.size _).alloc (by have := h.b.size; simp; omega) _, by have := h.s; have := h.p; omega, by have := h.s; have := h.p; omega, fun e => by have := h.l _ e.symm; omega⟩
theorem gclose4 {w w2 : World} {lo n c2 : Nat} {a2 : Option Addr} {img : List Int} (h : GPre w w2 lo a2 n c2 img) : GInv w w2.heap.size (w2.heap.size + 1) a2 n c2 img ((w2.alloc (gbox (w2.heap.size + 1) a2 n c2)).alloc (.cells (zeroInts 8) 3)) :=
  ⟨(alloc_lt (by have := h.p; have := h.s; simp; omega)).trans ((alloc_lt (by have := h.p; have := h.s; omega)).trans h.x), (alloc_lt (by simp)).trans (alloc_at rfl), zreg _ _ (alloc_at (by simp)), (h.o.alloc _).alloc _, (h.b.alloc h.b.size _).alloc (by have := h.b.size; simp; omega) _, by have := h.s; have := h.p; omega, by have := h.s; have := h.p; omega, fun e => by have := h.l _ e.symm; omega⟩
theorem gclose6 {w w2 : World} {lo g n c2 : Nat} {a2 : Option Addr} {img : List Int} (h : GPre w w2 lo a2 n c2 img) (hg : w2.heap[g]? = some zobj) (h3 : w.heap.size < g) (h4 : g < lo) : GInv w g w2.heap.size a2 n c2 img ((gsets w2 g w2.heap.size a2 n c2).alloc (.cells (zeroInts 8) 3)) :=
  ⟨(alloc_lt (by rw [gsets_size]; have := h.p; have := h.s; omega)).trans (gsets_ne h.x (by omega)), (alloc_lt (by rw [gsets_size]; have := h.s; omega)).trans (set12 hg), zreg _ _ (alloc_at (by rw [gsets_size])), (gsets_own h.o (fun e => by have := h.l g e.symm; omega)).alloc _, (gsets_below h.b (by omega)).alloc (by rw [gsets_size]; exact h.b.size) _, by have := h.s; have := h.p; omega, h3, fun e => by have := h.l _ e.symm; omega⟩

set_option maxHeartbeats 4000000 in
set_option maxRecDepth 100000 in
theorem guest_good (v : Value) (img : List Int) (w : World) (hv : Ints w.heap.size w v img) (h1 : img.length ≤ 256) (h2 : img.any oddB = false) : Calls Tryd.prog 48 #[v] w (NewPost w (imageM img) 0) := by
  obtain ⟨a, c, rfl, hl, hl2, hc⟩ := id hv
  have HV := Lib.hid hv
  have H2 := Lib.hid h2
  have hmk8 := mk8
  clear hv hc h2
  go_enter Tryd.func48, Tryd.ntmps48
  go_wp2_with (go_at_call 85; refine (may_or (wordsMay_any _ img _ ?_)).mono ?_; (exact HV.out.to (by simp) (same_alloc _ _)); rintro e w' (⟨rfl, ho1, n1, rfl⟩ | ⟨rfl, ho1, n1, rfl⟩))
  · exact absurd (H2.out.symm.trans ho1.out) (by decide)
  clear ho1
  have hB0 : Below w.heap.size w ((w.alloc (.cells #[.slice none 0 0, .int .i64 0, .int .i64 0, .bool false, .bool false, .int .i64 0, .int .i64 0, .int .i64 0, .slice none 0 0, .slice none 0 0, .int .i64 0, .int .i64 0] 30)).drewN n1) := below_drewN (below_alloc w _) _
  have hX0 : ((w.alloc (.cells #[.slice none 0 0, .int .i64 0, .int .i64 0, .bool false, .bool false, .int .i64 0, .int .i64 0, .int .i64 0, .slice none 0 0, .slice none 0 0, .int .i64 0, .int .i64 0] 30)).drewN n1).heap[w.heap.size]? = some (.cells #[.slice none 0 0, .int .i64 0, .int .i64 0, .bool false, .bool false, .int .i64 0, .int .i64 0, .int .i64 0, .slice none 0 0, .slice none 0 0, .int .i64 0, .int .i64 0] 30 (0, 0)) := alloc_at rfl
  go_upto_region 5 with fail
  generalize World.drewN _ _ = W0 at hB0 hX0 ⊢
  have s0 := (Array.getElem?_eq_some_iff.1 hX0).1
  have HB0 := Lib.hid hB0
  have HX0 := Lib.hid hX0
  clear hB0 hX0
  go_cut [4] (fun s4 wx => ∃ gb gr a c, s4 = .pointer (some ⟨gb, 0, none⟩) ∧ GInv w gb gr a img.length c img wx)
  case first =>
    go_region_with ((go_at_call 51; refine (wordsI_any _ img _ ?_).mono ?_; (first | exact HV.out.to (by simp; omega) (same_below HB0.out.drew) | exact HV.out.to (by simp; omega) (same_below (HB0.out.drew.alloc (by simp; omega) _)) | exact HV.out.to (by simp; omega) (same_below ((HB0.out.drew.alloc (by simp; omega) _).alloc (by simp; omega) _))); rintro e w2 ⟨a2, cc2, rfl, hown2, hb2⟩; (first | (have s2 : W0.heap.size + 1 + 1 ≤ w2.heap.size := (by have := hb2.size; simpa using this); have HR := Lib.hid (show w2.heap[W0.heap.size]? = some (.cells (zeroInts 8) 3 (0, 0)) from block_below hb2 ((alloc_lt (by simp)).trans (alloc_at rfl)) (by simp; omega)); have HA := Lib.hid (show w2.heap[(W0.heap.size + 1)]? = some zobj from block_below hb2 (alloc_at (by simp)) (by simp)); have lA := (Array.getElem?_eq_some_iff.1 HA.out).1; have c0 : w2.cell? ⟨(W0.heap.size + 1), 0, none⟩ = some (.slice none 0 0) := cell_block HA.out 0; have f0 := free_block HA.out 0; have c1 : w2.cell? ⟨(W0.heap.size + 1), 1, none⟩ = some (.int .i64 0) := cell_block HA.out 1; have f1 := free_block HA.out 1; have c2 : w2.cell? ⟨(W0.heap.size + 1), 2, none⟩ = some (.int .i64 0) := cell_block HA.out 2; have f2 := free_block HA.out 2; have c3 : w2.cell? ⟨(W0.heap.size + 1), 3, none⟩ = some (.bool false) := cell_block HA.out 3; have f3 := free_block HA.out 3; have c4 : w2.cell? ⟨(W0.heap.size + 1), 4, none⟩ = some (.bool false) := cell_block HA.out 4; have f4 := free_block HA.out 4; have c5 : w2.cell? ⟨(W0.heap.size + 1), 5, none⟩ = some (.int .i64 0) := cell_block HA.out 5; have f5 := free_block HA.out 5; have c6 : w2.cell? ⟨(W0.heap.size + 1), 6, none⟩ = some (.int .i64 0) := cell_block HA.out 6; have f6 := free_block HA.out 6; have c7 : w2.cell? ⟨(W0.heap.size + 1), 7, none⟩ = some (.int .i64 0) := cell_block HA.out 7; have f7 := free_block HA.out 7; have c8 : w2.cell? ⟨(W0.heap.size + 1), 8, none⟩ = some (.slice none 0 0) := cell_block HA.out 8; have f8 := free_block HA.out 8; have c9 : w2.cell? ⟨(W0.heap.size + 1), 9, none⟩ = some (.slice none 0 0) := cell_block HA.out 9; have f9 := free_block HA.out 9; have c10 : w2.cell? ⟨(W0.heap.size + 1), 10, none⟩ = some (.int .i64 0) := cell_block HA.out 10; have f10 := free_block HA.out 10; have c11 : w2.cell? ⟨(W0.heap.size + 1), 11, none⟩ = some (.int .i64 0) := cell_block HA.out 11; have f11 := free_block HA.out 11; have GP := Lib.hid (show GPre w w2 (W0.heap.size + 1 + 1) a2 img.length cc2 img from ⟨block_below hb2 ((alloc_lt (by simp; omega)).trans ((alloc_lt s0).trans HX0.out)) (by simp; omega), ((HB0.out.drew.alloc (by simp; omega) _).alloc (by simp; omega) _).trans (hb2.mono (by simp; omega)), own_base hown2 (by simp; omega), (fun k h => (by have h' := hown2.lt k h; simpa using h')), s2, (by omega)⟩)) | (have s2 : W0.heap.size + 1 + 1 ≤ w2.heap.size := (by have := hb2.size; simpa using this); have HA := Lib.hid (show w2.heap[W0.heap.size]? = some zobj from block_below hb2 ((alloc_lt (by simp)).trans (alloc_at rfl)) (by simp; omega)); have lA := (Array.getElem?_eq_some_iff.1 HA.out).1; have c0 : w2.cell? ⟨W0.heap.size, 0, none⟩ = some (.slice none 0 0) := cell_block HA.out 0; have f0 := free_block HA.out 0; have c1 : w2.cell? ⟨W0.heap.size, 1, none⟩ = some (.int .i64 0) := cell_block HA.out 1; have f1 := free_block HA.out 1; have c2 : w2.cell? ⟨W0.heap.size, 2, none⟩ = some (.int .i64 0) := cell_block HA.out 2; have f2 := free_block HA.out 2; have c3 : w2.cell? ⟨W0.heap.size, 3, none⟩ = some (.bool false) := cell_block HA.out 3; have f3 := free_block HA.out 3; have c4 : w2.cell? ⟨W0.heap.size, 4, none⟩ = some (.bool false) := cell_block HA.out 4; have f4 := free_block HA.out 4; have c5 : w2.cell? ⟨W0.heap.size, 5, none⟩ = some (.int .i64 0) := cell_block HA.out 5; have f5 := free_block HA.out 5; have c6 : w2.cell? ⟨W0.heap.size, 6, none⟩ = some (.int .i64 0) := cell_block HA.out 6; have f6 := free_block HA.out 6; have c7 : w2.cell? ⟨W0.heap.size, 7, none⟩ = some (.int .i64 0) := cell_block HA.out 7; have f7 := free_block HA.out 7; have c8 : w2.cell? ⟨W0.heap.size, 8, none⟩ = some (.slice none 0 0) := cell_block HA.out 8; have f8 := free_block HA.out 8; have c9 : w2.cell? ⟨W0.heap.size, 9, none⟩ = some (.slice none 0 0) := cell_block HA.out 9; have f9 := free_block HA.out 9; have c10 : w2.cell? ⟨W0.heap.size, 10, none⟩ = some (.int .i64 0) := cell_block HA.out 10; have f10 := free_block HA.out 10; have c11 : w2.cell? ⟨W0.heap.size, 11, none⟩ = some (.int .i64 0) := cell_block HA.out 11; have f11 := free_block HA.out 11; have HR := Lib.hid (show w2.heap[(W0.heap.size + 1)]? = some (.cells (zeroInts 8) 3 (0, 0)) from block_below hb2 (alloc_at (by simp)) (by simp)); have GP := Lib.hid (show GPre w w2 (W0.heap.size + 1 + 1) a2 img.length cc2 img from ⟨block_below hb2 ((alloc_lt (by simp; omega)).trans ((alloc_lt s0).trans HX0.out)) (by simp; omega), ((HB0.out.drew.alloc (by simp; omega) _).alloc (by simp; omega) _).trans (hb2.mono (by simp; omega)), own_base hown2 (by simp; omega), (fun k h => (by have h' := hown2.lt k h; simpa using h')), s2, (by omega)⟩)) | (have s2 : W0.heap.size + 1 ≤ w2.heap.size := (by have := hb2.size; simpa using this); have HR := Lib.hid (show w2.heap[W0.heap.size]? = some (.cells (zeroInts 8) 3 (0, 0)) from block_below hb2 (alloc_at rfl) (by simp)); have GP := Lib.hid (show GPre w w2 (W0.heap.size + 1) a2 img.length cc2 img from ⟨block_below hb2 ((alloc_lt s0).trans HX0.out) (by simp; omega), (HB0.out.drew.alloc (by simp; omega) _).trans (hb2.mono (by simp; omega)), own_base hown2 (by simp; omega), (fun k h => (by have h' := hown2.lt k h; simpa using h')), s2, (by omega)⟩)) | (have s2 : W0.heap.size + 1 ≤ w2.heap.size := (by have := hb2.size; simpa using this); have HA := Lib.hid (show w2.heap[W0.heap.size]? = some zobj from block_below hb2 (alloc_at rfl) (by simp)); have lA := (Array.getElem?_eq_some_iff.1 HA.out).1; have c0 : w2.cell? ⟨W0.heap.size, 0, none⟩ = some (.slice none 0 0) := cell_block HA.out 0; have f0 := free_block HA.out 0; have c1 : w2.cell? ⟨W0.heap.size, 1, none⟩ = some (.int .i64 0) := cell_block HA.out 1; have f1 := free_block HA.out 1; have c2 : w2.cell? ⟨W0.heap.size, 2, none⟩ = some (.int .i64 0) := cell_block HA.out 2; have f2 := free_block HA.out 2; have c3 : w2.cell? ⟨W0.heap.size, 3, none⟩ = some (.bool false) := cell_block HA.out 3; have f3 := free_block HA.out 3; have c4 : w2.cell? ⟨W0.heap.size, 4, none⟩ = some (.bool false) := cell_block HA.out 4; have f4 := free_block HA.out 4; have c5 : w2.cell? ⟨W0.heap.size, 5, none⟩ = some (.int .i64 0) := cell_block HA.out 5; have f5 := free_block HA.out 5; have c6 : w2.cell? ⟨W0.heap.size, 6, none⟩ = some (.int .i64 0) := cell_block HA.out 6; have f6 := free_block HA.out 6; have c7 : w2.cell? ⟨W0.heap.size, 7, none⟩ = some (.int .i64 0) := cell_block HA.out 7; have f7 := free_block HA.out 7; have c8 : w2.cell? ⟨W0.heap.size, 8, none⟩ = some (.slice none 0 0) := cell_block HA.out 8; have f8 := free_block HA.out 8; have c9 : w2.cell? ⟨W0.heap.size, 9, none⟩ = some (.slice none 0 0) := cell_block HA.out 9; have f9 := free_block HA.out 9; have c10 : w2.cell? ⟨W0.heap.size, 10, none⟩ = some (.int .i64 0) := cell_block HA.out 10; have f10 := free_block HA.out 10; have c11 : w2.cell? ⟨W0.heap.size, 11, none⟩ = some (.int .i64 0) := cell_block HA.out 11; have f11 := free_block HA.out 11; have GP := Lib.hid (show GPre w w2 (W0.heap.size + 1) a2 img.length cc2 img from ⟨block_below hb2 ((alloc_lt s0).trans HX0.out) (by simp; omega), (HB0.out.drew.alloc (by simp; omega) _).trans (hb2.mono (by simp; omega)), own_base hown2 (by simp; omega), (fun k h => (by have h' := hown2.lt k h; simpa using h')), s2, (by omega)⟩)) | (have s2 : W0.heap.size ≤ w2.heap.size := (by have := hb2.size; simpa using this); have GP := Lib.hid (show GPre w w2 W0.heap.size a2 img.length cc2 img from ⟨block_below hb2 (HX0.out) (by simp; omega), HB0.out.drew.trans (hb2.mono (by simp; omega)), own_base hown2 (by simp; omega), (fun k h => (by have h' := hown2.lt k h; simpa using h')), s2, (by omega)⟩)))))
    all_goals (go_wp2_with fail; go_meet)
    · exact ⟨_, _, a2, cc2, rfl, gclose1 GP.out HR.out (by omega) (by omega)⟩
    · exact ⟨_, _, a2, cc2, rfl, gclose2 GP.out HR.out HA.out (by omega) (by omega) (by omega) (by omega)⟩
    · exact ⟨_, _, a2, cc2, rfl, gclose3 GP.out⟩
    · exact ⟨_, _, a2, cc2, rfl, gclose4 GP.out⟩
    · exact ⟨_, _, a2, cc2, rfl, gclose2 GP.out HR.out HA.out (by omega) (by omega) (by omega) (by omega)⟩
    · exact ⟨_, _, a2, cc2, rfl, gclose6 GP.out HA.out (by omega) (by omega)⟩
  case rest =>
    obtain ⟨gb, gr, a2, c2, rfl, hG⟩ := hcut
    have HG := Lib.hid (show GInv w gb gr a2 img.length c2 (img ++ List.replicate (img.length - img.length) 0) wc by simpa using hG)
    clear hG HV H2 HB0 HX0 s0 hmk8
    go_wp2
    go_loopg [17] 256 (fun gg _ wr => ∃ (n : Nat) (a : Option Addr) (c : Nat), img.length ≤ n ∧ n ≤ 256 ∧ 256 - n ≤ gg ∧ GInv w gb gr a n c (img ++ List.replicate (n - img.length) 0) wr)
    case atStart => exact ⟨img.length, a2, c2, Nat.le_refl _, h1, by omega, HG.out⟩
    case round =>
      obtain ⟨n, a3, c3, hn1, hn2, hgg, hG⟩ := hrel
      by_cases hlt : n < 256
      · have e8 : wr.cell? ⟨gb, 8, none⟩ = some (.slice a3 n c3) := cell_block hG.y 8
        have lgb : gb < wr.heap.size := (Array.getElem?_eq_some_iff.1 hG.y).1
        have hwb : w.heap.size ≤ wr.heap.size := hG.b.size
        have hm := hG.m
        have HY := Lib.hid hG.y
        have HM := Lib.hid hm
        have HGG := Lib.hid hG
        obtain ⟨i0, hi0, hz0, hz1, hz2⟩ := info_parts info_int
        clear hm hG
        have hlt' : (n : Int) < 256 := by omega
        go_wp2_with (at_builtin; go_loud (refine wpList_append_lies _ rfl (.tmp 22) (.tmp 23) 22 rfl w.heap.size 3 i0 (.int .i64 0) 1 8 Tryd.underlying22 hi0 hz0 hz1 hz2 rfl (by decide) (.slice a3 n c3) n _ (by rfl) (HM.out.alloc _) ⟨wr.heap.size, 0, none⟩ 1 1 [.int .i64 0] (by rfl) rfl (World.news_of_block (heap_alloc_new wr _)) (by simp [Value.oneCell']) (by omega) (by unfold maxLen; omega) (by omega) (by simp; omega) _ rfl ?_); intro g4 cp4 w4 hown4 hgrow4 hat4 hlt4; have HG4 := Lib.hid (block_grown hgrow4 ((alloc_lt lgb).trans HY.out) (own_ne_block HM.out HY.out (by decide))); have eb4 : w4.cell? ⟨gb, 8, none⟩ = some (.slice a3 n c3) := cell_block HG4.out 8; have fb4 := free_block HG4.out 8)
        go_roundg (256 - (n + 1))
        case measure => omega
        case rel => exact ⟨n + 1, _, _, by omega, by omega, by omega, by
          have hs := ginv_step (O := .cells #[.int .i64 0] 3) rfl HGG.out (by simpa using hown4) hgrow4 hat4
          rw [List.append_assoc, ← List.replicate_succ'] at hs
          rw [show n + 1 - img.length = n - img.length + 1 by omega]
          exact hs⟩
      · obtain rfl : n = 256 := by omega
        have hS := hG.own h1
        have r0 : wr.cell? ⟨w.heap.size, 0, none⟩ = some (.slice none 0 0) := cell_block hG.x 0
        have f0 := free_block hG.x 0
        have r1 : wr.cell? ⟨w.heap.size, 1, none⟩ = some (.int .i64 0) := cell_block hG.x 1
        have f1 := free_block hG.x 1
        have r2 : wr.cell? ⟨w.heap.size, 2, none⟩ = some (.int .i64 0) := cell_block hG.x 2
        have f2 := free_block hG.x 2
        have r3 : wr.cell? ⟨w.heap.size, 3, none⟩ = some (.bool false) := cell_block hG.x 3
        have f3 := free_block hG.x 3
        have r4 : wr.cell? ⟨w.heap.size, 4, none⟩ = some (.bool false) := cell_block hG.x 4
        have f4 := free_block hG.x 4
        have r5 : wr.cell? ⟨w.heap.size, 5, none⟩ = some (.int .i64 0) := cell_block hG.x 5
        have f5 := free_block hG.x 5
        have r6 : wr.cell? ⟨w.heap.size, 6, none⟩ = some (.int .i64 0) := cell_block hG.x 6
        have f6 := free_block hG.x 6
        have r7 : wr.cell? ⟨w.heap.size, 7, none⟩ = some (.int .i64 0) := cell_block hG.x 7
        have f7 := free_block hG.x 7
        have r8 : wr.cell? ⟨w.heap.size, 8, none⟩ = some (.slice none 0 0) := cell_block hG.x 8
        have f8 := free_block hG.x 8
        have r9 : wr.cell? ⟨w.heap.size, 9, none⟩ = some (.slice none 0 0) := cell_block hG.x 9
        have f9 := free_block hG.x 9
        have r10 : wr.cell? ⟨w.heap.size, 10, none⟩ = some (.int .i64 0) := cell_block hG.x 10
        have f10 := free_block hG.x 10
        have r11 : wr.cell? ⟨w.heap.size, 11, none⟩ = some (.int .i64 0) := cell_block hG.x 11
        have f11 := free_block hG.x 11
        have q0 : wr.cell? ⟨gb, 0, none⟩ = some (.slice (some ⟨gr, 0, none⟩) 8 8) := cell_block hG.y 0
        have q1 : wr.cell? ⟨gb, 1, none⟩ = some (.int .i64 0) := cell_block hG.y 1
        have q2 : wr.cell? ⟨gb, 2, none⟩ = some (.int .i64 0) := cell_block hG.y 2
        have q3 : wr.cell? ⟨gb, 3, none⟩ = some (.bool false) := cell_block hG.y 3
        have q4 : wr.cell? ⟨gb, 4, none⟩ = some (.bool false) := cell_block hG.y 4
        have q5 : wr.cell? ⟨gb, 5, none⟩ = some (.int .i64 (-1)) := cell_block hG.y 5
        have q6 : wr.cell? ⟨gb, 6, none⟩ = some (.int .i64 0) := cell_block hG.y 6
        have q7 : wr.cell? ⟨gb, 7, none⟩ = some (.int .i64 0) := cell_block hG.y 7
        have q8 : wr.cell? ⟨gb, 8, none⟩ = some (.slice a3 256 c3) := cell_block hG.y 8
        have q9 : wr.cell? ⟨gb, 9, none⟩ = some (.slice none 0 0) := cell_block hG.y 9
        have q10 : wr.cell? ⟨gb, 10, none⟩ = some (.int .i64 0) := cell_block hG.y 10
        have q11 : wr.cell? ⟨gb, 11, none⟩ = some (.int .i64 (-1)) := cell_block hG.y 11
        have HS := Lib.hid hS
        clear hS hG HG
        go_wp2
        refine bodyPost_ret (v := .tuple #[(imageM img).agg (.slice (some ⟨gr, 0, none⟩) 8 8) (.slice a3 256 c3) (.slice none 0 0), .int .i64 0]) ?_ rfl ?_
        · simp [results, Tryd.results48, go_sem, Mach.agg, imageM, r0, r1, r2, r3, r4, r5, r6, r7, r8, r9, r10, r11]
        · have l1 : (imageM img).regs.length = 8 := by simp [imageM]
          have l2 := image_len img h1
          refine SInv.post' (g := w.heap.size) l1.symm l2.symm rfl ?_
          repeat' (refine SInv.step (Nat.le_refl _) _ _ ?_)
          exact HS.out
end Go.Proofs.YtenicnneppgfmaaDoor
