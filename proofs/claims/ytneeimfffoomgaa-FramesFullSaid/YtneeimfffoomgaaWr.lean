/- The contract of frames.Write. No condition. -/
import Derived.Test.YtneeimfffoomgaaTb
namespace Go.Proofs.Ytneeimfffoomgaa
open Go Go.RowKit Go.ChangeShapes Go.WideShapes Go.Deep
set_option linter.unusedVariables false
attribute [local go_sem ↓] Go.wp_at_zero Go.wp_at_succ

/-- How a writing is refused. -/
def WrNo (rs : List (List Int)) (zs : List Int) (n at_ c : Int) : Prop := (¬ FOk rs zs ∧ c = 8) ∨ (FOk rs zs ∧ ¬ Kn zs n ∧ c = 6) ∨ (FOk rs zs ∧ Kn zs n ∧ (at_ < 0 ∨ 16 ≤ at_) ∧ c = 2) ∨ (FOk rs zs ∧ Kn zs n ∧ 0 ≤ at_ ∧ at_ < 16 ∧ 1 < zs.getD n.toNat 0 ∧ Fz zs (-1) ∧ c = 7)

set_option maxHeartbeats 2000000 in
theorem write_no (v : Value) (rs : List (List Int)) (zs : List Int) (n at_ x c : Int) (w : World) (hf : FramesR w.heap.size w v rs zs) (h : (¬ FOk rs zs ∧ c = 8) ∨ (FOk rs zs ∧ ¬ Kn zs n ∧ c = 6)) : Calls Try.prog 26 #[v, .int .i64 n, .int .i64 at_, .int .i64 x] w (KnNoI w c) := by
  have HF := Lib.hid hf
  obtain ⟨a, c1, a', c2, hs⟩ := hf.shape
  subst hs
  clear hf
  have hcz : (c != 0) = true := by rw [bne_iff_ne]; rcases h with ⟨_, rfl⟩ | ⟨_, _, rfl⟩ <;> decide
  have HK := Lib.hid (fun w' (hf : FramesR w'.heap.size w' (.agg #[.slice a rs.length c1, .slice a' zs.length c2]) rs zs) => (show Calls Try.prog 47 #[.agg #[.slice a rs.length c1, .slice a' zs.length c2], .int .i64 n] w' (KnNo w' c) by
    rcases h with ⟨h, rfl⟩ | ⟨h, k, rfl⟩
    · exact known_bad _ rs zs n w' hf h
    · exact (known_ok _ rs zs n w' hf h).1 k))
  clear h
  go_enter Try.func26, Try.ntmps26
  go_wp2_with fail
  refine (HK.out _ (HF.out.to (by simp; omega) (same_below (below_alloc2 _ _ _)))).mono ?_
  rintro e w1 ⟨rfl, hb1⟩
  have s1 := hb1.size
  simp only [World.size_alloc] at s1
  have hB := (below_alloc2 w _ _).trans (hb1.mono (by simp; omega))
  have hx := block_below hb1 (g := w.heap.size) ((alloc_lt (by simp)).trans (alloc_at rfl)) (by simp; omega)
  have hy := block_below hb1 (g := w.heap.size + 1) (alloc_at (by simp)) (by simp)
  have q0 : w1.cell? ⟨w.heap.size, 0, none⟩ = some (.slice a rs.length c1) := cell_block hx 0
  have q1 : w1.cell? ⟨w.heap.size, 1, none⟩ = some (.slice a' zs.length c2) := cell_block hx 1
  have f0 := free_block hx 0
  have f1 := free_block hx 1
  have r0 : w1.cell? ⟨w.heap.size + 1, 0, none⟩ = some (.slice none 0 0) := cell_block hy 0
  have r1 : w1.cell? ⟨w.heap.size + 1, 1, none⟩ = some (.slice none 0 0) := cell_block hy 1
  have g0 := free_block hy 0
  have g1 := free_block hy 1
  have HBB := Lib.hid ((((hB.setCell (p := ⟨w.heap.size, 0, none⟩) (by simp) (.slice none 0 0)).setCell (p := ⟨w.heap.size, 1, none⟩) (by simp) (.slice none 0 0)).setCell (p := ⟨w.heap.size + 1, 0, none⟩) (by simp) (.slice none 0 0)).setCell (p := ⟨w.heap.size + 1, 1, none⟩) (by simp) (.slice none 0 0))
  clear hx hy hB hb1
  go_wp2
  exact bodyPost_ret (v := .tuple #[.agg #[.slice none 0 0, .slice none 0 0], .int .i64 0, .int .i64 c]) (by simp [results, Try.results26, go_sem, r0, r1]) rfl ⟨rfl, HBB.out⟩

set_option maxHeartbeats 2000000 in
theorem write_off (v : Value) (rs : List (List Int)) (zs : List Int) (n at_ x : Int) (w : World) (hf : FramesR w.heap.size w v rs zs) (hok : FOk rs zs) (hk : Kn zs n) (ho : at_ < 0 ∨ 16 ≤ at_) : Calls Try.prog 26 #[v, .int .i64 n, .int .i64 at_, .int .i64 x] w (KnNoI w 2) := by
  have HF := Lib.hid hf
  obtain ⟨a, c1, a', c2, hs⟩ := hf.shape
  subst hs
  clear hf
  have HK := Lib.hid (fun w' (hf : FramesR w'.heap.size w' (.agg #[.slice a rs.length c1, .slice a' zs.length c2]) rs zs) => (known_ok _ rs zs n w' hf hok).2 hk)
  clear hok hk
  have ho' : at_ < 0 ∨ (¬ at_ < 0 ∧ 16 ≤ at_) := by omega
  clear ho
  rcases ho' with ho | ⟨ho1, ho2⟩
  all_goals go_enter Try.func26, Try.ntmps26
  all_goals go_wp2_with fail
  all_goals refine (HK.out _ (HF.out.to (by simp; omega) (same_below (below_alloc2 _ _ _)))).mono ?_
  all_goals rintro e w1 ⟨ad, cd, ar, cr, vs, rfl, hown, hb1⟩
  all_goals have s1 := hb1.size
  all_goals simp only [World.size_alloc] at s1
  all_goals have hB := (below_alloc2 w _ _).trans (hb1.mono (by simp; omega))
  all_goals have hx := block_below hb1 (g := w.heap.size) ((alloc_lt (by simp)).trans (alloc_at rfl)) (by simp; omega)
  all_goals have hy := block_below hb1 (g := w.heap.size + 1) (alloc_at (by simp)) (by simp)
  all_goals have q0 : w1.cell? ⟨w.heap.size, 0, none⟩ = some (.slice a rs.length c1) := cell_block hx 0
  all_goals have q1 : w1.cell? ⟨w.heap.size, 1, none⟩ = some (.slice a' zs.length c2) := cell_block hx 1
  all_goals have f0 := free_block hx 0
  all_goals have f1 := free_block hx 1
  all_goals have r0 : w1.cell? ⟨w.heap.size + 1, 0, none⟩ = some (.slice none 0 0) := cell_block hy 0
  all_goals have r1 : w1.cell? ⟨w.heap.size + 1, 1, none⟩ = some (.slice none 0 0) := cell_block hy 1
  all_goals have g0 := free_block hy 0
  all_goals have g1 := free_block hy 1
  all_goals have HBB := Lib.hid ((((hB.setCell (p := ⟨w.heap.size, 0, none⟩) (by simp) (.slice ad rs.length cd)).setCell (p := ⟨w.heap.size, 1, none⟩) (by simp) (.slice ar zs.length cr)).setCell (p := ⟨w.heap.size + 1, 0, none⟩) (by simp) (.slice none 0 0)).setCell (p := ⟨w.heap.size + 1, 1, none⟩) (by simp) (.slice none 0 0))
  all_goals clear hx hy hB hb1 hown
  all_goals go_wp2
  all_goals exact bodyPost_ret (v := .tuple #[.agg #[.slice none 0 0, .slice none 0 0], .int .i64 0, .int .i64 2]) (by simp [results, Try.results26, go_sem, r0, r1]) rfl ⟨rfl, HBB.out⟩

/-- Frames of the call's own in a box g, beside the box of the result. -/
structure FBx (w : World) (g : Nat) (rs : List (List Int)) (zs : List Int) (vd vr : Value) (vs : List Value) (wx : World) : Prop where
  x : wx.heap[g]? = some (.cells #[vd, vr] 46 (0, 0))
  y : wx.heap[w.heap.size + 1]? = some (.cells #[.slice none 0 0, .slice none 0 0] 46 (0, 0))
  o : FrOwn w.heap.size wx vd vr rs zs vs
  b : Below w.heap.size w wx

theorem wr_open {w w1 : World} {rs : List (List Int)} {zs : List Int} {vs : List Value} {vd vr : Value} {O1 O2 : Obj} {vd0 vr0 : Value} (hO1 : O1 = .cells #[vd0, vr0] 46 (0, 0)) (hO2 : O2 = .cells #[.slice none 0 0, .slice none 0 0] 46 (0, 0))
    (hown : FrOwn ((w.alloc O1).alloc O2).heap.size w1 vd vr rs zs vs) (hb1 : Below ((w.alloc O1).alloc O2).heap.size ((w.alloc O1).alloc O2) w1) :
    FBx w w.heap.size rs zs vd vr vs ((w1.setCell ⟨w.heap.size, 0, none⟩ vd).setCell ⟨w.heap.size, 1, none⟩ vr) ∧ w1.heap[w.heap.size]? = some (.cells #[vd0, vr0] 46 (0, 0)) := by
  subst hO1 hO2
  have s1 := hb1.size
  simp only [World.size_alloc] at s1
  have hB := (below_alloc2 w (.cells #[vd0, vr0] 46 (0, 0)) (.cells #[.slice none 0 0, .slice none 0 0] 46 (0, 0))).trans (hb1.mono (by simp; omega))
  have hx := block_below hb1 (g := w.heap.size) ((alloc_lt (by simp)).trans (alloc_at rfl)) (by simp; omega)
  have hy := block_below hb1 (g := w.heap.size + 1) (alloc_at (by simp)) (by simp)
  refine ⟨⟨?_, set_block_ne (set_block_ne hy (by omega) _) (by omega) _, ((hown.base (b' := w.heap.size) (by simp; omega)).set (i := 0) hx (by decide) (by decide)).set (i := 1) (set_block hx _) (by decide) (by decide), (hB.setCell (by simp) _).setCell (by simp) _⟩, hx⟩
  simpa using set_block (i := 1) (set_block (i := 0) hx vd) vr

/-- The blocks of owned frames, and what they hold. -/
structure FAt (w : World) (rs : List (List Int)) (zs : List Int) (vs : List Value) (wx : World) (gd gr k : Nat) : Prop where
  cd : wx.cell? ⟨gd, k, none⟩ = some (vs.getD k undef)
  cr : wx.cell? ⟨gr, k, none⟩ = some (.int .i64 (zs.getD k 0))
  fd : wx.frozen? ⟨gd, k, none⟩ = false
  fr : wx.frozen? ⟨gr, k, none⟩ = false
  ld : gd < wx.heap.size
  lr : gr < wx.heap.size
  wd : w.heap.size ≤ gd
  wr : w.heap.size ≤ gr
  bd : ∃ cur, wx.heap[gd]? = some (.cells cur 24 (0, 0))
  br : ∃ cur, wx.heap[gr]? = some (.cells cur 3 (0, 0))

theorem FrOwn.at_ {w wx : World} {rs : List (List Int)} {zs : List Int} {vs : List Value} {ad ar : Option Addr} {cd cr k : Nat} (h : FrOwn w.heap.size wx (.slice ad rs.length cd) (.slice ar zs.length cr) rs zs vs) (hk : k < rs.length) (hz : k < zs.length) :
    ∃ gd gr, ad = some ⟨gd, 0, none⟩ ∧ ar = some ⟨gr, 0, none⟩ ∧ rs.length ≤ cd ∧ zs.length ≤ cr ∧ ∀ j, j < rs.length → j < zs.length → FAt w rs zs vs wx gd gr j := by
  obtain ⟨gd, curd, hgd, hbd, hblkd, hcd⟩ := own_some h.d (by omega)
  obtain ⟨gr, curr, hgr, hbr, hblkr, hcr⟩ := own_some h.r (by omega)
  subst hgd hgr
  have hd := h.d
  have hr := h.r
  refine ⟨gd, gr, rfl, rfl, hcd, hcr, fun j hj hj' => ⟨?_, ?_, hd.frozenAt j, hr.frozenAt j, (Array.getElem?_eq_some_iff.1 hblkd).1, (Array.getElem?_eq_some_iff.1 hblkr).1, hbd, hbr, ⟨_, hblkd⟩, ⟨_, hblkr⟩⟩⟩
  · have hjv : j < vs.length := by have := h.len; omega
    rw [hd.cellAt j (by omega), List.getElem?_eq_getElem hjv, ← getD_of hjv undef]
  · rw [hr.cellAt j (by omega), List.getElem?_map, List.getElem?_eq_getElem hj', ← getD_of hj' 0]; rfl

/-- A row of owned frames: its block, and what it holds. -/
theorem FrOwn.row_ {w wx : World} {rs : List (List Int)} {zs : List Int} {vs : List Value} {vd vr : Value} {k n : Nat} (h : FrOwn w.heap.size wx vd vr rs zs vs) (hk : k < rs.length) (h16 : (rs.getD k []).length = n) (hn : 0 < n) :
    ∃ gk ck, vs.getD k undef = .slice (some ⟨gk, 0, none⟩) n ck ∧ n ≤ ck ∧ gk < wx.heap.size ∧ w.heap.size ≤ gk ∧ (∃ cur, wx.heap[gk]? = some (.cells cur 3 (0, 0))) ∧ (∀ j, j < n → wx.cell? ⟨gk, j, none⟩ = some (.int .i64 ((rs.getD k []).getD j 0)) ∧ wx.frozen? ⟨gk, j, none⟩ = false) ∧ (∀ gr cr, vr = .slice (some ⟨gr, 0, none⟩) zs.length cr → gr ≠ gk) := by
  obtain ⟨q1, q2, q3, q4⟩ := h.rows k hk
  rw [h16] at q1
  obtain ⟨a, c, hv⟩ := own_shape q1
  rw [hv] at q1 q2
  obtain ⟨gk, cur, hg, hb, hblk, hc⟩ := own_some q1 hn
  subst hg
  refine ⟨gk, c, hv, hc, (Array.getElem?_eq_some_iff.1 hblk).1, hb, ⟨_, hblk⟩, fun j hj => ⟨?_, q1.frozenAt j⟩, ?_⟩
  · have hj' : j < (rs.getD k []).length := by omega
    rw [q1.cellAt j (by omega), List.getElem?_map, List.getElem?_eq_getElem hj', ← getD_of hj' 0]; rfl
  · intro gr cr e e'
    subst e e'
    rcases q2 with e | e <;> simp [Value.ownBlock] at e

theorem FBx.put {w wx : World} {g q i : Nat} {rs rs' : List (List Int)} {zs zs' : List Int} {vd vr u : Value} {vs vs' : List Value} {cur : Array Value} {t : TypeId} (h : FBx w g rs zs vd vr vs wx) (hq : wx.heap[q]? = some (.cells cur t (0, 0))) (ht : 46 ≠ t) (hw : w.heap.size ≤ q)
    (ho : FrOwn w.heap.size (wx.setCell ⟨q, i, none⟩ u) vd vr rs' zs' vs') : FBx w g rs' zs' vd vr vs' (wx.setCell ⟨q, i, none⟩ u) := by
  have ne : ∀ {p : Nat} {cs : Array Value}, wx.heap[p]? = some (.cells cs 46 (0, 0)) → p ≠ q := by
    intro p cs hp e
    subst e
    rw [hq] at hp
    simp only [Option.some.injEq, Obj.cells.injEq] at hp
    exact ht hp.2.1.symm
  exact ⟨set_block_ne h.x (ne h.x) _, set_block_ne h.y (ne h.y) _, ho, h.b.setCell (by simpa using hw) _⟩

theorem FBx.lt {w wx : World} {g : Nat} {rs : List (List Int)} {zs : List Int} {vd vr : Value} {vs : List Value} (h : FBx w g rs zs vd vr vs wx) : w.heap.size + 1 < wx.heap.size ∧ g < wx.heap.size := ⟨(Array.getElem?_eq_some_iff.1 h.y).1, (Array.getElem?_eq_some_iff.1 h.x).1⟩
theorem FBx.grown {w wx wy : World} {g : Nat} {rs : List (List Int)} {zs : List Int} {vd vr : Value} {vs : List Value} (h : FBx w g rs zs vd vr vs wx) (hb : Below wx.heap.size wx wy) : FBx w g rs zs vd vr vs wy :=
  ⟨block_below hb h.x h.lt.2, block_below hb h.y h.lt.1, h.o.grown hb, h.b.trans (hb.mono h.b.size)⟩

/-- The frames of box g are handed back with a place. -/
theorem FBx.fin {w wx : World} {g n m : Nat} {rs : List (List Int)} {zs : List Int} {ad ar : Option Addr} {cd cr : Nat} {vs : List Value} (i : Int) (hn : n = rs.length) (hm : m = zs.length) (h : FBx w g rs zs (.slice ad n cd) (.slice ar m cr) vs wx) :
    FrYesI w i rs zs (.returned (.tuple #[.agg #[.slice ad n cd, .slice ar m cr], .int .i64 i, .int .i64 0])) ((wx.setCell ⟨w.heap.size + 1, 0, none⟩ (.slice ad n cd)).setCell ⟨w.heap.size + 1, 1, none⟩ (.slice ar m cr)) := by
  subst hn hm
  exact ⟨ad, cd, ar, cr, vs, rfl, (h.o.set (i := 0) h.y (by decide) (by decide)).set (i := 1) (set_block h.y _) (by decide) (by decide), (h.b.setCell (by simp) _).setCell (by simp) _⟩
end Go.Proofs.Ytneeimfffoomgaa
