/- The contract of the reference's FramesCopy: frames whose memory is the call's own. No condition. -/
import Derived.Test.YtfgiiaaghllfcaaFc
namespace Go.Proofs.Ytfgiiaaghllfcaa
open Go Go.RowKit Go.ChangeShapes Go.WideShapes Go.Deep
set_option linter.unusedVariables false
attribute [local go_sem ↓] Go.wp_at_zero Go.wp_at_succ

/-- What holds ahead of round k: the frames' box at block B0, the argument's box at block B0 - 2. -/
def DLoop (w : World) (ad : Option Addr) (cd : Nat) (ar : Option Addr) (cr : Nat) (rs : List (List Int)) (zs : List Int) (g : Nat) (vr : Value) (k : Nat) (wr : World) : Prop := ∃ (vd : Value) (vs : List Value), vs.length = k ∧ w.heap.size + 1 < g ∧
  wr.heap[w.heap.size]? = some (.cells #[.slice ad rs.length cd, .slice ar zs.length cr] 28 (0, 0)) ∧ wr.heap[w.heap.size + 1]? = some (.cells #[.slice none 0 0, .slice none 0 0] 28 (0, 0)) ∧
  wr.heap[g]? = some (.cells #[vd, vr] 28 (0, 0)) ∧
  wr.ownsRow w.heap.size 24 1 vd k vs ∧ wr.ownsRow w.heap.size 3 1 vr zs.length (zs.map (Value.int .i64)) ∧ RowsOwn w.heap.size wr vr rs k vs ∧ Below w.heap.size w wr

theorem dloop_step {w wr wr' w3 w4 : World} {ad : Option Addr} {cd : Nat} {ar : Option Addr} {cr : Nat} {rs : List (List Int)} {zs : List Int} {g : Nat} {vr : Value} {k : Nat} {vs : List Value} {row : List Int} {adk b1 : Option Addr} {cdk d1 g4 cp4 : Nat}
    (hd : wr' = wr.drew) (hrow : rs.getD k [] = row) (hk : k < rs.length) (hl : vs.length = k) (hgw : w.heap.size + 1 < g)
    (hx : wr.heap[w.heap.size]? = some (.cells #[.slice ad rs.length cd, .slice ar zs.length cr] 28 (0, 0))) (hy : wr.heap[w.heap.size + 1]? = some (.cells #[.slice none 0 0, .slice none 0 0] 28 (0, 0)))
    (hbox : wr.heap[g]? = some (.cells #[.slice adk k cdk, vr] 28 (0, 0))) (hdo : wr.ownsRow w.heap.size 24 1 (.slice adk k cdk) k vs) (hr : wr.ownsRow w.heap.size 3 1 vr zs.length (zs.map (Value.int .i64)))
    (hrows : RowsOwn w.heap.size wr vr rs k vs) (hb : Below w.heap.size w wr)
    (own1 : w3.ownsRow wr'.heap.size 3 1 (.slice b1 row.length d1) row.length (row.map (Value.int .i64))) (k1 : Below wr'.heap.size wr' w3)
    (own4 : w4.ownsRow w.heap.size 24 1 (.slice (some ⟨g4, 0, none⟩) (k + 1) cp4) (k + 1) (vs ++ [.slice b1 row.length d1])) (hg4 : w3.grownBy w4 (Value.slice adk k cdk).ownBlock) :
    DLoop w ad cd ar cr rs zs g vr (k + 1) (w4.setCell ⟨g, 0, none⟩ (.slice (some ⟨g4, 0, none⟩) (k + 1) cp4)) := by
  subst hrow hd
  have s0 : wr.drew.heap.size = wr.heap.size := rfl
  have s1 := k1.size
  have s2 := hb.size
  rw [s0] at s1 own1 k1
  have x3 := block_below k1 hx (Array.getElem?_eq_some_iff.1 hx).1
  have y3 := block_below k1 hy (Array.getElem?_eq_some_iff.1 hy).1
  have b3 := block_below k1 hbox (Array.getElem?_eq_some_iff.1 hbox).1
  have do3 := own_below (w := wr.drew) hdo k1 (Nat.le_refl _)
  have x4 := block_grown hg4 x3 (own_ne_block do3 x3 (by decide))
  have y4 := block_grown hg4 y3 (own_ne_block do3 y3 (by decide))
  have b4 := block_grown hg4 b3 (own_ne_block do3 b3 (by decide))
  have step : ∀ {v : Value} {n : Nat} {xs : List Value}, wr.ownsRow w.heap.size 3 1 v n xs → (w4.setCell ⟨g, 0, none⟩ (.slice (some ⟨g4, 0, none⟩) (k + 1) cp4)).ownsRow w.heap.size 3 1 v n xs := fun h => by
    have h3 := own_below (w := wr.drew) h k1 (Nat.le_refl _)
    have h4 := h3.kept hg4 (own_ne h3 do3 (by decide))
    exact own_set h4 (own_ne_block h4 b4 (by decide)) _
  have n3 := own_base own1 (b' := w.heap.size) (by omega)
  have n4 := n3.kept hg4 (own_ne n3 do3 (by decide))
  have n5 := own_set (g := g) (i := 0) n4 (own_ne_block n4 b4 (by decide)) (.slice (some ⟨g4, 0, none⟩) (k + 1) cp4)
  have getk : (vs ++ [Value.slice b1 (rs.getD k []).length d1]).getD k undef = .slice b1 (rs.getD k []).length d1 := by simp [List.getD, ← hl]
  have getj : ∀ j, j < k → (vs ++ [Value.slice b1 (rs.getD k []).length d1]).getD j undef = vs.getD j undef := fun j hj => by simp [List.getD, List.getElem?_append_left (show j < vs.length by omega)]
  refine ⟨_, vs ++ [.slice b1 (rs.getD k []).length d1], by simp [hl], hgw, set_block_ne x4 (by omega) _, set_block_ne y4 (by omega) _, set_block b4 _, own_set own4 (own_ne_block own4 b4 (by decide)) _, step hr, ?_, ?_⟩
  · intro j hj
    by_cases hjk : j = k
    · subst hjk
      rw [getk]
      have A1 := apart_of (w := wr.drew) hr own1 (Nat.le_refl _)
      refine ⟨n5, A1.2, A1.1, fun i hi hij => ?_⟩
      rw [getj i (by omega)]
      exact (apart_of (w := wr.drew) (hrows i (by omega)).1 own1 (Nat.le_refl _)).2
    · obtain ⟨q1, q2, q3, q4⟩ := hrows j (by omega)
      rw [getj j (by omega)]
      refine ⟨step q1, q2, q3, fun i hi hij => ?_⟩
      by_cases hik : i = k
      · subst hik
        rw [getk]
        exact (apart_of (w := wr.drew) q1 own1 (Nat.le_refl _)).1
      · rw [getj i (by omega)]
        exact q4 i (by omega) hij
  · exact (below_grown (hb.drew.trans (k1.mono s2)) do3 hg4 (by omega) (Nat.le_refl _)).setCell (by simp; omega) _

set_option maxHeartbeats 4000000 in
set_option maxRecDepth 100000 in
theorem fcopyRef_any (v : Value) (rs : List (List Int)) (zs : List Int) (w : World) (hf : FramesR w.heap.size w v rs zs) : Calls Try.prog 61 #[v] w (FCopyPost w rs zs) := by
  obtain ⟨vd, vr, rfl, hd, hr⟩ := hf
  obtain ⟨ad, cd, rfl, hlen, _, hcd⟩ := hd
  obtain ⟨ar, cr, hvr, _⟩ := id hr
  subst hvr
  have HD := Lib.hid hcd
  have HR := Lib.hid hr
  clear hcd hr
  go_enter Try.func61, Try.ntmps61
  go_wp2_with fail
  refine (wordsI_any _ zs _ (HR.out.to (by simp; omega) (same_below (below_alloc2 _ _ _)))).mono ?_
  rintro e w1 ⟨a1, c1, rfl, hown1, hb1⟩
  have s1 := hb1.size
  simp only [World.size_alloc] at s1
  have hx := block_below hb1 ((alloc_lt (by simp)).trans (alloc_at rfl)) (g := w.heap.size) (by simp; omega)
  have hy := block_below hb1 (alloc_at (by simp)) (g := w.heap.size + 1) (by simp)
  have hg1 : w.heap.size + 1 < w1.heap.size := by omega
  have hloop : DLoop w ad cd ar cr rs zs w1.heap.size (.slice a1 zs.length c1) 0 (w1.alloc (.cells #[.slice none 0 0, .slice a1 zs.length c1] 28)) :=
    ⟨.slice none 0 0, [], rfl, hg1, (alloc_lt (by omega)).trans hx, (alloc_lt (by omega)).trans hy, alloc_at rfl, World.ownsRow_nil _ _ _ _, (own_base hown1 (by simp; omega)).alloc _, fun j hj => absurd hj (Nat.not_lt_zero _), ((below_alloc2 _ _ _).trans (hb1.mono (by simp; omega))).alloc (by omega) _⟩
  have hws : w.heap.size < w1.heap.size := by omega
  have q0 : w1.cell? ⟨w.heap.size, 0, none⟩ = some (.slice ad rs.length cd) := cell_block hx 0
  have HB1 := Lib.hid hb1
  clear hown1 hx hy hb1
  go_wp2
  generalize hW2 : w1.alloc _ = W2 at hloop ⊢
  generalize hG : w1.heap.size = g at hloop ⊢
  clear hW2 hG q0 hg1 hws s1 HB1
  go_loopw [4] (fun i wr => ∃ k : Nat, k ≤ rs.length ∧ i = .int .i64 k ∧ DLoop w ad cd ar cr rs zs g (.slice a1 zs.length c1) k wr) (fun i _ => rs.length - (intOf i).toNat)
  case atStart => exact ⟨0, Nat.zero_le _, rfl, hloop⟩
  case round =>
    obtain ⟨k, hk, rfl, hrel⟩ := hrel
    have HREL := Lib.hid hrel
    obtain ⟨vdk, vs, hl, hgw, hx, hy, hbox, hd, hr, hrows, hb⟩ := hrel
    have e0 : wr.cell? ⟨w.heap.size, 0, none⟩ = some (.slice ad rs.length cd) := cell_block hx 0
    obtain ⟨adk, cdk, hvdk⟩ := own_shape hd
    subst hvdk
    have eb : wr.cell? ⟨g, 0, none⟩ = some (.slice adk k cdk) := cell_block hbox 0
    by_cases hlt : k < rs.length
    · obtain ⟨b, off, vi, had, hbb, hcell, hvi⟩ := HD.out k hlt
      subst had
      obtain ⟨ai, ci, hvv, _⟩ := id hvi
      subst hvv
      have ek : wr.cell? ⟨b, off + k, none⟩ = some (.slice ai rs[k].length ci) := (same_below hb b _ hbb).trans hcell
      have HRK := Lib.hid hvi
      have HX := Lib.hid hx
      have HY := Lib.hid hy
      have HBX := Lib.hid hbox
      have HDK := Lib.hid hd
      have HRR := Lib.hid hr
      have HRW := Lib.hid hrows
      have HLL := Lib.hid hl
      have HB := Lib.hid hb
      have hgs : g < wr.heap.size := (Array.getElem?_eq_some_iff.1 hbox).1
      have hws : w.heap.size < wr.heap.size := (Array.getElem?_eq_some_iff.1 hx).1
      clear hx hy hbox hd hr hrows hb hl hvi hcell hloop
      have hrow := getD_of hlt []
      generalize rs[k] = row at *
      have HROW := Lib.hid hrow
      clear hrow
      go_wp2_with fail
      go_region_law ((first
        | (go_simp; go_at_call 93; refine (wordsI_any _ row _ ?_).mono ?_; (exact HRK.out.to (by simp; omega) (same_below HB.out.drew)); rintro e w3 ⟨b1, d1, rfl, hown1, hb1⟩; have HX1 := Lib.hid (block_below hb1 HX.out (by simp; omega)); have HG1 := Lib.hid (block_below hb1 HBX.out (by simp; omega)); have e10 : w3.cell? ⟨w.heap.size, 0, none⟩ = some (.slice (some ⟨b, off, none⟩) rs.length cd) := cell_block HX1.out 0; have ek1 : w3.cell? ⟨b, off + k, none⟩ = some (.slice ai row.length ci) := (same_below hb1 _ _ (by simp; omega)).trans ek; have eb1 : w3.cell? ⟨g, 0, none⟩ = some (.slice adk k cdk) := cell_block HG1.out 0; have HD1 := Lib.hid (own_below (w := wr.drew) HDK.out hb1 (Nat.le_refl _)); have hs1 := hb1.size; have hgs1 : g < w3.heap.size := (Array.getElem?_eq_some_iff.1 HG1.out).1)
        | (refine step_push w3 rfl (.tmp 17) (.tmp 24) 26 rfl w.heap.size 24 (.slice none 0 0) 1 24 Try.underlying26 info_ints rfl (by decide) [.slice b1 row.length d1] rfl (by simp [Value.oneCell']) _ _ _ (by rfl) HD1.out (by rfl) (by simp) (by omega) (by omega) (by simp at hs1; omega) ?_; intro g4 cp4 w4 hown4 hgrow4; have HG4 := Lib.hid (block_grown hgrow4 HG1.out (own_ne_block HD1.out HG1.out (by decide))); have eb4 : w4.cell? ⟨g, 0, none⟩ = some (.slice adk k cdk) := cell_block HG4.out 0; have fb4 := free_block HG4.out 0)))
      all_goals go_wp2
      all_goals
        go_roundw
        case rel => exact ⟨k + 1, by omega, by go_num, dloop_step rfl HROW.out hlt HLL.out hgw HX.out HY.out HBX.out HDK.out HRR.out HRW.out HB.out hown1 hb1 hown4 hgrow4⟩
        case measure => simp [intOf]; omega
    · obtain rfl : k = rs.length := by omega
      have e1 : wr.cell? ⟨g, 1, none⟩ = some (.slice a1 zs.length c1) := cell_block hbox 1
      have r0 : wr.cell? ⟨w.heap.size + 1, 0, none⟩ = some (.slice none 0 0) := cell_block hy 0
      have r1 : wr.cell? ⟨w.heap.size + 1, 1, none⟩ = some (.slice none 0 0) := cell_block hy 1
      have g0 := free_block hy 0
      have g1 := free_block hy 1
      have hfin := Lib.hid (fcopy_fin hl hy hd hr hrows hb)
      clear hx hy hd hr hrows hb hl hbox hloop
      go_wp2
      exact bodyPost_ret (v := .agg #[.slice adk rs.length cdk, .slice a1 zs.length c1]) (by simp [results, Try.results61, go_sem, r0, r1]) rfl hfin.out
end Go.Proofs.Ytfgiiaaghllfcaa
