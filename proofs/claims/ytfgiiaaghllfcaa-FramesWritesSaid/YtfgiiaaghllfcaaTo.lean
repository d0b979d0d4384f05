/- The contract of the reference's TakenOf. No condition. -/
import Derived.Test.YtfgiiaaghllfcaaTk
import Derived.Deep.AppendLies
import Derived.IntWalk
namespace Go.Proofs.Ytfgiiaaghllfcaa
open Go Go.RowKit Go.ChangeShapes Go.WideShapes Go.Deep
set_option linter.unusedVariables false
attribute [local go_sem ↓] Go.wp_at_zero Go.wp_at_succ

set_option maxHeartbeats 2000000 in
theorem takenOf_bad (v : Value) (rs : List (List Int)) (zs : List Int) (w : World) (hf : FramesR w.heap.size w v rs zs) (hok : ¬ FOk rs zs) : Calls Try.prog 65 #[v] w (KnNoI w 8) := by
  have HF := Lib.hid hf
  obtain ⟨a, c1, a', c2, hs⟩ := hf.shape
  subst hs
  clear hf
  go_enter Try.func65, Try.ntmps65
  go_wp2_with fail
  refine (fmay_any _ rs zs _ (HF.out.to (by simp; omega) (same_below (below_alloc2 _ _ _)))).mono ?_
  rintro e w1 ⟨⟨hno, rfl⟩ | ⟨_, rfl⟩, hb1⟩
  · exact absurd hno hok
  have hB := (below_alloc2 w _ _).trans (hb1.mono (by simp; omega))
  have hy := block_below hb1 (g := w.heap.size + 1) (alloc_at (by simp)) (by simp)
  have r0 : w1.cell? ⟨w.heap.size + 1, 0, none⟩ = some (.slice none 0 0) := cell_block hy 0
  have r1 : w1.cell? ⟨w.heap.size + 1, 1, none⟩ = some (.slice none 0 0) := cell_block hy 1
  have g0 := free_block hy 0
  have g1 := free_block hy 1
  have HBB := Lib.hid ((hB.setCell (p := ⟨w.heap.size + 1, 0, none⟩) (by simp) (.slice none 0 0)).setCell (p := ⟨w.heap.size + 1, 1, none⟩) (by simp) (.slice none 0 0))
  clear hy hB hb1
  go_wp2
  exact bodyPost_ret (v := .tuple #[.agg #[.slice none 0 0, .slice none 0 0], .int .i64 0, .int .i64 8]) (by simp [results, Try.results65, go_sem, r0, r1]) rfl ⟨rfl, HBB.out⟩

set_option maxHeartbeats 2000000 in
theorem takenOf_full (v : Value) (rs : List (List Int)) (zs : List Int) (w : World) (hf : FramesR w.heap.size w v rs zs) (hok : FOk rs zs) (hz : Fz zs (-1)) : Calls Try.prog 65 #[v] w (KnNoI w 7) := by
  have HF := Lib.hid hf
  obtain ⟨a, c1, a', c2, hs⟩ := hf.shape
  subst hs
  have HZ := Lib.hid hz
  clear hf hz
  go_enter Try.func65, Try.ntmps65
  go_wp2_with fail
  refine (fmay_any _ rs zs _ (HF.out.to (by simp; omega) (same_below (below_alloc2 _ _ _)))).mono ?_
  rintro e w1 ⟨⟨_, rfl⟩ | ⟨hno, rfl⟩, hb1⟩
  rotate_left
  · exact absurd hok hno
  have s1 := hb1.size
  simp only [World.size_alloc] at s1
  have hB := (below_alloc2 w _ _).trans (hb1.mono (by simp; omega))
  have hx := block_below hb1 (g := w.heap.size) ((alloc_lt (by simp)).trans (alloc_at rfl)) (by simp; omega)
  have hy := block_below hb1 (g := w.heap.size + 1) (alloc_at (by simp)) (by simp)
  have q0 : w1.cell? ⟨w.heap.size, 0, none⟩ = some (.slice a rs.length c1) := cell_block hx 0
  have q1 : w1.cell? ⟨w.heap.size, 1, none⟩ = some (.slice a' zs.length c2) := cell_block hx 1
  have HY := Lib.hid hy
  have HB := Lib.hid hB
  clear hx hy hB hb1
  go_wp2_with fail
  refine (firstFree_any _ rs zs (-1) HZ.out _ (HF.out.to (by omega) (same_below HB.out))).mono ?_
  rintro e w2 ⟨rfl, hb2⟩
  have hy2 := block_below hb2 HY.out (by omega)
  have r0 : w2.cell? ⟨w.heap.size + 1, 0, none⟩ = some (.slice none 0 0) := cell_block hy2 0
  have r1 : w2.cell? ⟨w.heap.size + 1, 1, none⟩ = some (.slice none 0 0) := cell_block hy2 1
  have g0 := free_block hy2 0
  have g1 := free_block hy2 1
  have HBB := Lib.hid (((HB.out.trans (hb2.mono (by omega))).setCell (p := ⟨w.heap.size + 1, 0, none⟩) (by simp) (.slice none 0 0)).setCell (p := ⟨w.heap.size + 1, 1, none⟩) (by simp) (.slice none 0 0))
  clear hy2 hb2
  go_wp2
  exact bodyPost_ret (v := .tuple #[.agg #[.slice none 0 0, .slice none 0 0], .int .i64 0, .int .i64 7]) (by simp [results, Try.results65, go_sem, r0, r1]) rfl ⟨rfl, HBB.out⟩

/-- A row of owned frames has grown by an append, and is put back. -/
theorem FrOwn.regrow {base gd c k : Nat} {W1 W4 : World} {vr u : Value} {rs : List (List Int)} {zs row : List Int} {vs : List Value} (h : FrOwn base W1 (.slice (some ⟨gd, 0, none⟩) rs.length c) vr rs zs vs) (hk : k < rs.length)
    (hg : W1.grownBy W4 (vs.getD k undef).ownBlock) (hu : W4.ownsRow base 3 1 u row.length (row.map (Value.int .i64))) (hat : u.ownBlock = (vs.getD k undef).ownBlock ∨ ∃ g, u.ownBlock = some g ∧ W1.heap.size ≤ g) :
    FrOwn base (W4.setCell ⟨gd, k, none⟩ u) (.slice (some ⟨gd, 0, none⟩) rs.length c) vr (rs.set k row) zs (vs.set k u) := by
  obtain ⟨gd', cur, hgd', hbg, hblk, _⟩ := own_some h.d (by omega)
  simp only [Option.some.injEq, Addr.mk.injEq, and_true] at hgd'
  subst hgd'
  have hl := h.len
  obtain ⟨p1, p2, p3, p4⟩ := h.rows k hk
  generalize hv : vs.getD k undef = v at *
  have hblk4 := block_grown hg hblk (own_ne_block p1 hblk (by decide))
  have keep : ∀ {x : Value} {n : Nat} {xs : List Value}, W1.ownsRow base 3 1 x n xs → Apart x v → (W4.setCell ⟨gd, k, none⟩ u).ownsRow base 3 1 x n xs := fun h ha => own_set (h.kept hg ha) (own_ne_block (h.kept hg ha) hblk4 (by decide)) _
  have ap : ∀ {x : Value} {n : Nat} {xs : List Value} {e : TypeId}, W1.ownsRow base e 1 x n xs → Apart v x → Apart x v → Apart u x ∧ Apart x u := by
    intro x n xs e hx a1 a2
    rcases hat with e | ⟨g, e, hle⟩
    · unfold Apart at *
      rw [e]
      exact ⟨a1, a2⟩
    · unfold Apart
      rw [e]
      cases ex : x.ownBlock with
      | none => exact ⟨Or.inr (by simp), Or.inl rfl⟩
      | some q =>
        have := (hx.lt q ex).2
        exact ⟨Or.inr (by simp; omega), Or.inr (by simp; omega)⟩
  have getk : (vs.set k u).getD k undef = u := by simp [List.getD, hl, hk]
  have getj : ∀ j, j ≠ k → (vs.set k u).getD j undef = vs.getD j undef := fun j hj => by simp [List.getD, Ne.symm hj]
  have rowk : (rs.set k row).getD k [] = row := by simp [List.getD, hk]
  have rowj : ∀ j, j ≠ k → (rs.set k row).getD j [] = rs.getD j [] := fun j hj => by simp [List.getD, Ne.symm hj]
  have Ar := ap h.r p2 p3
  refine ⟨by simpa using hl, ?_, keep h.r p3, ?_⟩
  · rw [List.length_set]
    exact ((h.d.kept hg (own_ne h.d p1 (by decide))).stored k _).1
  · rw [List.length_set]
    intro j hj
    by_cases hjk : j = k
    · subst hjk
      rw [getk, rowk]
      refine ⟨own_set hu (own_ne_block hu hblk4 (by decide)) _, Ar.1, Ar.2, fun i hi hij => ?_⟩
      rw [getj i hij]
      have q := h.rows i hi
      have q4 := q.2.2.2 j hk (Ne.symm hij)
      rw [hv] at q4
      exact (ap q.1 (p4 i hi hij) q4).1
    · obtain ⟨q1, q2, q3, q4⟩ := h.rows j hj
      rw [getj j hjk, rowj j hjk]
      have q5 := q4 k hk (fun e => hjk e.symm)
      rw [hv] at q5
      refine ⟨keep q1 q5, q2, q3, fun i hi hij => ?_⟩
      by_cases hik : i = k
      · subst hik
        rw [getk]
        exact (ap q1 (p4 j hj hjk) q5).2
      · rw [getj i hik]
        exact q4 i hi hij

/-- What holds ahead of round j: so many words are in the frame that is taken. -/
def TLoop (w : World) (rs : List (List Int)) (zs : List Int) (g k j : Nat) (wr : World) : Prop := ∃ ad cd ar cr vs, w.heap.size + 1 < g ∧ wr.heap[w.heap.size + 1]? = some (.cells #[.slice none 0 0, .slice none 0 0] 28 (0, 0)) ∧
  wr.heap[g]? = some (.cells #[.slice ad rs.length cd, .slice ar zs.length cr] 28 (0, 0)) ∧ FrOwn w.heap.size wr (.slice ad rs.length cd) (.slice ar zs.length cr) (rs.set k (List.replicate j 0)) zs vs ∧ Below w.heap.size w wr

theorem set_set_getD {rs : List (List Int)} {k : Nat} (a b : List Int) : (rs.set k a).set k b = rs.set k b := by simp
theorem repl_snoc (j : Nat) : (List.replicate j (0 : Int)).map (Value.int .i64) ++ [.int .i64 0] = (List.replicate (j + 1) (0 : Int)).map (Value.int .i64) := by
  rw [List.replicate_succ', List.map_append]; rfl

theorem tloop_step {w wr W1 W4 : World} {rs : List (List Int)} {zs : List Int} {g k j gd cd cr g4 cp4 : Nat} {ar : Option Addr} {vs : List Value} {O : Obj} (hd : W1 = (wr.alloc O).drew) (hk : k < rs.length) (hgw : w.heap.size + 1 < g)
    (hy : wr.heap[w.heap.size + 1]? = some (.cells #[.slice none 0 0, .slice none 0 0] 28 (0, 0))) (hx : wr.heap[g]? = some (.cells #[.slice (some ⟨gd, 0, none⟩) rs.length cd, .slice ar zs.length cr] 28 (0, 0)))
    (ho : FrOwn w.heap.size wr (.slice (some ⟨gd, 0, none⟩) rs.length cd) (.slice ar zs.length cr) (rs.set k (List.replicate j 0)) zs vs) (hb : Below w.heap.size w wr)
    (own4 : W4.ownsRow w.heap.size 3 1 (.slice (some ⟨g4, 0, none⟩) (j + 1) cp4) (j + 1) ((List.replicate (j + 1) (0 : Int)).map (Value.int .i64))) (hg4 : W1.grownBy W4 (vs.getD k undef).ownBlock) (hat : (vs.getD k undef).ownBlock = some g4 ∨ g4 = W1.heap.size) :
    TLoop w rs zs g k (j + 1) (W4.setCell ⟨gd, k, none⟩ (.slice (some ⟨g4, 0, none⟩) (j + 1) cp4)) := by
  have b1 : Below wr.heap.size wr W1 := by rw [hd]; exact (below_alloc wr O).drew
  have o1 := ho.grown b1
  have hk' : k < (rs.set k (List.replicate j 0)).length := by rw [List.length_set]; exact hk
  have p1 := (o1.rows k hk').1
  have o1' : FrOwn w.heap.size W1 (.slice (some ⟨gd, 0, none⟩) (rs.set k (List.replicate j 0)).length cd) (.slice ar zs.length cr) (rs.set k (List.replicate j 0)) zs vs := by rw [List.length_set]; exact o1
  have o4 := o1'.regrow hk' (row := List.replicate (j + 1) 0) hg4 (by rw [List.length_replicate]; exact own4) (by
    rcases hat with e | e
    · exact Or.inl (by rw [e]; rfl)
    · exact Or.inr ⟨g4, rfl, by omega⟩)
  rw [set_set_getD, List.length_set] at o4
  have hod := ho.d
  rw [List.length_set] at hod
  obtain ⟨gd', cur, hgd', hbg, hblk, _⟩ := own_some hod (by omega)
  simp only [Option.some.injEq, Addr.mk.injEq, and_true] at hgd'
  subst hgd'
  have far : ∀ {q : Nat} {cs : Array Value}, wr.heap[q]? = some (.cells cs 28 (0, 0)) → (W4.setCell ⟨gd, k, none⟩ (.slice (some ⟨g4, 0, none⟩) (j + 1) cp4)).heap[q]? = some (.cells cs 28 (0, 0)) := by
    intro q cs hq
    have n1 : q ≠ gd := by intro e; subst e; rw [hblk] at hq; simp at hq
    have q1 := block_below b1 hq (Array.getElem?_eq_some_iff.1 hq).1
    exact set_block_ne (block_grown hg4 q1 (own_ne_block p1 q1 (by decide))) n1 _
  refine ⟨some ⟨gd, 0, none⟩, cd, ar, cr, _, hgw, far hy, far hx, o4, ?_⟩
  exact (below_grown (hb.trans (b1.mono hb.size)) p1 hg4 (by have := hb.size; have := b1.size; omega) (Nat.le_refl _)).setCell (by simpa using hbg) _

theorem free_row {rs : List (List Int)} {zs : List Int} {k : Nat} (hok : FOk rs zs) (hk : k < zs.length) (h0 : zs.getD k 0 = 0) : rs.set k (List.replicate 0 0) = rs := by
  have h1 : (rs.getD k []).length = 0 := (hok.2.2 k hk).2.2.1 h0
  have hkr : k < rs.length := by rw [hok.1]; exact hk
  rw [getD_of hkr] at h1
  have e : rs[k] = [] := List.eq_nil_of_length_eq_zero h1
  apply List.ext_getElem (by simp)
  intro i hi hi'
  rw [List.getElem_set]
  split
  · subst_vars; rw [e]; rfl
  · rfl

set_option maxHeartbeats 4000000 in
set_option maxRecDepth 100000 in
theorem takenOf_yes (v : Value) (rs : List (List Int)) (zs : List Int) (k : Nat) (w : World) (hf : FramesR w.heap.size w v rs zs) (hok : FOk rs zs) (hz : Fz zs k) (hkz : k < zs.length) (hz0 : zs.getD k 0 = 0) : Calls Try.prog 65 #[v] w (FrYesI w k (rs.set k (List.replicate 16 0)) (zs.set k 1)) := by
  have HF := Lib.hid hf
  obtain ⟨a, c1, a', c2, hs⟩ := hf.shape
  subst hs
  have HZ := Lib.hid hz
  have hkr : k < rs.length := by rw [hok.1]; exact hkz
  have h200 : zs.length ≤ 200 := hok.2.1
  have h200' : rs.length ≤ 200 := by rw [hok.1]; exact hok.2.1
  have HFR := Lib.hid (free_row hok hkz hz0)
  have HOK := Lib.hid hok
  clear hf hz hok
  go_enter Try.func65, Try.ntmps65
  go_wp2_with fail
  refine (fmay_any _ rs zs _ (HF.out.to (by simp; omega) (same_below (below_alloc2 _ _ _)))).mono ?_
  rintro e w1 ⟨⟨_, rfl⟩ | ⟨hno, rfl⟩, hb1⟩
  rotate_left
  · exact absurd HOK.out hno
  have s1 := hb1.size
  simp only [World.size_alloc] at s1
  have hB := (below_alloc2 w _ _).trans (hb1.mono (by simp; omega))
  have hx := block_below hb1 (g := w.heap.size) ((alloc_lt (by simp)).trans (alloc_at rfl)) (by simp; omega)
  have hy := block_below hb1 (g := w.heap.size + 1) (alloc_at (by simp)) (by simp)
  have q0 : w1.cell? ⟨w.heap.size, 0, none⟩ = some (.slice a rs.length c1) := cell_block hx 0
  have q1 : w1.cell? ⟨w.heap.size, 1, none⟩ = some (.slice a' zs.length c2) := cell_block hx 1
  have HX := Lib.hid hx
  have HY := Lib.hid hy
  have HB := Lib.hid hB
  clear hx hy hB hb1 HOK
  go_wp2_with fail
  refine (firstFree_any _ rs zs k HZ.out _ (HF.out.to (by omega) (same_below HB.out))).mono ?_
  rintro e w2 ⟨rfl, hb2⟩
  have s2 := hb2.size
  have hx2 := block_below hb2 HX.out (by omega)
  have hy2 := block_below hb2 HY.out (by omega)
  have p0 : w2.cell? ⟨w.heap.size, 0, none⟩ = some (.slice a rs.length c1) := cell_block hx2 0
  have p1 : w2.cell? ⟨w.heap.size, 1, none⟩ = some (.slice a' zs.length c2) := cell_block hx2 1
  have HY2 := Lib.hid hy2
  have HB2 := Lib.hid (HB.out.trans (hb2.mono (by omega)))
  clear hx2 hy2 hb2
  go_wp2_with fail
  refine (fcopyRef_any _ rs zs _ (HF.out.to (by omega) (same_below HB2.out))).mono ?_
  rintro e w3 ⟨ad, cd, ar, cr, vs, rfl, hown, hb3⟩
  have s3 := hb3.size
  have hy3 := block_below hb3 HY2.out (by omega)
  obtain ⟨gr, curr, hgr, hbr, hblkr, hcapr⟩ := own_some hown.r (by omega)
  subst hgr
  have c0 : w3.cell? ⟨gr, k, none⟩ = some (.int .i64 (zs.getD k 0)) := (by rw [hown.r.cellAt k (by omega), List.getElem?_map, List.getElem?_eq_getElem hkz, ← getD_of hkz 0]; rfl)
  have c1f := hown.r.frozenAt k
  have lgr : gr < w3.heap.size := (Array.getElem?_eq_some_iff.1 hblkr).1
  have hloop : TLoop w rs (zs.set k 1) w3.heap.size k 0 ((w3.setCell ⟨gr, k, none⟩ (.int .i64 1)).alloc (.cells #[.slice ad rs.length cd, .slice (some ⟨gr, 0, none⟩) zs.length cr] 28)) := by
    have o2 := ((hown.base (b' := w.heap.size) (by omega)).setRef hkz 1).grown (below_alloc _ (.cells #[.slice ad rs.length cd, .slice (some ⟨gr, 0, none⟩) zs.length cr] 28))
    have y2 := set_block_ne (g := gr) (i := k) hy3 (by omega) (.int .i64 1)
    refine ⟨ad, cd, some ⟨gr, 0, none⟩, cr, vs, by omega, (alloc_lt (Array.getElem?_eq_some_iff.1 y2).1).trans y2, ?_, ?_, ((HB2.out.trans (hb3.mono (by omega))).setCell (by simp; omega) _).alloc (by simp; omega) _⟩
    · rw [List.length_set]
      exact alloc_at (by simp)
    · rw [HFR.out, List.length_set]
      exact o2
  have HL := Lib.hid hloop
  clear hloop hown hb3 hy3 hblkr
  go_wp2_with fail
  generalize hW3 : World.alloc _ _ = W3 at HL ⊢
  generalize hG : w3.heap.size = g at HL ⊢
  clear hW3 hG c0 c1f lgr p0 p1 q0 q1 HB2 HY2
  go_loopw [7] (fun i wr => ∃ j : Nat, j ≤ 16 ∧ i = .int .i64 j ∧ TLoop w rs (zs.set k 1) g k j wr) (fun i _ => 16 - (intOf i).toNat)
  case atStart => exact ⟨0, by omega, rfl, HL.out⟩
  case round =>
    obtain ⟨j, hj, rfl, hrel⟩ := hrel
    obtain ⟨adk, cdk, ark, crk, vsk, hgw, hy, hx, ho, hb⟩ := hrel
    have hod := ho.d
    rw [List.length_set] at hod
    obtain ⟨gd, curd, hgd, hbd, hblkd, hcapd⟩ := own_some hod (by omega)
    subst hgd
    have e0 : wr.cell? ⟨g, 0, none⟩ = some (.slice (some ⟨gd, 0, none⟩) rs.length cdk) := cell_block hx 0
    have lg : g < wr.heap.size := (Array.getElem?_eq_some_iff.1 hx).1
    have lgd : gd < wr.heap.size := (Array.getElem?_eq_some_iff.1 hblkd).1
    have ngd : g ≠ gd := by intro e; subst e; rw [hblkd] at hx; simp at hx
    by_cases hlt : j < 16
    · have hrow := (ho.rows k (by rw [List.length_set]; exact hkr)).1
      have hrk : (rs.set k (List.replicate j 0)).getD k [] = List.replicate j 0 := by simp [List.getD, hkr]
      rw [hrk, List.length_replicate] at hrow
      obtain ⟨ai, ci, hvi⟩ := own_shape hrow
      have hkv : k < vsk.length := by have := ho.len; rw [List.length_set] at this; omega
      have ek : wr.cell? ⟨gd, k, none⟩ = some (.slice ai j ci) := by
        rw [hod.cellAt k (by omega), List.getElem?_eq_getElem hkv, ← getD_of hkv undef, hvi]
      have fk := hod.frozenAt k
      rw [hvi] at hrow
      have HROW := Lib.hid hrow
      have HVI := Lib.hid hvi
      have HY := Lib.hid hy
      have HX := Lib.hid hx
      have HO := Lib.hid ho
      have HB := Lib.hid hb
      have HBD := Lib.hid hblkd
      have hwb : w.heap.size ≤ wr.heap.size := hb.size
      obtain ⟨i0, hi0, hz0, hz1, hz2⟩ := info_parts info_int
      clear hrow hvi hy hx ho hb hblkd hod hrk
      have l1 : (0 : Int) ≤ (k : Int) := by omega
      have l2 : (k : Int) < (rs.length : Int) := by omega
      go_wp2_with fail
      go_region_law ((refine step_append_lies _ (by rfl) (.tmp 34) (.tmp 35) 24 (by rfl) w.heap.size 3 i0 (.int .i64 0) 1 8 Try.underlying24 hi0 hz0 hz1 hz2 rfl (by decide) (.slice ai j ci) j _ (by rfl) ((HROW.out.alloc _).drew) ⟨wr.heap.size, 0, none⟩ 1 1 [.int .i64 0] (by rfl) rfl (World.news_of_block (heap_alloc_new wr _)) (by simp [Value.oneCell']) (by omega) (by unfold maxLen; omega) (by omega) (by simp; omega) _ rfl ?_; intro g4 cp4 w4 hown4 hgrow4 hat4 hlt4; have HG4 := Lib.hid (block_grown hgrow4 ((alloc_lt lgd).trans HBD.out) (own_ne_block HROW.out HBD.out (by decide))); have eb4 : w4.cell? ⟨gd, k, none⟩ = some (.slice ai j ci) := (cell_block HG4.out k).trans ((cell_block HBD.out k).symm.trans ek); have fb4 := free_block HG4.out k; have HQ4 := Lib.hid (block_grown hgrow4 ((alloc_lt lg).trans HX.out) (own_ne_block HROW.out HX.out (by decide))); have eq4 : w4.cell? ⟨g, 0, none⟩ = some (.slice (some ⟨gd, 0, none⟩) rs.length cdk) := cell_block HQ4.out 0))
      all_goals go_wp2
      all_goals
        go_roundw
        case rel => exact ⟨j + 1, by omega, by go_num, tloop_step rfl hkr hgw HY.out HX.out HO.out HB.out (by rw [← repl_snoc]; exact hown4) (by rw [HVI.out]; exact hgrow4) (by rw [HVI.out]; exact hat4)⟩
        case measure => simp [intOf]; omega
    · obtain rfl : j = 16 := by omega
      rw [List.length_set] at hx ho
      have e1 : wr.cell? ⟨g, 1, none⟩ = some (.slice ark zs.length crk) := cell_block hx 1
      have r0 : wr.cell? ⟨w.heap.size + 1, 0, none⟩ = some (.slice none 0 0) := cell_block hy 0
      have r1 : wr.cell? ⟨w.heap.size + 1, 1, none⟩ = some (.slice none 0 0) := cell_block hy 1
      have g0 := free_block hy 0
      have g1 := free_block hy 1
      have HBB := Lib.hid ((hb.setCell (p := ⟨w.heap.size + 1, 0, none⟩) (by simp) (.slice (some ⟨gd, 0, none⟩) rs.length cdk)).setCell (p := ⟨w.heap.size + 1, 1, none⟩) (by simp) (.slice ark zs.length crk))
      have o3 := Lib.hid ((ho.set (i := 0) (u := .slice (some ⟨gd, 0, none⟩) rs.length cdk) hy (by decide) (by decide)).set (i := 1) (u := .slice ark zs.length crk) (set_block hy _) (by decide) (by decide))
      clear hx hy ho hb hod hblkd
      go_wp2
      exact bodyPost_ret (v := .tuple #[.agg #[.slice (some ⟨gd, 0, none⟩) rs.length cdk, .slice ark zs.length crk], .int .i64 k, .int .i64 0]) (by simp [results, Try.results65, go_sem, r0, r1]) rfl ⟨some ⟨gd, 0, none⟩, cdk, ark, crk, vsk, by rw [List.length_set, List.length_set], by rw [List.length_set, List.length_set]; exact o3.out, HBB.out⟩
end Go.Proofs.Ytfgiiaaghllfcaa
