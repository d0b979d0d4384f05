/- The contract of the reference's WroteOf where a copy is written. No condition. -/
import Derived.Test.YtfgiiaaghllfcaaWp
namespace Go.Proofs.Ytfgiiaaghllfcaa
open Go Go.RowKit Go.ChangeShapes Go.WideShapes Go.Deep
set_option linter.unusedVariables false
attribute [local go_sem ↓] Go.wp_at_zero Go.wp_at_succ

/-- A cloned row is put into the frame i. -/
theorem wrow_close {w W2 W2' w3 : World} {g n m gd gr cd cr i d1 : Nat} {rs : List (List Int)} {zs row : List Int} {vs : List Value} {b1 : Option Addr} (hd : W2' = W2.drew) (hn : n = rs.length) (hm : m = zs.length) (h : FBx w g rs zs (.slice (some ⟨gd, 0, none⟩) n cd) (.slice (some ⟨gr, 0, none⟩) m cr) vs W2)
    (own1 : w3.ownsRow W2'.heap.size 3 1 (.slice b1 row.length d1) row.length (row.map (Value.int .i64))) (hb3 : Below W2'.heap.size W2' w3) (hi : i < rs.length) (hiz : i < zs.length) :
    FBx w g (rs.set i row) zs (.slice (some ⟨gd, 0, none⟩) n cd) (.slice (some ⟨gr, 0, none⟩) m cr) (vs.set i (.slice b1 row.length d1)) (w3.setCell ⟨gd, i, none⟩ (.slice b1 row.length d1)) := by
  subst hd
  have s0 : W2.drew.heap.size = W2.heap.size := rfl
  rw [s0] at own1 hb3
  have hb : Below W2.heap.size W2 w3 := (Below.refl _ _).drew.trans hb3
  have A1 : Apart (.slice b1 row.length d1) (.slice (some ⟨gr, 0, none⟩) m cr) ∧ Apart (.slice (some ⟨gr, 0, none⟩) m cr) (.slice b1 row.length d1) := by
    subst hm
    have := apart_of h.o.r own1 (Nat.le_refl _)
    exact ⟨this.2, this.1⟩
  have A2 : ∀ j, j < rs.length → Apart (.slice b1 row.length d1) (vs.getD j undef) ∧ Apart (vs.getD j undef) (.slice b1 row.length d1) := fun j hj => by
    have := apart_of (h.o.rows j hj).1 own1 (Nat.le_refl _)
    exact ⟨this.2, this.1⟩
  have h3 := h.grown hb
  obtain ⟨gd', gr', e1, e2, _, _, hat⟩ := h3.o.at' hn hm hi hiz
  simp only [Option.some.injEq, Addr.mk.injEq, and_true] at e1 e2
  subst e1 e2
  obtain ⟨_, _, _, _, ld, lr, wd, wr, ⟨curd, bd⟩, _⟩ := hat i hi hiz
  have hu := own_base own1 (b' := w.heap.size) (by have := h.b.size; exact this)
  exact h3.put bd (i := i) (u := .slice b1 row.length d1) (by decide) wd (h3.o.setRow' hn hi hu A1.1 A1.2 (fun j hj _ => A2 j hj))

set_option maxHeartbeats 8000000 in
set_option maxRecDepth 100000 in
theorem wroteOf_copy (v : Value) (rs : List (List Int)) (zs : List Int) (k j i : Nat) (x z : Int) (w : World) (hf : FramesR w.heap.size w v rs zs) (hok : FOk rs zs) (hk : Kn zs k) (hj : j < 16) (hzk : zs.getD k 0 = z) (h1 : 1 < z) (hz : Fz zs i) (hiz : i < zs.length) :
    Calls Try.prog 69 #[v, .int .i64 k, .int .i64 j, .int .i64 x] w (FrYesI w i (rs.set i ((rs.getD k []).set j x)) ((zs.set k (z - 1)).set i 1)) := by
  have HF := Lib.hid hf
  obtain ⟨a, c1, a', c2, hs⟩ := hf.shape
  subst hs
  have HK := Lib.hid (kfault_any (.agg #[.slice a rs.length c1, .slice a' zs.length c2]) rs zs k 0 (Or.inr (Or.inr ⟨hok, hk, rfl⟩)))
  obtain ⟨hkz, hkr, h16, _, hz200⟩ := kn_len hok hk
  obtain ⟨b, off, ha, hbb, e1⟩ := ref_at hf hkz
  subst ha
  obtain ⟨bd, offd, vi, had, hbd, e2, hvi⟩ := row_at hf hkr
  subst had
  rw [hzk] at e1
  have h200 : zs.length ≤ 200 := hok.2.1
  have h200' : rs.length ≤ 200 := by rw [hok.1]; exact hok.2.1
  have hir : i < rs.length := by rw [hok.1]; exact hiz
  have hjj : (0 : Int) ≤ (j : Int) ∧ (j : Int) ≤ 15 := by omega
  have hzz : z ≤ 200 := by omega
  have hw : wrap64 (z - 1) = z - 1 := wrap_id (by omega)
  have hw' : IntKind.i64.wrap (z - 1) = z - 1 := IntWalk.i64_in _ (by omega)
  have HJ := Lib.hid hjj
  have HZ := Lib.hid hz
  have H16 := Lib.hid h16
  obtain ⟨ai, ci, hvs, _⟩ := id hvi
  rw [h16] at hvs
  subst hvs
  have HVI := Lib.hid hvi
  clear hf hok hk h16 hjj hz hzk hz200 hvi
  go_enter Try.func69, Try.ntmps69
  go_wp2_with fail
  refine (HK.out _ (HF.out.to (by simp; omega) (same_below (below_alloc2 _ _ _)))).mono ?_
  rintro e w1 ⟨rfl, hb1⟩
  have s1 := hb1.size
  simp only [World.size_alloc] at s1
  have hB := (below_alloc2 w _ _).trans (hb1.mono (by simp; omega))
  have hx := block_below hb1 (g := w.heap.size) ((alloc_lt (by simp)).trans (alloc_at rfl)) (by simp; omega)
  have hy := block_below hb1 (g := w.heap.size + 1) (alloc_at (by simp)) (by simp)
  have p0 : w1.cell? ⟨w.heap.size, 0, none⟩ = some (.slice (some ⟨bd, offd, none⟩) rs.length c1) := cell_block hx 0
  have p1 : w1.cell? ⟨w.heap.size, 1, none⟩ = some (.slice (some ⟨b, off, none⟩) zs.length c2) := cell_block hx 1
  have HB := Lib.hid hB
  have HX := Lib.hid hx
  have HY := Lib.hid hy
  clear hx hy hB hb1
  go_wp2_with (go_at_call 82; refine (in_yes _ _ _ _ ?_).mono ?_; exact HJ.out; rintro e w' ⟨rfl, rfl⟩)
  refine (fcopyRef_any _ rs zs _ (HF.out.to (by omega) (same_below HB.out))).mono ?_
  rintro e w2 ⟨ad, cd, ar, cr, vs, rfl, hown, hb2⟩
  have s2 := hb2.size
  have l2 : w.heap.size < w2.heap.size := by omega
  have lb2 : b < w2.heap.size := by omega
  have q0 : w2.cell? ⟨w.heap.size, 0, none⟩ = some (.slice (some ⟨bd, offd, none⟩) rs.length c1) := (same_below hb2 _ _ (by omega)).trans p0
  have q1 : w2.cell? ⟨w.heap.size, 1, none⟩ = some (.slice (some ⟨b, off, none⟩) zs.length c2) := (same_below hb2 _ _ (by omega)).trans p1
  have q2 : w2.cell? ⟨b, off + k, none⟩ = some (.int .i64 z) := (same_below hb2 _ _ (by omega)).trans ((same_below HB.out _ _ hbb).trans e1)
  obtain ⟨hfb, hp⟩ := wo_open HB.out HX.out HY.out hown hb2
  have HFB := Lib.hid hfb
  have HP := Lib.hid hp
  have l2' : (k : Int) < (zs.length : Int) := by omega
  have lw : w.heap.size ≤ w2.heap.size := by omega
  clear hown hb2 hfb hp
  go_wp2_with fail
  refine (firstFree_any _ rs zs i HZ.out _ (HF.out.to (by simp; omega) (same_below HFB.out.b))).mono ?_
  rintro e W ⟨rfl, hb3⟩
  have HFB3 := Lib.hid (HFB.out.grown hb3)
  have HP3 := Lib.hid (block_below hb3 HP.out (Array.getElem?_eq_some_iff.1 HP.out).1)
  clear hb3 HFB HP q0 q1 q2 p0 p1
  go_upto_region 12 with fail
  generalize hG : w2.heap.size = g at HFB3 ⊢
  clear hG l2 lb2 s2 lw
  have hfb := HFB3.out
  obtain ⟨gd, gr, rfl, rfl, hcd, hcr, hat⟩ := hfb.o.at_ hkr hkz
  obtain ⟨_, cr0, _, fr0, ld, lr, wd, wr, _, ⟨curr, br⟩⟩ := hat k hkr hkz
  generalize zs.getD k 0 = zk at cr0
  have x1 : W.cell? ⟨g, 1, none⟩ = some (.slice (some ⟨gr, 0, none⟩) zs.length cr) := cell_block hfb.x 1
  have y1 : W.cell? ⟨w.heap.size, 1, none⟩ = some (.slice (some ⟨b, off, none⟩) zs.length c2) := cell_block HP3.out 1
  have y2 : W.cell? ⟨b, off + k, none⟩ = some (.int .i64 z) := (same_below hfb.b _ _ hbb).trans e1
  have l1 : (k : Int) < (rs.length : Int) := by omega
  have l3 : (i : Int) < (rs.length : Int) := by omega
  have l4 : (i : Int) < (zs.length : Int) := by omega
  have l6 : (0 : Int) ≤ (i : Int) := by omega
  have l7 : (0 : Int) ≤ (k : Int) := by omega
  have nbr : b ≠ gr := by omega
  have nxr : g ≠ gr := by intro e; subst e; rw [hfb.x] at br; simp at br
  have nwr : w.heap.size ≠ gr := by intro e; subst e; rw [HP3.out] at br; simp at br
  have HFB4 := Lib.hid ((hfb.put br (i := k) (u := .int .i64 (z - 1)) (by decide) wr (hfb.o.setRef hkz (z - 1))).grown (Below.refl _ _).drew)
  have HP4 := Lib.hid (frames_put (i := k) (u := .int .i64 (z - 1)) HP3.out br (by decide))
  clear hfb hat br
  go_cut [] (fun wx => FBx w g rs (zs.set k (z - 1)) (.slice (some ⟨gd, 0, none⟩) rs.length cd) (.slice (some ⟨gr, 0, none⟩) zs.length cr) vs wx ∧ wx.heap[w.heap.size]? = some (.cells #[.slice (some ⟨bd, offd, none⟩) rs.length c1, .slice (some ⟨b, off, none⟩) zs.length c2] 28 (0, 0)))
  case first =>
    go_region
    all_goals (go_wp2_with fail; go_meet)
    all_goals exact ⟨HFB4.out, HP4.out⟩
  case rest =>
    obtain ⟨hfb, hp⟩ := hcut
    clear HFB3 HP3 HFB4 HP4 x1 y1 y2 cr0 fr0 ld lr
    have lz : (zs.set k (z - 1)).length = zs.length := List.length_set ..
    obtain ⟨gd', gr', ee1, ee2, _, _, hat⟩ := hfb.o.at' rfl lz.symm hir (by rw [lz]; exact hiz)
    simp only [Option.some.injEq, Addr.mk.injEq, and_true] at ee1 ee2
    subst ee1 ee2
    obtain ⟨_, cri, _, fri, _, lr, _, _, _, ⟨curr', br⟩⟩ := hat i hir (by rw [lz]; exact hiz)
    generalize (List.getD _ _ _ : Int) = zi at cri
    have x1 : wc.cell? ⟨g, 1, none⟩ = some (.slice (some ⟨gr, 0, none⟩) zs.length cr) := cell_block hfb.x 1
    have HFB5 := Lib.hid (hfb.put br (i := i) (u := .int .i64 1) (by decide) wr (hfb.o.setRef' lz.symm (by rw [lz]; exact hiz) 1))
    have HP5 := Lib.hid (frames_put (i := i) (u := .int .i64 1) hp br (by decide))
    clear hfb hp hat br lz
    go_upto_region 14 with fail
    generalize hW2 : World.setCell wc _ _ = W2 at HFB5 HP5 ⊢
    clear hW2 x1 cri fri lr
    have hfb := HFB5.out
    have lz' : ((zs.set k (z - 1)).set i 1).length = zs.length := by rw [List.length_set, List.length_set]
    obtain ⟨gd', gr', ee1, ee2, _, _, hat⟩ := hfb.o.at' rfl lz'.symm hir (by rw [lz']; exact hiz)
    simp only [Option.some.injEq, Addr.mk.injEq, and_true] at ee1 ee2
    subst ee1 ee2
    obtain ⟨cdi, _, fdi, _, ld, _, _, _, ⟨curd, bdd⟩, _⟩ := hat i hir (by rw [lz']; exact hiz)
    generalize vs.getD i undef = ui at cdi
    have x0 : W2.cell? ⟨g, 0, none⟩ = some (.slice (some ⟨gd, 0, none⟩) rs.length cd) := cell_block hfb.x 0
    have y0 : W2.cell? ⟨w.heap.size, 0, none⟩ = some (.slice (some ⟨bd, offd, none⟩) rs.length c1) := cell_block HP5.out 0
    have y2 : W2.cell? ⟨bd, offd + k, none⟩ = some (.slice ai 16 ci) := (same_below hfb.b _ _ hbd).trans e2
    have lg := hfb.lt.2
    have ngd : g ≠ gd := by intro e; subst e; rw [hfb.x] at bdd; simp at bdd
    have nwd : w.heap.size ≠ gd := by intro e; subst e; rw [HP5.out] at bdd; simp at bdd
    have nbd : bd ≠ gd := by omega
    have lw2 : w.heap.size < W2.heap.size := by have := hfb.lt.1; omega
    have HRI := Lib.hid (HVI.out.to hfb.b.size (same_below hfb.b))
    have HBDB := Lib.hid bdd
    clear hfb hat bdd lz'
    generalize hrw : rs.getD k [] = row at *
    clear hrw
    go_cut [] (fun wx => ∃ b1 d1 vs', FBx w g (rs.set i row) ((zs.set k (z - 1)).set i 1) (.slice (some ⟨gd, 0, none⟩) rs.length cd) (.slice (some ⟨gr, 0, none⟩) zs.length cr) vs' wx)
    case first =>
      go_region_held3 (fun w' => w'.cell? ⟨g, 0, none⟩ = some (.slice (some ⟨gd, 0, none⟩) rs.length cd) ∧ w'.cell? ⟨w.heap.size, 0, none⟩ = some (.slice (some ⟨bd, offd, none⟩) rs.length c1) ∧ w'.cell? ⟨bd, offd + k, none⟩ = some (.slice ai 16 ci)) (first | go_keep | (refine ⟨?_, ?_, ?_⟩ <;> exact (cell_far (by simp; omega) _).trans (by assumption)))
        ((go_at_call 93; refine (wordsI_any _ row _ ?_).mono ?_; (exact HRI.out.to (by simp) (same_below (Below.refl _ _).drew)); rintro e w3 ⟨b1, d1, rfl, hown1, hb3⟩; have HD3 := Lib.hid (block_below hb3 HBDB.out (by simp; omega)); have z0 : w3.cell? ⟨g, 0, none⟩ = some (.slice (some ⟨gd, 0, none⟩) rs.length cd) := (same_below hb3 _ _ (by simp; omega)).trans x0; have z1 : w3.cell? ⟨w.heap.size, 0, none⟩ = some (.slice (some ⟨bd, offd, none⟩) rs.length c1) := (same_below hb3 _ _ (by simp; omega)).trans y0; have z2 : w3.cell? ⟨bd, offd + k, none⟩ = some (.slice ai 16 ci) := (same_below hb3 _ _ (by simp; omega)).trans y2; have z3 : w3.cell? ⟨gd, i, none⟩ = some ui := (same_below hb3 _ _ (by simp; omega)).trans cdi; have z4 := free_block HD3.out i))
      all_goals (go_wp2_with fail; go_meet)
      all_goals exact ⟨b1, d1, vs.set i (.slice b1 row.length d1), wrow_close rfl rfl (by rw [List.length_set, List.length_set]) HFB5.out hown1 hb3 hir (by rw [List.length_set, List.length_set]; exact hiz)⟩
    case rest =>
      rename_i wcc
      obtain ⟨b1, d1, vs', hfb⟩ := hcut
      have lr' : (rs.set i row).length = rs.length := List.length_set ..
      have lz' : ((zs.set k (z - 1)).set i 1).length = zs.length := by rw [List.length_set, List.length_set]
      have hget : (rs.set i row).getD i [] = row := by simp [List.getD, hir]
      obtain ⟨gd', gr', ee1, ee2, _, _, hat⟩ := hfb.o.at' lr'.symm lz'.symm (k := i) (by rw [lr']; exact hir) (by rw [lz']; exact hiz)
      simp only [Option.some.injEq, Addr.mk.injEq, and_true] at ee1 ee2
      subst ee1 ee2
      obtain ⟨cdj, _, _, _, ld', _, _, _, _, _⟩ := hat i (by rw [lr']; exact hir) (by rw [lz']; exact hiz)
      obtain ⟨gi, ci', hvi', hci, lgi, wgi, ⟨curi, hbi⟩, hrowi, _⟩ := hfb.o.row_ (k := i) (n := 16) (by rw [lr']; exact hir) (by rw [hget]; exact H16.out) (by omega)
      rw [hvi'] at cdj
      obtain ⟨cj, fj⟩ := hrowi j hj
      generalize (List.getD _ _ _ : Int) = zj at cj
      have p0 := cell_block hfb.x 0
      have p1 := cell_block hfb.x 1
      have r0 := cell_block hfb.y 0
      have r1 := cell_block hfb.y 1
      simp only [List.getElem?_toArray, List.getElem?_cons_zero, List.getElem?_cons_succ] at p0 p1 r0 r1
      have g0 := free_block hfb.y 0
      have g1 := free_block hfb.y 1
      have nx : g ≠ gi := by intro e; subst e; rw [hfb.x] at hbi; simp at hbi
      have ny : w.heap.size + 1 ≠ gi := by intro e; subst e; rw [hfb.y] at hbi; simp at hbi
      have l5 : (j : Int) < 16 := by omega
      have HFin := Lib.hid ((hfb.put hbi (i := j) (u := .int .i64 x) (by decide) wgi (hfb.o.setWord (k := i) (by rw [lr']; exact hir) hget (by rw [H16.out]; exact hvi') (by rw [H16.out]; exact hj) x)).fin i (by rw [List.length_set, List.length_set]) (by rw [List.length_set, List.length_set]))
      rw [set_set_getD] at HFin
      clear hfb hbi hrowi hat hvi' HFB5 HP5 HRI HBDB lr' lz' hget x0 y0 y2 cdi fdi ld
      go_wp2
      exact bodyPost_ret (v := .tuple #[.agg #[.slice (some ⟨gd, 0, none⟩) rs.length cd, .slice (some ⟨gr, 0, none⟩) zs.length cr], .int .i64 i, .int .i64 0]) (by simp [results, Try.results69, go_sem, r0, r1]) rfl HFin.out
end Go.Proofs.Ytfgiiaaghllfcaa
