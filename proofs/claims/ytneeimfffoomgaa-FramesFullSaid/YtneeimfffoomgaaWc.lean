/- The contract of frames.Write where a copy is written. No condition. -/
import Derived.Test.YtneeimfffoomgaaWs
namespace Go.Proofs.Ytneeimfffoomgaa
open Go Go.RowKit Go.ChangeShapes Go.WideShapes Go.Deep
set_option linter.unusedVariables false
attribute [local go_sem ↓] Go.wp_at_zero Go.wp_at_succ

theorem FrOwn.at' {w wx : World} {rs : List (List Int)} {zs : List Int} {vs : List Value} {ad ar : Option Addr} {n m cd cr k : Nat} (hn : n = rs.length) (hm : m = zs.length) (h : FrOwn w.heap.size wx (.slice ad n cd) (.slice ar m cr) rs zs vs) (hk : k < rs.length) (hz : k < zs.length) :
    ∃ gd gr, ad = some ⟨gd, 0, none⟩ ∧ ar = some ⟨gr, 0, none⟩ ∧ n ≤ cd ∧ m ≤ cr ∧ ∀ j, j < rs.length → j < zs.length → FAt w rs zs vs wx gd gr j := by
  subst hn hm
  exact h.at_ hk hz
theorem FrOwn.setRef' {base g c k m : Nat} {w : World} {vd : Value} {rs : List (List Int)} {zs : List Int} {vs : List Value} (hm : m = zs.length) (h : FrOwn base w vd (.slice (some ⟨g, 0, none⟩) m c) rs zs vs) (hk : k < zs.length) (z : Int) :
    FrOwn base (w.setCell ⟨g, k, none⟩ (.int .i64 z)) vd (.slice (some ⟨g, 0, none⟩) m c) rs (zs.set k z) vs := by
  subst hm
  exact h.setRef hk z
theorem FrOwn.setRow' {base g c k n : Nat} {w : World} {vr u : Value} {rs : List (List Int)} {zs row : List Int} {vs : List Value} (hn : n = rs.length) (h : FrOwn base w (.slice (some ⟨g, 0, none⟩) n c) vr rs zs vs) (hk : k < rs.length)
    (hu : w.ownsRow base 3 1 u row.length (row.map (Value.int .i64))) (h1 : Apart u vr) (h2 : Apart vr u) (h3 : ∀ i, i < rs.length → i ≠ k → Apart u (vs.getD i undef) ∧ Apart (vs.getD i undef) u) :
    FrOwn base (w.setCell ⟨g, k, none⟩ u) (.slice (some ⟨g, 0, none⟩) n c) vr (rs.set k row) zs (vs.set k u) := by
  subst hn
  exact h.setRow hk hu h1 h2 h3

theorem cell_far {w : World} {p q : Addr} (h : p.block ≠ q.block ∨ p.off ≠ q.off) (v : Value) : (w.setCell q v).cell? p = w.cell? p :=
  World.cell?_setCell_other (w := w) (a := q) (b := p) (v := v) (fun e => by subst e; simp at h)
theorem cell_far2 {w : World} {p q r : Addr} (h : p.block ≠ q.block ∨ p.off ≠ q.off) (h2 : p.block ≠ r.block ∨ p.off ≠ r.off) (v u : Value) : ((w.setCell q v).setCell r u).cell? p = w.cell? p := (cell_far h2 u).trans (cell_far h v)

/-- A cloned row is put into the frame i, which is counted. -/
theorem wcopy_close {w W2 W2' w3 : World} {g n m gd gr cd cr i d1 : Nat} {rs : List (List Int)} {zs row : List Int} {vs : List Value} {b1 : Option Addr} (hd : W2' = W2.drew) (hn : n = rs.length) (hm : m = zs.length) (h : FBx w g rs zs (.slice (some ⟨gd, 0, none⟩) n cd) (.slice (some ⟨gr, 0, none⟩) m cr) vs W2)
    (own1 : w3.ownsRow W2'.heap.size 3 1 (.slice b1 row.length d1) row.length (row.map (Value.int .i64))) (hb3 : Below W2'.heap.size W2' w3) (hi : i < rs.length) (hiz : i < zs.length) :
    FBx w g (rs.set i row) (zs.set i 1) (.slice (some ⟨gd, 0, none⟩) n cd) (.slice (some ⟨gr, 0, none⟩) m cr) (vs.set i (.slice b1 row.length d1)) ((w3.setCell ⟨gr, i, none⟩ (.int .i64 1)).setCell ⟨gd, i, none⟩ (.slice b1 row.length d1)) := by
  subst hd
  have s0 : W2.drew.heap.size = W2.heap.size := rfl
  rw [s0] at own1 hb3
  have hb : Below W2.heap.size W2 w3 := (Below.refl _ _).drew.trans hb3
  have A1 : Apart (.slice b1 row.length d1) (.slice (some ⟨gr, 0, none⟩) m cr) ∧ Apart (.slice (some ⟨gr, 0, none⟩) m cr) (.slice b1 row.length d1) := by
    subst hm
    have := apart_of h.o.r own1 (Nat.le_refl _)
    exact ⟨this.2, this.1⟩
  have A2 : ∀ j, j < rs.length → Apart (.slice b1 row.length d1) (vs.getD j undef) ∧ Apart (vs.getD j undef) (.slice b1 row.length d1) := fun j hj => by
    have := apart_of (h.o.rows j hj).1 own1 (Nat.le_refl _)
    exact ⟨this.2, this.1⟩
  have h3 := h.grown hb
  obtain ⟨gd', gr', e1, e2, _, _, hat⟩ := h3.o.at' hn hm hi hiz
  simp only [Option.some.injEq, Addr.mk.injEq, and_true] at e1 e2
  subst e1 e2
  obtain ⟨_, _, _, _, ld, lr, wd, wr, ⟨curd, bd⟩, ⟨curr, br⟩⟩ := hat i hi hiz
  have h4 := h3.put br (i := i) (u := .int .i64 1) (by decide) wr (h3.o.setRef' hm hiz 1)
  have ne : some gr ≠ Value.ownBlock (.slice b1 row.length d1) := by
    rcases A1.2 with e | e
    · simp [Value.ownBlock] at e
    · exact e
  have hu := own_set (g := gr) (i := i) (own_base own1 (b' := w.heap.size) (by have := h.b.size; exact this)) ne (.int .i64 1)
  have bd4 : (w3.setCell ⟨gr, i, none⟩ (.int .i64 1)).heap[gd]? = some (.cells curd 24 (0, 0)) := set_block_ne bd (by intro e; subst e; rw [br] at bd; simp at bd) _
  exact h4.put bd4 (i := i) (u := .slice b1 row.length d1) (by decide) wd (h4.o.setRow' hn hi hu A1.1 A1.2 (fun j hj _ => A2 j hj))

set_option maxHeartbeats 8000000 in
set_option maxRecDepth 100000 in
/-- Others know it: a copy is written. -/
theorem write_copy (v : Value) (rs : List (List Int)) (zs : List Int) (k j i : Nat) (x z : Int) (w : World) (hf : FramesR w.heap.size w v rs zs) (hok : FOk rs zs) (hk : Kn zs k) (hj : j < 16) (hzk : zs.getD k 0 = z) (h1 : 1 < z) (hz : Fz zs i) (hiz : i < zs.length) :
    Calls Try.prog 26 #[v, .int .i64 k, .int .i64 j, .int .i64 x] w (FrYesI w i (rs.set i ((rs.getD k []).set j x)) ((zs.set k (z - 1)).set i 1)) := by
  have HF := Lib.hid hf
  obtain ⟨a, c1, a', c2, hs⟩ := hf.shape
  subst hs
  have HK := Lib.hid (fun w' (hf : FramesR w'.heap.size w' (.agg #[.slice a rs.length c1, .slice a' zs.length c2]) rs zs) => (known_ok _ rs zs k w' hf hok).2 hk)
  obtain ⟨hkz, hkr, h16, _, hz200⟩ := kn_len hok hk
  have h200 : zs.length ≤ 200 := hok.2.1
  have h200' : rs.length ≤ 200 := by rw [hok.1]; exact hok.2.1
  have hir : i < rs.length := by rw [hok.1]; exact hiz
  have hzz : z ≤ 200 := by omega
  have hik : i ≠ k := by
    rintro rfl
    rcases hz with ⟨q, e, _, e0, _⟩ | ⟨e, _⟩
    · obtain rfl : i = q := by omega
      omega
    · omega
  have HZ := Lib.hid hz
  have HBD := Lib.hid hf.bd
  have H16 := Lib.hid h16
  have HZK := Lib.hid hzk
  have hw : wrap64 (z - 1) = z - 1 := wrap_id (by omega)
  clear hf hok hk h16 hz hzk hz200
  go_enter Try.func26, Try.ntmps26
  go_wp2_with fail
  refine (HK.out _ (HF.out.to (by simp; omega) (same_below (below_alloc2 _ _ _)))).mono ?_
  rintro e w1 ⟨ad, cd, ar, cr, vs, rfl, hown, hb1⟩
  obtain ⟨hfb, hx1⟩ := wr_open rfl rfl hown hb1
  have q0 : w1.cell? ⟨w.heap.size, 0, none⟩ = some (.slice a rs.length c1) := cell_block hx1 0
  have q1 : w1.cell? ⟨w.heap.size, 1, none⟩ = some (.slice a' zs.length c2) := cell_block hx1 1
  have f0 := free_block hx1 0
  have f1 := free_block hx1 1
  have HFB := Lib.hid hfb
  clear hown hb1 hx1 hfb
  go_upto_region 6 with fail
  generalize hW : World.setCell (World.setCell w1 _ _) _ _ = W at HFB ⊢
  clear hW q0 q1 f0 f1 w1
  have hfb := HFB.out
  obtain ⟨gd, gr, rfl, rfl, hcd, hcr, hat⟩ := hfb.o.at_ hkr hkz
  obtain ⟨cd0, cr0, fd0, fr0, ld, lr, wd, wr, _, ⟨curr, br⟩⟩ := hat k hkr hkz
  rw [HZK.out] at cr0
  have x0 : W.cell? ⟨w.heap.size, 0, none⟩ = some (.slice (some ⟨gd, 0, none⟩) rs.length cd) := cell_block hfb.x 0
  have x1 : W.cell? ⟨w.heap.size, 1, none⟩ = some (.slice (some ⟨gr, 0, none⟩) zs.length cr) := cell_block hfb.x 1
  have l1 : (k : Int) < (rs.length : Int) := by omega
  have l2 : (k : Int) < (zs.length : Int) := by omega
  have HINT := Lib.hid (ints_of_owns hfb.o.r HBD.out.nr HBD.out.ref)
  have HFB2 := Lib.hid (hfb.put br (i := k) (u := .int .i64 (z - 1)) (by decide) wr (hfb.o.setRef hkz (z - 1)))
  clear hfb hat HFB br
  go_wp2_with fail
  refine (index_any _ zs i HZ.out _ HINT.out).mono ?_
  rintro e w2 ⟨rfl, rfl⟩
  go_upto_region 11 with fail
  generalize hW2 : World.setCell w2 _ _ = W2 at HFB2 ⊢
  clear hW2 x0 x1 cd0 cr0 fd0 fr0 ld lr wd wr HINT
  have hfb := HFB2.out
  have lz : (zs.set k (z - 1)).length = zs.length := List.length_set ..
  obtain ⟨gd', gr', e1, e2, _, _, hat⟩ := hfb.o.at' rfl lz.symm hir (by rw [lz]; exact hiz)
  simp only [Option.some.injEq, Addr.mk.injEq, and_true] at e1 e2
  subst e1 e2
  obtain ⟨cdi, cri, fdi, fri, ld, lr, wd, wr, ⟨curd, bd⟩, ⟨curr', br⟩⟩ := hat i hir (by rw [lz]; exact hiz)
  obtain ⟨cdk, _, _, _, _, _, _, _, _, _⟩ := hat k hkr (by rw [lz]; exact hkz)
  obtain ⟨gk, ck, hv, hck, lgk, wgk, ⟨curk, hbk⟩, hrow, hne⟩ := hfb.o.row_ hkr H16.out (by omega)
  rw [hv] at cdk
  generalize hui : vs.getD i undef = ui at *
  generalize hzi : (zs.set k (z - 1)).getD i 0 = zi at *
  have x0 : W2.cell? ⟨w.heap.size, 0, none⟩ = some (.slice (some ⟨gd, 0, none⟩) rs.length cd) := cell_block hfb.x 0
  have x1 : W2.cell? ⟨w.heap.size, 1, none⟩ = some (.slice (some ⟨gr, 0, none⟩) zs.length cr) := cell_block hfb.x 1
  have l3 : (i : Int) < (rs.length : Int) := by omega
  have l6 : (0 : Int) ≤ (i : Int) := by omega
  have l7 : (0 : Int) ≤ (k : Int) := by omega
  have l4 : (i : Int) < (zs.length : Int) := by omega
  have hrI : Ints W2.heap.size W2 (.slice (some ⟨gk, 0, none⟩) 16 ck) (rs.getD k []) := by
    have q := (hfb.o.rows k hkr).1
    rw [hv] at q
    exact ints_of_owns q (HBD.out.rowAt k).2 (HBD.out.rowAt k).1
  have HRI := Lib.hid hrI
  have HX := Lib.hid hfb.x
  have HBDB := Lib.hid bd
  have HBRB := Lib.hid br
  have lx := hfb.lt.2
  have ndr : gd ≠ gr := by intro e; subst e; rw [br] at bd; simp at bd
  have nxr : w.heap.size ≠ gr := by intro e; subst e; rw [hfb.x] at br; simp at br
  have nxd : w.heap.size ≠ gd := by intro e; subst e; rw [hfb.x] at bd; simp at bd
  clear hrI hfb hat hne hrow hbk bd br hui hzi hv lz
  generalize hrw : rs.getD k [] = row at *
  clear hrw
  go_cut [] (fun wx => ∃ b1 d1 vs', FBx w w.heap.size (rs.set i (row)) ((zs.set k (z - 1)).set i 1) (.slice (some ⟨gd, 0, none⟩) rs.length cd) (.slice (some ⟨gr, 0, none⟩) zs.length cr) vs' wx)
  case first =>
    go_region_held3 (fun w' => w'.cell? ⟨w.heap.size, 0, none⟩ = some (.slice (some ⟨gd, 0, none⟩) rs.length cd) ∧ w'.cell? ⟨w.heap.size, 1, none⟩ = some (.slice (some ⟨gr, 0, none⟩) zs.length cr) ∧ w'.cell? ⟨gd, k, none⟩ = some (.slice (some ⟨gk, 0, none⟩) 16 ck)) (first | go_keep | (refine ⟨?_, ?_, ?_⟩ <;> first | exact (cell_far (by simp; omega) _).trans (by assumption) | exact (cell_far2 (by simp; omega) (by simp; omega) _ _).trans (by assumption)))
      ((go_at_call 39; refine (cloneI_any _ (row) _ ?_).mono ?_; (exact HRI.out.to (by simp) (same_below (Below.refl _ _).drew)); rintro e w3 ⟨b1, d1, rfl, hown1, hb3⟩; have HX3 := Lib.hid (block_below hb3 HX.out (by simp; omega)); have HD3 := Lib.hid (block_below hb3 HBDB.out (by simp; omega)); have HR3 := Lib.hid (block_below hb3 HBRB.out (by simp; omega)); have y0 : w3.cell? ⟨w.heap.size, 0, none⟩ = some (.slice (some ⟨gd, 0, none⟩) rs.length cd) := cell_block HX3.out 0; have y1 : w3.cell? ⟨w.heap.size, 1, none⟩ = some (.slice (some ⟨gr, 0, none⟩) zs.length cr) := cell_block HX3.out 1; have y2 : w3.cell? ⟨gd, i, none⟩ = some ui := (same_below hb3 _ _ (by simp; omega)).trans cdi; have y3 : w3.cell? ⟨gr, i, none⟩ = some (.int .i64 zi) := (same_below hb3 _ _ (by simp; omega)).trans cri; have y6 : w3.cell? ⟨gd, k, none⟩ = some (.slice (some ⟨gk, 0, none⟩) 16 ck) := (same_below hb3 _ _ (by simp; omega)).trans cdk; have y4 := free_block HD3.out i; have y5 := free_block HR3.out i))
    all_goals (go_wp2_with fail; go_meet)
    all_goals exact ⟨b1, d1, vs.set i (.slice b1 row.length d1), wcopy_close rfl rfl (by rw [List.length_set]) HFB2.out hown1 hb3 hir (by rw [List.length_set]; exact hiz)⟩
  case rest =>
    obtain ⟨b1, d1, vs', hfb⟩ := hcut
    have lr' : (rs.set i (row)).length = rs.length := List.length_set ..
    have lz' : ((zs.set k (z - 1)).set i 1).length = zs.length := by rw [List.length_set, List.length_set]
    have hget : (rs.set i (row)).getD i [] = row := by simp [List.getD, hir]
    obtain ⟨gd', gr', e1, e2, _, _, hat⟩ := hfb.o.at' lr'.symm lz'.symm (k := i) (by rw [lr']; exact hir) (by rw [lz']; exact hiz)
    simp only [Option.some.injEq, Addr.mk.injEq, and_true] at e1 e2
    subst e1 e2
    obtain ⟨cdj, _, _, _, ld', _, _, _, _, _⟩ := hat i (by rw [lr']; exact hir) (by rw [lz']; exact hiz)
    obtain ⟨gi, ci, hvi, hci, lgi, wgi, ⟨curi, hbi⟩, hrowi, _⟩ := hfb.o.row_ (k := i) (n := 16) (by rw [lr']; exact hir) (by rw [hget]; exact H16.out) (by omega)
    rw [hvi] at cdj
    obtain ⟨cj, fj⟩ := hrowi j hj
    generalize (List.getD _ _ _ : Int) = zj at cj
    have p0 : wc.cell? ⟨w.heap.size, 0, none⟩ = some (.slice (some ⟨gd, 0, none⟩) rs.length cd) := cell_block hfb.x 0
    have p1 : wc.cell? ⟨w.heap.size, 1, none⟩ = some (.slice (some ⟨gr, 0, none⟩) zs.length cr) := cell_block hfb.x 1
    have r0 : wc.cell? ⟨w.heap.size + 1, 0, none⟩ = some (.slice none 0 0) := cell_block hfb.y 0
    have r1 : wc.cell? ⟨w.heap.size + 1, 1, none⟩ = some (.slice none 0 0) := cell_block hfb.y 1
    have g0 := free_block hfb.y 0
    have g1 := free_block hfb.y 1
    have nx : w.heap.size ≠ gi := by intro e; subst e; rw [hfb.x] at hbi; simp at hbi
    have ny : w.heap.size + 1 ≠ gi := by intro e; subst e; rw [hfb.y] at hbi; simp at hbi
    have l5 : (j : Int) < 16 := by omega
    have HFin := Lib.hid ((hfb.put hbi (i := j) (u := .int .i64 x) (by decide) wgi (hfb.o.setWord (k := i) (by rw [lr']; exact hir) hget (by rw [H16.out]; exact hvi) (by rw [H16.out]; exact hj) x)).fin i (by rw [List.length_set, List.length_set]) (by rw [List.length_set, List.length_set]))
    rw [set_set_getD] at HFin
    clear hfb hbi hrowi hat hvi HFB2 HX HBDB HBRB HRI lr' lz' hget
    go_wp2
    exact bodyPost_ret (v := .tuple #[.agg #[.slice (some ⟨gd, 0, none⟩) rs.length cd, .slice (some ⟨gr, 0, none⟩) zs.length cr], .int .i64 i, .int .i64 0]) (by simp [results, Try.results26, go_sem, r0, r1]) rfl HFin.out
end Go.Proofs.Ytneeimfffoomgaa
