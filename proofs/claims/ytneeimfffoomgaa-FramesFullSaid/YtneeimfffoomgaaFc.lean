/- The contract of frames.Copy: frames whose memory is the call's own. No condition. -/
import Derived.Test.YtneeimfffoomgaaMc
import Derived.Test.YtneeimfffoomgaaFr3
namespace Go.Proofs.Ytneeimfffoomgaa
open Go Go.RowKit Go.ChangeShapes Go.WideShapes Go.Deep
set_option linter.unusedVariables false
attribute [local go_sem ↓] Go.wp_at_zero Go.wp_at_succ

/-- The first k rows are the call's own, each in a block of its own, none in that of vr. -/
def RowsOwn (base : Nat) (w : World) (vr : Value) (rs : List (List Int)) (k : Nat) (vs : List Value) : Prop :=
  ∀ j, j < k → w.ownsRow base 3 1 (vs.getD j undef) (rs.getD j []).length ((rs.getD j []).map (Value.int .i64)) ∧ Apart (vs.getD j undef) vr ∧ Apart vr (vs.getD j undef) ∧ ∀ i, i < k → i ≠ j → Apart (vs.getD j undef) (vs.getD i undef)
/-- Frames whose memory is the call's own. -/
structure FrOwn (base : Nat) (w : World) (vd vr : Value) (rs : List (List Int)) (zs : List Int) (vs : List Value) : Prop where
  len : vs.length = rs.length
  d : w.ownsRow base 24 1 vd rs.length vs
  r : w.ownsRow base 3 1 vr zs.length (zs.map (Value.int .i64))
  rows : RowsOwn base w vr rs rs.length vs
def FCopyPost (w : World) (rs : List (List Int)) (zs : List Int) (e : Ending) (w' : World) : Prop := ∃ ad cd ar cr vs, e = .returned (.agg #[.slice ad rs.length cd, .slice ar zs.length cr]) ∧ FrOwn w.heap.size w' (.slice ad rs.length cd) (.slice ar zs.length cr) rs zs vs ∧ Below w.heap.size w w'

theorem RowsR.vals {B : Nat} {w : World} {v : Value} {rs : List (List Int)} (h : RowsR B w v rs) : ∃ vs : List Value, vs.length = rs.length ∧ SlV 5864062014634 B w v vs ∧ (∀ j (hj : j < vs.length) (hj' : j < rs.length), Ints B w vs[j] rs[j]) := by
  obtain ⟨a, cap, rfl, hl, hl2, hc⟩ := h
  have hex : ∃ vs : List Value, vs.length = rs.length ∧ ∀ j (hj : j < vs.length) (hj' : j < rs.length), (∃ b off, a = some ⟨b, off, none⟩ ∧ b < B ∧ w.cell? ⟨b, off + j, none⟩ = some vs[j]) ∧ Ints B w vs[j] rs[j] := by
    clear hl hl2
    have : ∀ n, n ≤ rs.length → ∃ vs : List Value, vs.length = n ∧ ∀ j (hj : j < vs.length) (hj' : j < rs.length), (∃ b off, a = some ⟨b, off, none⟩ ∧ b < B ∧ w.cell? ⟨b, off + j, none⟩ = some vs[j]) ∧ Ints B w vs[j] rs[j] := by
      intro n
      induction n with
      | zero => exact fun _ => ⟨[], rfl, fun j hj => absurd hj (Nat.not_lt_zero _)⟩
      | succ n ih =>
        intro hn
        obtain ⟨vs, h1, h2⟩ := ih (by omega)
        obtain ⟨b, off, vi, ha, hb, hcell, hvi⟩ := hc n (by omega)
        refine ⟨vs ++ [vi], by simp [h1], fun j hj hj' => ?_⟩
        by_cases hjn : j < n
        · rw [List.getElem_append_left (by omega)]
          exact h2 j (by omega) hj'
        · obtain rfl : j = n := by simp [h1] at hj; omega
          have e : (vs ++ [vi])[j]'hj = vi := by subst h1; simp
          rw [e]
          exact ⟨⟨b, off, ha, hb, hcell⟩, hvi⟩
    exact this _ (Nat.le_refl _)
  obtain ⟨vs, h1, h2⟩ := hex
  refine ⟨vs, h1, ⟨a, cap, by rw [h1], by omega, by omega, fun i hi => ?_⟩, fun j hj hj' => (h2 j hj hj').2⟩
  obtain ⟨⟨b, off, ha, hb, hcell⟩, _⟩ := h2 i hi (by omega)
  exact ⟨b, off, vs[i], ha, hb, hcell, rfl⟩

theorem Ints.one {B : Nat} {w : World} {v : Value} {zs : List Int} (h : Ints B w v zs) : v.oneCell' = true := by
  obtain ⟨a, cap, rfl, _⟩ := h
  rfl

/-- What stands behind the first two clones. -/
def FCut (w : World) (rs : List (List Int)) (zs : List Int) (vs : List Value) (wx : World) : Prop := ∃ ad cd ar cr, wx.heap[w.heap.size]? = some (.cells #[.slice ad rs.length cd, .slice ar zs.length cr] 46 (0, 0)) ∧
  wx.heap[w.heap.size + 1]? = some (.cells #[.slice none 0 0, .slice none 0 0] 46 (0, 0)) ∧
  wx.ownsRow w.heap.size 24 1 (.slice ad rs.length cd) rs.length vs ∧ wx.ownsRow w.heap.size 3 1 (.slice ar zs.length cr) zs.length (zs.map (Value.int .i64)) ∧ Below w.heap.size w wx

theorem fcut_close {w W2 W2' w1 w2 : World} {rs : List (List Int)} {zs : List Int} {vs : List Value} {vd vr : Value} {a1 a2 : Option Addr} {c1 c2 : Nat} (hd : W2' = W2.drew) (hs0 : W2.heap.size = w.heap.size + 2) (hb0 : Below w.heap.size w W2)
    (hx2 : W2.heap[w.heap.size + 1]? = some (.cells #[.slice none 0 0, .slice none 0 0] 46 (0, 0))) (hx3 : w2.heap[w.heap.size]? = some (.cells #[vd, vr] 46 (0, 0)))
    (h1 : w1.ownsRow W2'.heap.size 24 1 (.slice a1 rs.length c1) rs.length vs) (k1 : Below W2'.heap.size W2' w1)
    (h2 : w2.ownsRow w1.heap.size 3 1 (.slice a2 zs.length c2) zs.length (zs.map (Value.int .i64))) (k2 : Below w1.heap.size w1 w2) :
    FCut w rs zs vs ((w2.setCell ⟨w.heap.size, 0, none⟩ (.slice a1 rs.length c1)).setCell ⟨w.heap.size, 1, none⟩ (.slice a2 zs.length c2)) := by
  subst hd
  have s0 : W2.drew.heap.size = w.heap.size + 2 := hs0
  have s1 := k1.size
  have s2 := k2.size
  have y2 := block_below k2 (block_below k1 hx2 (by omega)) (by omega)
  have o1 := own_below (own_base h1 (b' := w.heap.size) (by omega)) k2 (Nat.le_refl _)
  have o2 := own_base h2 (b' := w.heap.size) (by omega)
  refine ⟨a1, c1, a2, c2, ?_, ?_, ?_, ?_, ?_⟩
  · simpa using set_block (set_block hx3 (i := 0) (.slice a1 rs.length c1)) (i := 1) (.slice a2 zs.length c2)
  · exact set_block_ne (set_block_ne y2 (by omega) _) (by omega) _
  · exact own_set (own_set o1 (own_ne_block o1 hx3 (by decide)) _) (own_ne_block o1 hx3 (by decide)) _
  · exact own_set (own_set o2 (own_ne_block o2 hx3 (by decide)) _) (own_ne_block o2 hx3 (by decide)) _
  · exact ((((hb0.drew.trans (k1.mono (by omega))).trans (k2.mono (by omega))).setCell (by simp) _).setCell (by simp) _)

theorem own_some {w : World} {b : Nat} {t : TypeId} {sz : Nat} {a : Option Addr} {n c : Nat} {xs : List Value} (h : w.ownsRow b t sz (.slice a n c) n xs) (hn : 0 < n) : ∃ g cur, a = some ⟨g, 0, none⟩ ∧ b ≤ g ∧ w.heap[g]? = some (.cells cur t (0, 0)) ∧ n ≤ c := by
  rcases h.2 with ⟨_, h0⟩ | ⟨g, cap, cur, hv, hg, hh, hc, _⟩
  · omega
  · simp only [Value.slice.injEq] at hv
    obtain ⟨rfl, _, rfl⟩ := hv
    exact ⟨g, cur, rfl, hg, hh, hc⟩

/-- What holds ahead of round k. -/
def FLoop (w : World) (rs : List (List Int)) (zs : List Int) (vs0 : List Value) (vd vr : Value) (k : Nat) (wr : World) : Prop := ∃ vs : List Value, vs.length = rs.length ∧
  wr.heap[w.heap.size]? = some (.cells #[vd, vr] 46 (0, 0)) ∧ wr.heap[w.heap.size + 1]? = some (.cells #[.slice none 0 0, .slice none 0 0] 46 (0, 0)) ∧
  wr.ownsRow w.heap.size 24 1 vd rs.length vs ∧ wr.ownsRow w.heap.size 3 1 vr zs.length (zs.map (Value.int .i64)) ∧ RowsOwn w.heap.size wr vr rs k vs ∧ (∀ j, k ≤ j → vs.getD j undef = vs0.getD j undef) ∧ Below w.heap.size w wr

theorem floop_step {w wr wr' w1 : World} {rs : List (List Int)} {zs : List Int} {vs0 : List Value} {vr : Value} {g cd k : Nat} {a1 : Option Addr} {c1 : Nat} {row : List Int} (hrow : rs.getD k [] = row) (hd : wr' = wr.drew) (hk : k < rs.length)
    (h : FLoop w rs zs vs0 (.slice (some ⟨g, 0, none⟩) rs.length cd) vr k wr) (h1 : w1.ownsRow wr'.heap.size 3 1 (.slice a1 row.length c1) row.length (row.map (Value.int .i64))) (k1 : Below wr'.heap.size wr' w1) :
    FLoop w rs zs vs0 (.slice (some ⟨g, 0, none⟩) rs.length cd) vr (k + 1) (w1.setCell ⟨g, k, none⟩ (.slice a1 row.length c1)) := by
  subst hrow
  subst hd
  obtain ⟨vs, hl, hx, hy, hd, hr, hrows, hrest, hb⟩ := h
  have s0 : wr.drew.heap.size = wr.heap.size := rfl
  have s1 := k1.size
  have s2 := hb.size
  rw [s0] at s1 h1 k1
  have x1 := block_below k1 hx (Array.getElem?_eq_some_iff.1 hx).1
  have y1 := block_below k1 hy (Array.getElem?_eq_some_iff.1 hy).1
  have d1 := own_below (w := wr.drew) hd k1 (Nat.le_refl _)
  have r1 := own_below (w := wr.drew) hr k1 (Nat.le_refl _)
  obtain ⟨g', cur, hg', hbg, hblk, _⟩ := own_some d1 (by omega)
  simp only [Option.some.injEq, Addr.mk.injEq, and_true] at hg'
  subst hg'
  have hne : w.heap.size ≠ g := by
    intro e; subst e; rw [hblk] at x1; simp at x1
  have hne2 : w.heap.size + 1 ≠ g := by
    intro e; subst e; rw [hblk] at y1; simp at y1
  have keep : ∀ {v : Value} {n : Nat} {xs : List Value}, w1.ownsRow w.heap.size 3 1 v n xs → (w1.setCell ⟨g, k, none⟩ (.slice a1 (rs.getD k []).length c1)).ownsRow w.heap.size 3 1 v n xs := fun h => own_set h (own_ne_block h hblk (by decide)) _
  have n1 := own_base h1 (b' := w.heap.size) (by omega)
  have getk : (vs.set k (.slice a1 (rs.getD k []).length c1)).getD k undef = .slice a1 (rs.getD k []).length c1 := by simp [List.getD, hl, hk]
  have getj : ∀ j, j ≠ k → (vs.set k (.slice a1 (rs.getD k []).length c1)).getD j undef = vs.getD j undef := fun j hj => by simp [List.getD, Ne.symm hj]
  refine ⟨vs.set k (.slice a1 (rs.getD k []).length c1), by simpa using hl, set_block_ne x1 hne _, set_block_ne y1 hne2 _, (d1.stored k _).1, keep r1, ?_, ?_, (hb.drew.trans (k1.mono s2)).setCell hbg _⟩
  · intro j hj
    by_cases hjk : j = k
    · subst hjk
      rw [getk]
      have A1 := apart_of (w := wr.drew) hr h1 (Nat.le_refl _)
      refine ⟨keep n1, A1.2, A1.1, fun i hi hij => ?_⟩
      rw [getj i hij]
      exact (apart_of (w := wr.drew) (hrows i (by omega)).1 h1 (Nat.le_refl _)).2
    · obtain ⟨q1, q2, q3, q4⟩ := hrows j (by omega)
      rw [getj j hjk]
      refine ⟨keep (own_below (w := wr.drew) q1 k1 (Nat.le_refl _)), q2, q3, fun i hi hij => ?_⟩
      by_cases hik : i = k
      · subst hik
        rw [getk]
        exact (apart_of (w := wr.drew) q1 h1 (Nat.le_refl _)).1
      · rw [getj i hik]
        exact q4 i (by omega) hij
  · intro j hj
    rw [getj j (by omega)]
    exact hrest j (by omega)

theorem fcopy_fin {w wr : World} {rs : List (List Int)} {zs : List Int} {vs : List Value} {a1 a2 : Option Addr} {c1 c2 : Nat} (hl : vs.length = rs.length)
    (hy : wr.heap[w.heap.size + 1]? = some (.cells #[.slice none 0 0, .slice none 0 0] 46 (0, 0))) (hd : wr.ownsRow w.heap.size 24 1 (.slice a1 rs.length c1) rs.length vs) (hr : wr.ownsRow w.heap.size 3 1 (.slice a2 zs.length c2) zs.length (zs.map (Value.int .i64)))
    (hrows : RowsOwn w.heap.size wr (.slice a2 zs.length c2) rs rs.length vs) (hb : Below w.heap.size w wr) :
    FCopyPost w rs zs (.returned (.agg #[.slice a1 rs.length c1, .slice a2 zs.length c2])) ((wr.setCell ⟨w.heap.size + 1, 0, none⟩ (.slice a1 rs.length c1)).setCell ⟨w.heap.size + 1, 1, none⟩ (.slice a2 zs.length c2)) := by
  have keep : ∀ {e : TypeId} {v : Value} {n : Nat} {xs : List Value}, e ≠ 46 → wr.ownsRow w.heap.size e 1 v n xs → ((wr.setCell ⟨w.heap.size + 1, 0, none⟩ (.slice a1 rs.length c1)).setCell ⟨w.heap.size + 1, 1, none⟩ (.slice a2 zs.length c2)).ownsRow w.heap.size e 1 v n xs := fun he h => own_set (own_set h (own_ne_block h hy he) _) (own_ne_block h hy he) _
  exact ⟨a1, c1, a2, c2, vs, rfl, ⟨hl, keep (by decide) hd, keep (by decide) hr, fun j hj => ⟨keep (by decide) (hrows j hj).1, (hrows j hj).2⟩⟩, (hb.setCell (by simp) _).setCell (by simp) _⟩

/-- A clone of rows is handed back. -/
theorem cloneRows_any (v : Value) (vs : List Value) (n : Nat) (hn : vs.length = n) (w : World) (hv : SlV 5864062014634 w.heap.size w v vs) (hone : ∀ u ∈ vs, u.oneCell' = true) :
    Calls Try.prog 48 #[v] w fun e w' => ∃ a c, e = .returned (.slice a n c) ∧ w'.ownsRow w.heap.size 24 1 (.slice a n c) n vs ∧ Below w.heap.size w w' :=
  (cloneR_any v vs w hv hone).mono fun e w' ⟨u, he, ho, hb⟩ => by
    rw [hn] at ho
    obtain ⟨a, c, rfl⟩ := own_shape ho
    exact ⟨a, c, he, ho, hb⟩

set_option maxHeartbeats 4000000 in
set_option maxRecDepth 100000 in
theorem fcopy_any (v : Value) (rs : List (List Int)) (zs : List Int) (w : World) (hf : FramesR w.heap.size w v rs zs) : Calls Try.prog 30 #[v] w (FCopyPost w rs zs) := by
  obtain ⟨vd, vr, rfl, hd, hr⟩ := hf
  obtain ⟨vs0, hl0, hvs0, hrow0⟩ := hd.vals
  obtain ⟨ad, cd, hvd, _⟩ := id hd
  obtain ⟨ar, cr, hvr, _⟩ := id hr
  subst hvd hvr
  have HD := Lib.hid hvs0
  have HR := Lib.hid hr
  have HL := Lib.hid hl0
  have HW := Lib.hid hrow0
  have HO1 : Hid (∀ u ∈ vs0, u.oneCell' = true) := Lib.hid (by
    intro u hu
    obtain ⟨j, hj, rfl⟩ := List.mem_iff_getElem.1 hu
    exact (hrow0 j hj (by omega)).one)
  clear hd hvs0 hl0 hrow0 hr
  go_enter Try.func30, Try.ntmps30
  go_upto_region 1 with fail
  generalize hW : (w.alloc _).alloc _ = W2
  have hx1 : W2.heap[w.heap.size]? = some (.cells #[.slice ad rs.length cd, .slice ar zs.length cr] 46 (0, 0)) := by rw [← hW]; exact (alloc_lt (by simp)).trans (alloc_at rfl)
  have hx2 : W2.heap[w.heap.size + 1]? = some (.cells #[.slice none 0 0, .slice none 0 0] 46 (0, 0)) := by rw [← hW]; exact alloc_at (by simp)
  have hb0 : Below w.heap.size w W2 := by rw [← hW]; exact below_alloc2 _ _ _
  have hs0 : W2.heap.size = w.heap.size + 2 := by rw [← hW]; simp
  clear hW
  have c00 : W2.cell? ⟨w.heap.size, 0, none⟩ = some (.slice ad rs.length cd) := cell_block hx1 0
  have c01 : W2.cell? ⟨w.heap.size, 1, none⟩ = some (.slice ar zs.length cr) := cell_block hx1 1
  have HX1 := Lib.hid hx1
  have HX2 := Lib.hid hx2
  have HS0 := Lib.hid hs0
  clear hx1 hx2 hs0
  go_cut [] (fun wx => FCut w rs zs vs0 wx)
  case first =>
    go_region_with (first
      | (go_at_call 48; refine (cloneRows_any _ vs0 rs.length HL.out _ ?_ HO1.out).mono ?_; (exact HD.out.to (Nat.le_refl _) (by have := HS0.out; simp; omega) (same_below hb0.drew) (fun _ _ h => h)); rintro e w1 ⟨a1, cc1, rfl, hown1, hb1⟩; have HX11 := Lib.hid (block_below hb1 HX1.out (by have := HS0.out; simp; omega)); have c10 : w1.cell? ⟨w.heap.size, 0, none⟩ = some (.slice ad rs.length cd) := cell_block HX11.out 0; have c11 : w1.cell? ⟨w.heap.size, 1, none⟩ = some (.slice ar zs.length cr) := cell_block HX11.out 1)
      | (go_at_call 39; refine (cloneI_any _ zs _ ?_).mono ?_; (exact HR.out.to (by have := HS0.out; have := hb1.size; simp at this; omega) ((same_below hb0.drew).trans ((same_below hb1).mono (by have := HS0.out; simp; omega)))); rintro e w2 ⟨a2, cc2, rfl, hown2, hb2⟩; have HX12 := Lib.hid (block_below hb2 HX11.out (by have := HS0.out; have := hb1.size; simp at this; omega)); have c20 : w2.cell? ⟨w.heap.size, 0, none⟩ = some (.slice ad rs.length cd) := cell_block HX12.out 0; have c21 : w2.cell? ⟨w.heap.size, 1, none⟩ = some (.slice ar zs.length cr) := cell_block HX12.out 1; have f20 := free_block HX12.out 0; have f21 := free_block HX12.out 1))
    all_goals (go_wp2_with fail; go_meet)
    all_goals exact fcut_close rfl HS0.out hb0 HX2.out HX12.out hown1 hb1 hown2 hb2
  case rest =>
    obtain ⟨a1, c1, a2, c2, hx, hy, hd, hr, hb⟩ := hcut
    have q0 : wc.cell? ⟨w.heap.size, 0, none⟩ = some (.slice a1 rs.length c1) := cell_block hx 0
    have hloop : FLoop w rs zs vs0 (.slice a1 rs.length c1) (.slice a2 zs.length c2) 0 wc := ⟨vs0, HL.out, hx, hy, hd, hr, fun j hj => absurd hj (Nat.not_lt_zero _), fun _ _ => rfl, hb⟩
    clear hx hy hd hr hb
    have hlen : rs.length ≤ 5864062014634 := by obtain ⟨_, _, _, h, _⟩ := HD.out; rw [HL.out] at h; exact h
    go_wp2
    go_loopw [15] (fun i wr => ∃ k : Nat, k ≤ rs.length ∧ i = .int .i64 k ∧ FLoop w rs zs vs0 (.slice a1 rs.length c1) (.slice a2 zs.length c2) k wr) (fun i _ => rs.length - (intOf i).toNat)
    case atStart => exact ⟨0, Nat.zero_le _, rfl, hloop⟩
    case round =>
      obtain ⟨k, hk, rfl, hrel⟩ := hrel
      have HREL := Lib.hid hrel
      obtain ⟨vs, hl, hx, hy, hd, hr, hrows, hrest, hb⟩ := hrel
      by_cases hlt : k < rs.length
      · obtain ⟨g, cur, hga, hbg, hblk, hcap⟩ := own_some hd (by omega)
        subst hga
        have e0 : wr.cell? ⟨w.heap.size, 0, none⟩ = some (.slice (some ⟨g, 0, none⟩) rs.length c1) := cell_block hx 0
        have hvk := hrest k (Nat.le_refl _)
        have hrk := HW.out k (by rw [HL.out]; exact hlt) hlt
        rw [← getD_of (by rw [HL.out]; exact hlt) undef, ← hvk, ← getD_of hlt []] at hrk
        obtain ⟨ak, ck, hvv, _⟩ := id hrk
        rw [hvv] at hrk
        have ek : wr.cell? ⟨g, k, none⟩ = some (.slice ak (rs.getD k []).length ck) := by
          rw [hd.cellAt k (by omega), ← hvv, getD_of (by omega) undef]
          exact List.getElem?_eq_getElem (by omega)
        have HRK := Lib.hid hrk
        have HX := Lib.hid hx
        have HBLK := Lib.hid hblk
        have HB := Lib.hid hb
        have hgs : g < wr.heap.size := (Array.getElem?_eq_some_iff.1 hblk).1
        have hws : w.heap.size < wr.heap.size := (Array.getElem?_eq_some_iff.1 hx).1
        clear hx hy hd hr hrows hrest hvk hvv hblk hb hl hrk
        generalize hrow : rs.getD k [] = row at *
        have HROW := Lib.hid hrow
        clear hrow
        go_wp2_with fail
        go_region_with ((go_at_call 39; refine (cloneI_any _ row _ ?_).mono ?_; (exact HRK.out.to (by simp; omega) (same_below HB.out.drew)); rintro e w1 ⟨b1, d1, rfl, hown1, hb1⟩; have HX1 := Lib.hid (block_below hb1 HX.out (by simp; omega)); have HG1 := Lib.hid (block_below hb1 HBLK.out (by simp; omega)); have e10 : w1.cell? ⟨w.heap.size, 0, none⟩ = some (.slice (some ⟨g, 0, none⟩) rs.length c1) := cell_block HX1.out 0; have ek1 : w1.cell? ⟨g, k, none⟩ = some (.slice ak row.length ck) := (same_below hb1 _ _ (by simp; omega)).trans ek; have fk1 := free_block HG1.out k))
        all_goals go_wp2
        all_goals
          go_roundw
          case rel => exact ⟨k + 1, by omega, by go_num, floop_step HROW.out rfl hlt HREL.out hown1 hb1⟩
          case measure => simp [intOf]; omega
      · obtain rfl : k = rs.length := by omega
        have e0 : wr.cell? ⟨w.heap.size, 0, none⟩ = some (.slice a1 rs.length c1) := cell_block hx 0
        have e1 : wr.cell? ⟨w.heap.size, 1, none⟩ = some (.slice a2 zs.length c2) := cell_block hx 1
        have r0 : wr.cell? ⟨w.heap.size + 1, 0, none⟩ = some (.slice none 0 0) := cell_block hy 0
        have r1 : wr.cell? ⟨w.heap.size + 1, 1, none⟩ = some (.slice none 0 0) := cell_block hy 1
        have g0 := free_block hy 0
        have g1 := free_block hy 1
        have hfin := Lib.hid (fcopy_fin hl hy hd hr hrows hb)
        clear hx hy hd hr hrows hrest hb hl
        go_wp2
        exact bodyPost_ret (v := .agg #[.slice a1 rs.length c1, .slice a2 zs.length c2]) (by simp [results, Try.results30, go_sem, r0, r1]) rfl hfin.out

/-- What frames that are read are sure to be. -/
structure FBd (rs : List (List Int)) (zs : List Int) : Prop where
  row : ∀ row ∈ rs, (∀ z ∈ row, I64 z) ∧ row.length ≤ 17592186043904
  ref : ∀ z ∈ zs, I64 z
  nd : rs.length ≤ 5864062014634
  nr : zs.length ≤ 17592186043904
theorem FramesR.bd {B : Nat} {w : World} {v : Value} {rs : List (List Int)} {zs : List Int} (h : FramesR B w v rs zs) : FBd rs zs := by
  obtain ⟨vd, vr, _, hd, hr⟩ := h
  obtain ⟨_, _, _, hl, _, hc⟩ := hd
  refine ⟨fun row hrow => ?_, hr.i64, hl, hr.len⟩
  obtain ⟨i, hi, rfl⟩ := List.mem_iff_getElem.1 hrow
  obtain ⟨_, _, _, _, _, _, hv⟩ := hc i hi
  exact ⟨hv.i64, hv.len⟩
theorem FrOwn.reads {base : Nat} {w : World} {vd vr : Value} {rs : List (List Int)} {zs : List Int} {vs : List Value} (h : FrOwn base w vd vr rs zs vs) (hb : FBd rs zs) : FramesR w.heap.size w (.agg #[vd, vr]) rs zs := by
  refine ⟨vd, vr, rfl, ?_, ints_of_owns h.r hb.nr hb.ref⟩
  refine sl1_of_owns (xs := rs) h.d hb.nd (fun i hi hv => ?_)
  have := (h.rows i hi).1
  rw [getD_of hv, getD_of hi] at this
  exact ints_of_owns this (hb.row _ (List.getElem_mem hi)).2 (hb.row _ (List.getElem_mem hi)).1
/-- Frames are handed back, and read as these. -/
def FRead (w : World) (rs : List (List Int)) (zs : List Int) (e : Ending) (w' : World) : Prop := ∃ v, e = .returned v ∧ FramesR w'.heap.size w' v rs zs ∧ Below w.heap.size w w'
theorem FCopyPost.read {w w' : World} {rs : List (List Int)} {zs : List Int} {e : Ending} (h : FCopyPost w rs zs e w') (hb : FBd rs zs) : FRead w rs zs e w' := by
  obtain ⟨ad, cd, ar, cr, vs, he, ho, hbel⟩ := h
  exact ⟨_, he, ho.reads hb, hbel⟩
end Go.Proofs.Ytneeimfffoomgaa
