/- Contracts of frames.known and of the reference's knownFault. No condition. -/
import Derived.Test.YtneeimfffoomgaaFd
namespace Go.Proofs.Ytneeimfffoomgaa
open Go Go.RowKit Go.ChangeShapes Go.WideShapes Go.Deep
set_option linter.unusedVariables false

/-- There is such a frame, and somebody knows it. -/
def Kn (zs : List Int) (n : Int) : Prop := 0 ≤ n ∧ n < zs.length ∧ zs.getD n.toNat 0 ≠ 0

/-- The facts of a call whose argument is boxed frames. -/
theorem box_at {w w1 : World} {O : Obj} (hb : Below (w.alloc O).heap.size (w.alloc O) w1) : w1.heap[w.heap.size]? = some O := block_below hb (alloc_at rfl) (by simp)

/-- known hands back no frames. -/
def KnNo (w : World) (c : Int) (e : Ending) (w' : World) : Prop := e = .returned (.tuple #[.agg #[.slice none 0 0, .slice none 0 0], .int .i64 c]) ∧ Below w.heap.size w w'
/-- known hands back a copy. -/
def KnYes (w : World) (rs : List (List Int)) (zs : List Int) (e : Ending) (w' : World) : Prop := ∃ ad cd ar cr vs, e = .returned (.tuple #[.agg #[.slice ad rs.length cd, .slice ar zs.length cr], .int .i64 0]) ∧ FrOwn w.heap.size w' (.slice ad rs.length cd) (.slice ar zs.length cr) rs zs vs ∧ Below w.heap.size w w'

theorem FrOwn.set {base g i : Nat} {w : World} {vd vr u : Value} {rs : List (List Int)} {zs : List Int} {vs : List Value} {cs : Array Value} {t : TypeId} {fr : Nat × Nat} (h : FrOwn base w vd vr rs zs vs) (hg : w.heap[g]? = some (.cells cs t fr)) (h1 : 3 ≠ t) (h2 : 24 ≠ t) : FrOwn base (w.setCell ⟨g, i, none⟩ u) vd vr rs zs vs :=
  ⟨h.len, own_set h.d (own_ne_block h.d hg h2) _, own_set h.r (own_ne_block h.r hg h1) _, fun j hj => ⟨own_set (h.rows j hj).1 (own_ne_block (h.rows j hj).1 hg h1) _, (h.rows j hj).2⟩⟩
theorem FrOwn.base {b b' : Nat} {w : World} {vd vr : Value} {rs : List (List Int)} {zs : List Int} {vs : List Value} (h : FrOwn b w vd vr rs zs vs) (hle : b' ≤ b) : FrOwn b' w vd vr rs zs vs :=
  ⟨h.len, own_base h.d hle, own_base h.r hle, fun j hj => ⟨own_base (h.rows j hj).1 hle, (h.rows j hj).2⟩⟩

set_option maxHeartbeats 1000000 in
theorem known_bad (v : Value) (rs : List (List Int)) (zs : List Int) (n : Int) (w : World) (hf : FramesR w.heap.size w v rs zs) (hok : ¬ FOk rs zs) : Calls Try.prog 47 #[v, .int .i64 n] w (KnNo w 8) := by
  obtain ⟨a, c, a', c', hs⟩ := hf.shape
  subst hs
  have HF := Lib.hid hf
  clear hf
  go_enter Try.func47, Try.ntmps47
  go_wp2_with fail
  refine (fcheck_any _ rs zs _ (HF.out.to (by simp; omega) (same_below (below_alloc2 _ _ _)))).mono ?_
  rintro e w1 ⟨⟨hno, rfl⟩ | ⟨_, rfl⟩, hb1⟩
  · exact absurd hno hok
  have hB := (below_alloc2 w _ _).trans (hb1.mono (by simp; omega))
  have hy := block_below hb1 (g := w.heap.size + 1) (alloc_at (by simp)) (by simp)
  have r0 : w1.cell? ⟨w.heap.size + 1, 0, none⟩ = some (.slice none 0 0) := cell_block hy 0
  have r1 : w1.cell? ⟨w.heap.size + 1, 1, none⟩ = some (.slice none 0 0) := cell_block hy 1
  have g0 := free_block hy 0
  have g1 := free_block hy 1
  have HBB := Lib.hid ((hB.setCell (p := ⟨w.heap.size + 1, 0, none⟩) (by simp) (.slice none 0 0)).setCell (p := ⟨w.heap.size + 1, 1, none⟩) (by simp) (.slice none 0 0))
  clear hy hB hb1
  go_wp2
  exact bodyPost_ret (v := .tuple #[.agg #[.slice none 0 0, .slice none 0 0], .int .i64 8]) (by simp [results, Try.results47, go_sem, r0, r1]) rfl ⟨rfl, HBB.out⟩

set_option maxHeartbeats 2000000 in
theorem known_ok (v : Value) (rs : List (List Int)) (zs : List Int) (n : Int) (w : World) (hf : FramesR w.heap.size w v rs zs) (hok : FOk rs zs) : (¬ Kn zs n → Calls Try.prog 47 #[v, .int .i64 n] w (KnNo w 6)) ∧ (Kn zs n → Calls Try.prog 47 #[v, .int .i64 n] w (KnYes w rs zs)) := by
  obtain ⟨vd, vr, rfl, ⟨a, cd, rfl, _⟩, hr⟩ := id hf
  obtain ⟨a', cr, rfl, hl, hl2, hcr⟩ := hr
  have HF := Lib.hid hf
  have HR := Lib.hid hcr
  have HOK := Lib.hid hok
  have hlen : zs.length ≤ 200 := hok.2.1
  clear hf hcr hok
  constructor
  · intro hk
    have HK := Lib.hid hk
    clear hk
    go_enter Try.func47, Try.ntmps47
    go_wp2_with fail
    refine (fcheck_any _ rs zs _ (HF.out.to (by simp; omega) (same_below (below_alloc2 _ _ _)))).mono ?_
    rintro e w1 ⟨⟨_, rfl⟩ | ⟨hno, rfl⟩, hb1⟩
    rotate_left
    · exact absurd HOK.out hno
    have hB := (below_alloc2 w _ _).trans (hb1.mono (by simp; omega))
    have hx := block_below hb1 (g := w.heap.size) ((alloc_lt (by simp)).trans (alloc_at rfl)) (by simp; omega)
    have hy := block_below hb1 (g := w.heap.size + 1) (alloc_at (by simp)) (by simp)
    have q1 : w1.cell? ⟨w.heap.size, 1, none⟩ = some (.slice a' zs.length cr) := cell_block hx 1
    have r0 : w1.cell? ⟨w.heap.size + 1, 0, none⟩ = some (.slice none 0 0) := cell_block hy 0
    have r1 : w1.cell? ⟨w.heap.size + 1, 1, none⟩ = some (.slice none 0 0) := cell_block hy 1
    have g0 := free_block hy 0
    have g1 := free_block hy 1
    have HBB := Lib.hid ((hB.setCell (p := ⟨w.heap.size + 1, 0, none⟩) (by simp) (.slice none 0 0)).setCell (p := ⟨w.heap.size + 1, 1, none⟩) (by simp) (.slice none 0 0))
    have HB := Lib.hid hb1
    clear hx hy hB hb1
    by_cases hin : 0 ≤ n ∧ n < (zs.length : Int)
    · obtain ⟨k, rfl⟩ : ∃ k : Nat, n = k := ⟨n.toNat, by omega⟩
      have hk : k < zs.length := by omega
      obtain ⟨b, off, vi, ha, hbb, hcell, hvi, hz⟩ := HR.out k hk
      subst ha hvi
      have hz0 : zs[k] = 0 := by
        have hzk := getD_of hk 0
        rcases Decidable.em (zs[k] = 0) with h | h
        · exact h
        · exact absurd ⟨by omega, by omega, by simp only [Int.toNat_natCast]; rw [hzk]; exact h⟩ HK.out
      rw [hz0] at hcell
      clear hz
      have e1 : w1.cell? ⟨b, off + k, none⟩ = some (.int .i64 0) := (same_below HB.out _ _ (by simp; omega)).trans ((same_below (below_alloc2 _ _ _) _ _ hbb).trans hcell)
      go_wp2
      exact bodyPost_ret (v := .tuple #[.agg #[.slice none 0 0, .slice none 0 0], .int .i64 6]) (by simp [results, Try.results47, go_sem, r0, r1]) rfl ⟨rfl, HBB.out⟩
    · rcases (show n < 0 ∨ (zs.length : Int) ≤ n by omega) with hn | hn
      · go_wp2
        exact bodyPost_ret (v := .tuple #[.agg #[.slice none 0 0, .slice none 0 0], .int .i64 6]) (by simp [results, Try.results47, go_sem, r0, r1]) rfl ⟨rfl, HBB.out⟩
      · have hn' : ¬ n < 0 := by omega
        go_wp2
        exact bodyPost_ret (v := .tuple #[.agg #[.slice none 0 0, .slice none 0 0], .int .i64 6]) (by simp [results, Try.results47, go_sem, r0, r1]) rfl ⟨rfl, HBB.out⟩
  · intro hkn
    obtain ⟨h1, h2, h3⟩ := hkn
    obtain ⟨k, rfl⟩ : ∃ k : Nat, n = k := ⟨n.toNat, by omega⟩
    have hk : k < zs.length := by omega
    simp only [Int.toNat_natCast] at h3
    rw [getD_of hk] at h3
    go_enter Try.func47, Try.ntmps47
    go_wp2_with fail
    refine (fcheck_any _ rs zs _ (HF.out.to (by simp; omega) (same_below (below_alloc2 _ _ _)))).mono ?_
    rintro e w1 ⟨⟨_, rfl⟩ | ⟨hno, rfl⟩, hb1⟩
    rotate_left
    · exact absurd HOK.out hno
    have s1 := hb1.size
    simp only [World.size_alloc] at s1
    have hB := (below_alloc2 w _ _).trans (hb1.mono (by simp; omega))
    have hx := block_below hb1 (g := w.heap.size) ((alloc_lt (by simp)).trans (alloc_at rfl)) (by simp; omega)
    have hy := block_below hb1 (g := w.heap.size + 1) (alloc_at (by simp)) (by simp)
    have q0 : w1.cell? ⟨w.heap.size, 0, none⟩ = some (.slice a rs.length cd) := cell_block hx 0
    have q1 : w1.cell? ⟨w.heap.size, 1, none⟩ = some (.slice a' zs.length cr) := cell_block hx 1
    obtain ⟨b, off, vi, ha, hbb, hcell, hvi, hz⟩ := HR.out k hk
    subst ha hvi
    have e1 : w1.cell? ⟨b, off + k, none⟩ = some (.int .i64 zs[k]) := (same_below hb1 _ _ (by simp; omega)).trans ((same_below (below_alloc2 _ _ _) _ _ hbb).trans hcell)
    generalize zs[k] = z at *
    have hzb : (z == 0) = false := by rw [beq_eq_false_iff_ne]; exact h3
    have HS := Lib.hid hB
    have HY := Lib.hid hy
    clear hx hy hB hb1 hz
    go_wp2_with fail
    refine (fcopy_any _ rs zs _ (HF.out.to (by omega) (same_below HS.out))).mono ?_
    rintro e w2 ⟨ad2, cd2, ar2, cr2, vs, rfl, hown, hb2⟩
    have hy2 := block_below hb2 HY.out (by omega)
    have r0 : w2.cell? ⟨w.heap.size + 1, 0, none⟩ = some (.slice none 0 0) := cell_block hy2 0
    have r1 : w2.cell? ⟨w.heap.size + 1, 1, none⟩ = some (.slice none 0 0) := cell_block hy2 1
    have g0 := free_block hy2 0
    have g1 := free_block hy2 1
    have HFO := Lib.hid (((hown.base (b' := w.heap.size) (by omega)).set (i := 0) (u := .slice ad2 rs.length cd2) hy2 (by decide) (by decide)).set (i := 1) (u := .slice ar2 zs.length cr2) (set_block hy2 _) (by decide) (by decide))
    have HBB := Lib.hid (((HS.out.trans (hb2.mono (by omega))).setCell (p := ⟨w.heap.size + 1, 0, none⟩) (by simp) (.slice ad2 rs.length cd2)).setCell (p := ⟨w.heap.size + 1, 1, none⟩) (by simp) (.slice ar2 zs.length cr2))
    clear hy2 hown hb2
    go_wp2
    exact bodyPost_ret (v := .tuple #[.agg #[.slice ad2 rs.length cd2, .slice ar2 zs.length cr2], .int .i64 0]) (by simp [results, Try.results47, go_sem, r0, r1]) rfl ⟨ad2, cd2, ar2, cr2, vs, rfl, HFO.out, HBB.out⟩
end Go.Proofs.Ytneeimfffoomgaa
