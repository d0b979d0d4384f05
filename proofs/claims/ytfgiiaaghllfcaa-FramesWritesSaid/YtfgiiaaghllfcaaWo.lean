/- The contract of the reference's WroteOf. No condition. -/
import Derived.Test.YtfgiiaaghllfcaaWc
namespace Go.Proofs.Ytfgiiaaghllfcaa
open Go Go.RowKit Go.ChangeShapes Go.WideShapes Go.Deep
set_option linter.unusedVariables false
attribute [local go_sem ↓] Go.wp_at_zero Go.wp_at_succ

set_option maxHeartbeats 2000000 in
theorem wroteOf_no (v : Value) (rs : List (List Int)) (zs : List Int) (n at_ x c : Int) (w : World) (hf : FramesR w.heap.size w v rs zs) (h : (¬ FOk rs zs ∧ c = 8) ∨ (FOk rs zs ∧ ¬ Kn zs n ∧ c = 6)) : Calls Try.prog 69 #[v, .int .i64 n, .int .i64 at_, .int .i64 x] w (KnNoI w c) := by
  have HF := Lib.hid hf
  obtain ⟨a, c1, a', c2, hs⟩ := hf.shape
  subst hs
  clear hf
  have hcz : (c != 0) = true := by rw [bne_iff_ne]; rcases h with ⟨_, rfl⟩ | ⟨_, _, rfl⟩ <;> decide
  have hce : (c == 0) = false := by rw [beq_eq_false_iff_ne]; rcases h with ⟨_, rfl⟩ | ⟨_, _, rfl⟩ <;> decide
  have HK := Lib.hid (kfault_any (.agg #[.slice a rs.length c1, .slice a' zs.length c2]) rs zs n c (by
    rcases h with ⟨h, rfl⟩ | ⟨h, k, rfl⟩
    · exact Or.inl ⟨h, rfl⟩
    · exact Or.inr (Or.inl ⟨h, k, rfl⟩)))
  clear h
  go_enter Try.func69, Try.ntmps69
  go_wp2_with fail
  refine (HK.out _ (HF.out.to (by simp; omega) (same_below (below_alloc2 _ _ _)))).mono ?_
  rintro e w1 ⟨rfl, hb1⟩
  have s1 := hb1.size
  simp only [World.size_alloc] at s1
  have hB := (below_alloc2 w _ _).trans (hb1.mono (by simp; omega))
  have hy := block_below hb1 (g := w.heap.size + 1) (alloc_at (by simp)) (by simp)
  have r0 : w1.cell? ⟨w.heap.size + 1, 0, none⟩ = some (.slice none 0 0) := cell_block hy 0
  have r1 : w1.cell? ⟨w.heap.size + 1, 1, none⟩ = some (.slice none 0 0) := cell_block hy 1
  have g0 := free_block hy 0
  have g1 := free_block hy 1
  have HBB := Lib.hid ((hB.setCell (p := ⟨w.heap.size + 1, 0, none⟩) (by simp) (.slice none 0 0)).setCell (p := ⟨w.heap.size + 1, 1, none⟩) (by simp) (.slice none 0 0))
  clear hy hB hb1
  go_wp2
  exact bodyPost_ret (v := .tuple #[.agg #[.slice none 0 0, .slice none 0 0], .int .i64 0, .int .i64 c]) (by simp [results, Try.results69, go_sem, r0, r1]) rfl ⟨rfl, HBB.out⟩

set_option maxHeartbeats 2000000 in
theorem wroteOf_off (v : Value) (rs : List (List Int)) (zs : List Int) (n at_ x : Int) (w : World) (hf : FramesR w.heap.size w v rs zs) (hok : FOk rs zs) (hk : Kn zs n) (ho : at_ < 0 ∨ 16 ≤ at_) : Calls Try.prog 69 #[v, .int .i64 n, .int .i64 at_, .int .i64 x] w (KnNoI w 2) := by
  have HF := Lib.hid hf
  obtain ⟨a, c1, a', c2, hs⟩ := hf.shape
  subst hs
  clear hf
  have HK := Lib.hid (kfault_any (.agg #[.slice a rs.length c1, .slice a' zs.length c2]) rs zs n 0 (Or.inr (Or.inr ⟨hok, hk, rfl⟩)))
  have hin : ¬ (0 ≤ at_ ∧ at_ ≤ 15) := by omega
  have HIN := Lib.hid hin
  clear hok hk ho hin
  go_enter Try.func69, Try.ntmps69
  go_wp2_with fail
  refine (HK.out _ (HF.out.to (by simp; omega) (same_below (below_alloc2 _ _ _)))).mono ?_
  rintro e w1 ⟨rfl, hb1⟩
  have s1 := hb1.size
  simp only [World.size_alloc] at s1
  have hB := (below_alloc2 w _ _).trans (hb1.mono (by simp; omega))
  have hy := block_below hb1 (g := w.heap.size + 1) (alloc_at (by simp)) (by simp)
  have r0 : w1.cell? ⟨w.heap.size + 1, 0, none⟩ = some (.slice none 0 0) := cell_block hy 0
  have r1 : w1.cell? ⟨w.heap.size + 1, 1, none⟩ = some (.slice none 0 0) := cell_block hy 1
  have g0 := free_block hy 0
  have g1 := free_block hy 1
  have HBB := Lib.hid ((hB.setCell (p := ⟨w.heap.size + 1, 0, none⟩) (by simp) (.slice none 0 0)).setCell (p := ⟨w.heap.size + 1, 1, none⟩) (by simp) (.slice none 0 0))
  clear hy hB hb1
  go_wp2_with (go_at_call 82; refine (in_no _ _ _ _ ?_).mono ?_; exact HIN.out; rintro e w' ⟨rfl, rfl⟩)
  exact bodyPost_ret (v := .tuple #[.agg #[.slice none 0 0, .slice none 0 0], .int .i64 0, .int .i64 2]) (by simp [results, Try.results69, go_sem, r0, r1]) rfl ⟨rfl, HBB.out⟩

/-- The reading of the row k of frames. -/
theorem row_at {rs : List (List Int)} {zs : List Int} {w : World} {B k : Nat} {vr : Value} {a : Option Addr} {c1 : Nat} (hf : FramesR B w (.agg #[.slice a rs.length c1, vr]) rs zs) (hk : k < rs.length) : ∃ b off vi, a = some ⟨b, off, none⟩ ∧ b < B ∧ w.cell? ⟨b, off + k, none⟩ = some vi ∧ Ints B w vi (rs.getD k []) := by
  obtain ⟨vd', vr', hv, ⟨a0, c, hvd, _, _, hc⟩, _⟩ := hf
  simp only [Value.agg.injEq, Array.mk.injEq, List.cons.injEq, and_true] at hv
  obtain ⟨rfl, rfl⟩ := hv
  simp only [Value.slice.injEq, true_and] at hvd
  obtain ⟨rfl, rfl⟩ := hvd
  obtain ⟨b, off, vi, ha, hb, hcell, hvi⟩ := hc k hk
  rw [← getD_of hk []] at hvi
  exact ⟨b, off, vi, ha, hb, hcell, hvi⟩

theorem frames_put {wx : World} {p q i : Nat} {cs cur : Array Value} {t : TypeId} {fr : Nat × Nat} {u : Value} (hp : wx.heap[p]? = some (.cells cs 28 fr)) (hq : wx.heap[q]? = some (.cells cur t (0, 0))) (ht : 28 ≠ t) : (wx.setCell ⟨q, i, none⟩ u).heap[p]? = some (.cells cs 28 fr) := by
  refine set_block_ne hp (fun e => ?_) _
  subst e
  rw [hq] at hp
  simp only [Option.some.injEq, Obj.cells.injEq] at hp
  exact ht hp.2.1.symm

/-- What stands behind the copy of the frames, in a box g. -/
theorem wo_open {w w1 w2 : World} {rs : List (List Int)} {zs : List Int} {vs : List Value} {vd vr pd pr : Value} (hB : Below w.heap.size w w1) (hx : w1.heap[w.heap.size]? = some (.cells #[pd, pr] 28 (0, 0))) (hy : w1.heap[w.heap.size + 1]? = some (.cells #[.slice none 0 0, .slice none 0 0] 28 (0, 0)))
    (hown : FrOwn w1.heap.size w2 vd vr rs zs vs) (hb2 : Below w1.heap.size w1 w2) :
    FBx w w2.heap.size rs zs vd vr vs (w2.alloc (.cells #[vd, vr] 28 (0, 0))) ∧ (w2.alloc (.cells #[vd, vr] 28 (0, 0))).heap[w.heap.size]? = some (.cells #[pd, pr] 28 (0, 0)) := by
  have l1 := (Array.getElem?_eq_some_iff.1 hx).1
  have l2 := (Array.getElem?_eq_some_iff.1 hy).1
  have s1 := hB.size
  have s2 := hb2.size
  have x2 := block_below hb2 hx l1
  have y2 := block_below hb2 hy l2
  exact ⟨⟨alloc_at rfl, (alloc_lt (by omega)).trans y2, (hown.base (b' := w.heap.size) (by omega)).grown (below_alloc _ _), (hB.trans (hb2.mono (by omega))).alloc (by omega) _⟩, (alloc_lt (by omega)).trans x2⟩
end Go.Proofs.Ytfgiiaaghllfcaa
