/- What is done with frames that may be: frames that may be, or a refusal. No condition. -/
import Derived.Test.YtneeimfffoomgaaFk
namespace Go.Proofs.Ytneeimfffoomgaa
open Go Go.RowKit Go.ChangeShapes Go.WideShapes Go.Deep
set_option linter.unusedVariables false

theorem getD_set_same {α : Type} {l : List α} {k : Nat} (h : k < l.length) (x d : α) : (l.set k x).getD k d = x := by simp [List.getD, h]
theorem getD_set_ne {α : Type} {l : List α} {k j : Nat} (h : j ≠ k) (x d : α) : (l.set k x).getD j d = l.getD j d := by simp [List.getD, Ne.symm h]
theorem FOk.put {rs : List (List Int)} {zs : List Int} {k : Nat} (h : FOk rs zs) (hk : k < zs.length) {row : List Int} {z : Int} (hz : OkAt z row.length) : FOk (rs.set k row) (zs.set k z) := by
  obtain ⟨h1, h2, h3⟩ := h
  refine ⟨by simpa using h1, by simpa using h2, fun j hj => ?_⟩
  rw [List.length_set] at hj
  by_cases hjk : j = k
  · subst hjk
    rw [getD_set_same (by omega), getD_set_same (by omega)]
    exact hz
  · rw [getD_set_ne hjk, getD_set_ne hjk]
    exact h3 j hj
theorem FOk.putRef {rs : List (List Int)} {zs : List Int} {k : Nat} (h : FOk rs zs) (hk : k < zs.length) {z : Int} (hz : OkAt z (rs.getD k []).length) : FOk rs (zs.set k z) := by
  have e : rs.set k (rs.getD k []) = rs := by
    apply List.ext_getElem (by simp)
    intro i hi hi'
    rw [List.getElem_set]
    split
    · subst_vars; rw [getD_of (by have := h.1; omega)]
    · rfl
  have := h.put hk hz
  rw [e] at this
  exact this
theorem FOk.putRow {rs : List (List Int)} {zs : List Int} {k : Nat} (h : FOk rs zs) (hk : k < zs.length) {row : List Int} (hz : OkAt (zs.getD k 0) row.length) : FOk (rs.set k row) zs := by
  have e : zs.set k (zs.getD k 0) = zs := by
    apply List.ext_getElem (by simp)
    intro i hi hi'
    rw [List.getElem_set]
    split
    · subst_vars; rw [getD_of hk]
    · rfl
  have := h.put hk hz
  rw [e] at this
  exact this

/-- Frames that may be, of numbers of 64 bits. -/
structure FGood (rs : List (List Int)) (zs : List Int) : Prop where
  ok : FOk rs zs
  bd : FBd rs zs

theorem take_tot {rs : List (List Int)} {zs : List Int} (h : FGood rs zs) : (∃ rs' zs', ∃ k : Nat, FGood rs' zs' ∧ ∀ (v : Value) (w : World), FramesR w.heap.size w v rs zs → Calls Try.prog 23 #[v] w (FrYesI w k rs' zs')) ∨ (∀ (v : Value) (w : World), FramesR w.heap.size w v rs zs → Calls Try.prog 23 #[v] w (KnNoI w 7)) := by
  obtain ⟨i, hi⟩ := fz_ex zs
  rcases id hi with ⟨k, rfl, hk, h0, _⟩ | ⟨rfl, _⟩
  · refine Or.inl ⟨_, _, k, ⟨h.ok.put hk (row := List.replicate 16 0) (okU (by simp) 1 (by omega) (by omega)), (h.bd.setRow k (i64_zeros 16) (by simp)).setRef k 1 (by unfold I64; omega)⟩, fun v w hf => take_yes v rs zs k w hf h.ok hi hk⟩
  · exact Or.inr fun v w hf => take_full v rs zs w hf h.ok hi

/-- A call that hands back frames and what is wrong. -/
def TotF (F : Nat) (args : Value → Array Value) (rs : List (List Int)) (zs : List Int) : Prop := (∃ rs' zs', FGood rs' zs' ∧ ∀ (v : Value) (w : World), FramesR w.heap.size w v rs zs → Calls Try.prog F (args v) w (FrYes w rs' zs')) ∨ (∃ c : Int, c ≠ 0 ∧ ∀ (v : Value) (w : World), FramesR w.heap.size w v rs zs → Calls Try.prog F (args v) w (KnNo w c))
theorem share_tot {rs : List (List Int)} {zs : List Int} (h : FGood rs zs) (n : Int) : TotF 27 (fun v => #[v, .int .i64 n]) rs zs := by
  rcases Classical.em (Kn zs n) with k | k
  · obtain ⟨q, rfl⟩ : ∃ q : Nat, n = q := ⟨n.toNat, by have := k.1; omega⟩
    obtain ⟨k1, k2, k3, k4, k5⟩ := kn_len h.ok k
    by_cases e : zs.getD q 0 = 200
    · exact Or.inr ⟨1, by omega, fun v w hf => (share_yes v rs zs q _ w hf h.ok k rfl).1 e⟩
    · exact Or.inl ⟨_, _, ⟨h.ok.putRef k1 (okU k3 _ (by omega) (by omega)), h.bd.setRef q _ (by unfold I64; omega)⟩, fun v w hf => (share_yes v rs zs q _ w hf h.ok k rfl).2 e⟩
  · exact Or.inr ⟨6, by omega, fun v w hf => share_no v rs zs n 6 w hf (Or.inr ⟨h.ok, k, rfl⟩)⟩
theorem drop_tot {rs : List (List Int)} {zs : List Int} (h : FGood rs zs) (n : Int) : TotF 24 (fun v => #[v, .int .i64 n]) rs zs := by
  rcases Classical.em (Kn zs n) with k | k
  · obtain ⟨q, rfl⟩ : ∃ q : Nat, n = q := ⟨n.toNat, by have := k.1; omega⟩
    obtain ⟨k1, k2, k3, k4, k5⟩ := kn_len h.ok k
    by_cases e : zs.getD q 0 = 1
    · exact Or.inl ⟨_, _, ⟨h.ok.put k1 (row := []) okF, (h.bd.setNil q).setRef q 0 (by unfold I64; omega)⟩, fun v w hf => (drop_yes v rs zs q _ w hf h.ok k rfl).2 e⟩
    · exact Or.inl ⟨_, _, ⟨h.ok.putRef k1 (okU k3 _ (by omega) (by omega)), h.bd.setRef q _ (by unfold I64; omega)⟩, fun v w hf => (drop_yes v rs zs q _ w hf h.ok k rfl).1 e⟩
  · exact Or.inr ⟨6, by omega, fun v w hf => drop_no v rs zs n 6 w hf (Or.inr ⟨h.ok, k, rfl⟩)⟩
theorem write_tot {rs : List (List Int)} {zs : List Int} (h : FGood rs zs) (n : Int) (j : Nat) (hj : j < 16) (x : Int) (hx : I64 x) : (∃ rs' zs', ∃ k : Nat, FGood rs' zs' ∧ ∀ (v : Value) (w : World), FramesR w.heap.size w v rs zs → Calls Try.prog 26 #[v, .int .i64 n, .int .i64 j, .int .i64 x] w (FrYesI w k rs' zs')) ∨ (∃ c : Int, c ≠ 0 ∧ ∀ (v : Value) (w : World), FramesR w.heap.size w v rs zs → Calls Try.prog 26 #[v, .int .i64 n, .int .i64 j, .int .i64 x] w (KnNoI w c)) := by
  rcases Classical.em (Kn zs n) with k | k
  · obtain ⟨q, rfl⟩ : ∃ q : Nat, n = q := ⟨n.toNat, by have := k.1; omega⟩
    obtain ⟨k1, k2, k3, k4, k5⟩ := kn_len h.ok k
    have hrow := h.bd.rowAt q
    have hrl : ((rs.getD q []).set j x).length = 16 := by rw [List.length_set]; exact k3
    rcases (show zs.getD q 0 = 1 ∨ 1 < zs.getD q 0 by omega) with e | e
    · exact Or.inl ⟨_, _, q, ⟨h.ok.putRow k1 (okU hrl _ (by omega) (by omega)), h.bd.setRow q (i64_set hrow.1 j hx) (by rw [List.length_set]; exact hrow.2)⟩, fun v w hf => write_one v rs zs q j x w hf h.ok k hj e⟩
    · obtain ⟨i, hi⟩ := fz_ex zs
      rcases id hi with ⟨p, rfl, g1, g2, g3⟩ | ⟨rfl, _⟩
      · have hb2 := ((h.bd.setRow p (i64_set hrow.1 j hx) (by rw [List.length_set]; exact hrow.2)).setRef q (zs.getD q 0 - 1) (by unfold I64; omega)).setRef p 1 (by unfold I64; omega)
        have h1 := h.ok.putRef k1 (okU k3 (zs.getD q 0 - 1) (by omega) (by omega))
        have h2 := h1.put (k := p) (by simpa using g1) (okU hrl 1 (by omega) (by omega))
        exact Or.inl ⟨_, _, p, ⟨h2, hb2⟩, fun v w hf => write_copy v rs zs q j p x _ w hf h.ok k hj rfl e hi g1⟩
      · exact Or.inr ⟨7, by omega, fun v w hf => write_full v rs zs q j x w hf h.ok k hj e hi⟩
  · exact Or.inr ⟨6, by omega, fun v w hf => write_no v rs zs n j x 6 w hf (Or.inr ⟨h.ok, k, rfl⟩)⟩

/-- Frames of the call's own are put into the variable. -/
theorem FSt.put {W w : World} {B base : Nat} {rs rs' : List (List Int)} {zs zs' : List Int} {vd vr vd' vr' : Value} {vs : List Value} (h : FSt W B rs zs vd vr w) (ho : FrOwn base w vd' vr' rs' zs' vs) (hbd : FBd rs' zs') :
    FSt W B rs' zs' vd' vr' ((w.setCell ⟨B, 0, none⟩ vd').setCell ⟨B, 1, none⟩ vr') := by
  have o := (ho.set (i := 0) (u := vd') h.x (by decide) (by decide)).set (i := 1) (u := vr') (set_block h.x _) (by decide) (by decide)
  refine ⟨by simpa using set_block (i := 1) (set_block (i := 0) h.x vd') vr', o.reads hbd, ?_, hbd, h.le⟩
  exact (h.b.setCell (by simpa using h.le) _).setCell (by simpa using h.le) _
end Go.Proofs.Ytneeimfffoomgaa
