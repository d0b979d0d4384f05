/- Owned frames: a row is put, a word is written. No condition. -/
import Derived.Test.YtneeimfffoomgaaIx
namespace Go.Proofs.Ytneeimfffoomgaa
open Go Go.RowKit Go.ChangeShapes Go.WideShapes Go.Deep
set_option linter.unusedVariables false

/-- A row of one's own is put in the place of another one. -/
theorem FrOwn.setRow {base g c k : Nat} {w : World} {vr u : Value} {rs : List (List Int)} {zs row : List Int} {vs : List Value} (h : FrOwn base w (.slice (some ⟨g, 0, none⟩) rs.length c) vr rs zs vs) (hk : k < rs.length)
    (hu : w.ownsRow base 3 1 u row.length (row.map (Value.int .i64))) (h1 : Apart u vr) (h2 : Apart vr u) (h3 : ∀ i, i < rs.length → i ≠ k → Apart u (vs.getD i undef) ∧ Apart (vs.getD i undef) u) :
    FrOwn base (w.setCell ⟨g, k, none⟩ u) (.slice (some ⟨g, 0, none⟩) rs.length c) vr (rs.set k row) zs (vs.set k u) := by
  obtain ⟨g', cur, hg', hbg, hblk, _⟩ := own_some h.d (by omega)
  simp only [Option.some.injEq, Addr.mk.injEq, and_true] at hg'
  subst hg'
  have hl := h.len
  have keep : ∀ {v : Value} {n : Nat} {xs : List Value}, w.ownsRow base 3 1 v n xs → (w.setCell ⟨g, k, none⟩ u).ownsRow base 3 1 v n xs := fun h => own_set h (own_ne_block h hblk (by decide)) _
  have getk : (vs.set k u).getD k undef = u := by simp [List.getD, hl, hk]
  have getj : ∀ j, j ≠ k → (vs.set k u).getD j undef = vs.getD j undef := fun j hj => by simp [List.getD, Ne.symm hj]
  have rowk : (rs.set k row).getD k [] = row := by simp [List.getD, hk]
  have rowj : ∀ j, j ≠ k → (rs.set k row).getD j [] = rs.getD j [] := fun j hj => by simp [List.getD, Ne.symm hj]
  refine ⟨by simpa using hl, ?_, keep h.r, ?_⟩
  · rw [List.length_set]
    exact (h.d.stored k _).1
  · rw [List.length_set]
    intro j hj
    by_cases hjk : j = k
    · subst hjk
      rw [getk, rowk]
      refine ⟨keep hu, h1, h2, fun i hi hij => ?_⟩
      rw [getj i hij]
      exact (h3 i hi hij).1
    · obtain ⟨q1, q2, q3, q4⟩ := h.rows j hj
      rw [getj j hjk, rowj j hjk]
      refine ⟨keep q1, q2, q3, fun i hi hij => ?_⟩
      by_cases hik : i = k
      · subst hik
        rw [getk]
        exact (h3 j hj hjk).2
      · rw [getj i hik]
        exact q4 i hi hij

/-- A word of an owned row is written. -/
theorem FrOwn.setWord {base g c k j : Nat} {w : World} {vd vr : Value} {rs : List (List Int)} {zs row : List Int} {vs : List Value} (h : FrOwn base w vd vr rs zs vs) (hk : k < rs.length) (hrow : rs.getD k [] = row)
    (hg : vs.getD k undef = .slice (some ⟨g, 0, none⟩) row.length c) (hj : j < row.length) (z : Int) :
    FrOwn base (w.setCell ⟨g, j, none⟩ (.int .i64 z)) vd vr (rs.set k (row.set j z)) zs vs := by
  obtain ⟨q1, q2, q3, q4⟩ := h.rows k hk
  rw [hrow, hg] at q1
  rw [hg] at q2 q4
  obtain ⟨g', cur, hg', hbg, hblk, _⟩ := own_some q1 (by omega)
  simp only [Option.some.injEq, Addr.mk.injEq, and_true] at hg'
  subst hg'
  have ne_of : ∀ {v : Value}, Apart (.slice (some ⟨g, 0, none⟩) row.length c) v → some g ≠ v.ownBlock := fun {v} ha => by
    rcases ha with e | e
    · simp [Value.ownBlock] at e
    · exact e
  refine ⟨by simpa using h.len, ?_, own_set h.r (ne_of q2) _, ?_⟩
  · rw [List.length_set]
    exact own_set h.d (own_ne_block h.d hblk (by decide)) _
  · rw [List.length_set]
    intro i hi
    by_cases hik : i = k
    · subst hik
      have e1 : (rs.set i (row.set j z)).getD i [] = row.set j z := by simp [List.getD, hk]
      rw [e1, hg]
      refine ⟨?_, q2, q3 |> fun q => by rw [hg] at q; exact q, q4⟩
      have := (q1.stored j (.int .i64 z)).1
      rw [List.length_set, List.map_set]
      exact this
    · obtain ⟨p1, p2, p3, p4⟩ := h.rows i hi
      have e1 : (rs.set k (row.set j z)).getD i [] = rs.getD i [] := by simp [List.getD, Ne.symm hik]
      rw [e1]
      exact ⟨own_set p1 (ne_of (q4 i hi hik)) _, p2, p3, p4⟩

theorem FBd.setRow {rs : List (List Int)} {zs row : List Int} (h : FBd rs zs) (k : Nat) (h1 : ∀ z ∈ row, I64 z) (h2 : row.length ≤ 17592186043904) : FBd (rs.set k row) zs :=
  ⟨fun x hx => (List.mem_or_eq_of_mem_set hx).elim (h.row x) (fun e => e ▸ ⟨h1, h2⟩), h.ref, by rw [List.length_set]; exact h.nd, h.nr⟩
theorem FBd.rowAt {rs : List (List Int)} {zs : List Int} (h : FBd rs zs) (k : Nat) : (∀ z ∈ rs.getD k [], I64 z) ∧ (rs.getD k []).length ≤ 17592186043904 := by
  by_cases hk : k < rs.length
  · rw [getD_of hk]
    exact h.row _ (List.getElem_mem hk)
  · have : rs.getD k [] = [] := by simp [List.getD, List.getElem?_eq_none (Nat.le_of_not_lt hk)]
    rw [this]
    exact ⟨fun z hz => by simp at hz, by simp⟩
theorem i64_set {l : List Int} (h : ∀ z ∈ l, I64 z) (j : Nat) {v : Int} (hv : I64 v) : ∀ z ∈ l.set j v, I64 z := fun z hz => (List.mem_or_eq_of_mem_set hz).elim (h z) (fun e => e ▸ hv)
theorem i64_zeros (n : Nat) : ∀ z ∈ List.replicate n (0 : Int), I64 z := fun z hz => by rw [List.eq_of_mem_replicate hz]; unfold I64; omega
end Go.Proofs.Ytneeimfffoomgaa
