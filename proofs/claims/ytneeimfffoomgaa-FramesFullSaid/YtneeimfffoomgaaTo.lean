/- The contract of the reference's TakenOf. No condition. -/
import Derived.Test.YtneeimfffoomgaaTk
import Derived.Deep.AppendLies
import Derived.IntWalk
namespace Go.Proofs.Ytneeimfffoomgaa
open Go Go.RowKit Go.ChangeShapes Go.WideShapes Go.Deep
set_option linter.unusedVariables false
attribute [local go_sem ↓] Go.wp_at_zero Go.wp_at_succ

/-- A row of owned frames has grown by an append, and is put back. -/
theorem FrOwn.regrow {base gd c k : Nat} {W1 W4 : World} {vr u : Value} {rs : List (List Int)} {zs row : List Int} {vs : List Value} (h : FrOwn base W1 (.slice (some ⟨gd, 0, none⟩) rs.length c) vr rs zs vs) (hk : k < rs.length)
    (hg : W1.grownBy W4 (vs.getD k undef).ownBlock) (hu : W4.ownsRow base 3 1 u row.length (row.map (Value.int .i64))) (hat : u.ownBlock = (vs.getD k undef).ownBlock ∨ ∃ g, u.ownBlock = some g ∧ W1.heap.size ≤ g) :
    FrOwn base (W4.setCell ⟨gd, k, none⟩ u) (.slice (some ⟨gd, 0, none⟩) rs.length c) vr (rs.set k row) zs (vs.set k u) := by
  obtain ⟨gd', cur, hgd', hbg, hblk, _⟩ := own_some h.d (by omega)
  simp only [Option.some.injEq, Addr.mk.injEq, and_true] at hgd'
  subst hgd'
  have hl := h.len
  obtain ⟨p1, p2, p3, p4⟩ := h.rows k hk
  generalize hv : vs.getD k undef = v at *
  have hblk4 := block_grown hg hblk (own_ne_block p1 hblk (by decide))
  have keep : ∀ {x : Value} {n : Nat} {xs : List Value}, W1.ownsRow base 3 1 x n xs → Apart x v → (W4.setCell ⟨gd, k, none⟩ u).ownsRow base 3 1 x n xs := fun h ha => own_set (h.kept hg ha) (own_ne_block (h.kept hg ha) hblk4 (by decide)) _
  have ap : ∀ {x : Value} {n : Nat} {xs : List Value} {e : TypeId}, W1.ownsRow base e 1 x n xs → Apart v x → Apart x v → Apart u x ∧ Apart x u := by
    intro x n xs e hx a1 a2
    rcases hat with e | ⟨g, e, hle⟩
    · unfold Apart at *
      rw [e]
      exact ⟨a1, a2⟩
    · unfold Apart
      rw [e]
      cases ex : x.ownBlock with
      | none => exact ⟨Or.inr (by simp), Or.inl rfl⟩
      | some q =>
        have := (hx.lt q ex).2
        exact ⟨Or.inr (by simp; omega), Or.inr (by simp; omega)⟩
  have getk : (vs.set k u).getD k undef = u := by simp [List.getD, hl, hk]
  have getj : ∀ j, j ≠ k → (vs.set k u).getD j undef = vs.getD j undef := fun j hj => by simp [List.getD, Ne.symm hj]
  have rowk : (rs.set k row).getD k [] = row := by simp [List.getD, hk]
  have rowj : ∀ j, j ≠ k → (rs.set k row).getD j [] = rs.getD j [] := fun j hj => by simp [List.getD, Ne.symm hj]
  have Ar := ap h.r p2 p3
  refine ⟨by simpa using hl, ?_, keep h.r p3, ?_⟩
  · rw [List.length_set]
    exact ((h.d.kept hg (own_ne h.d p1 (by decide))).stored k _).1
  · rw [List.length_set]
    intro j hj
    by_cases hjk : j = k
    · subst hjk
      rw [getk, rowk]
      refine ⟨own_set hu (own_ne_block hu hblk4 (by decide)) _, Ar.1, Ar.2, fun i hi hij => ?_⟩
      rw [getj i hij]
      have q := h.rows i hi
      have q4 := q.2.2.2 j hk (Ne.symm hij)
      rw [hv] at q4
      exact (ap q.1 (p4 i hi hij) q4).1
    · obtain ⟨q1, q2, q3, q4⟩ := h.rows j hj
      rw [getj j hjk, rowj j hjk]
      have q5 := q4 k hk (fun e => hjk e.symm)
      rw [hv] at q5
      refine ⟨keep q1 q5, q2, q3, fun i hi hij => ?_⟩
      by_cases hik : i = k
      · subst hik
        rw [getk]
        exact (ap q1 (p4 j hj hjk) q5).2
      · rw [getj i hik]
        exact q4 i hi hij

/-- What holds ahead of round j: so many words are in the frame that is taken. -/
def TLoop (w : World) (rs : List (List Int)) (zs : List Int) (g k j : Nat) (wr : World) : Prop := ∃ ad cd ar cr vs, w.heap.size + 1 < g ∧ wr.heap[w.heap.size + 1]? = some (.cells #[.slice none 0 0, .slice none 0 0] 46 (0, 0)) ∧
  wr.heap[g]? = some (.cells #[.slice ad rs.length cd, .slice ar zs.length cr] 46 (0, 0)) ∧ FrOwn w.heap.size wr (.slice ad rs.length cd) (.slice ar zs.length cr) (rs.set k (List.replicate j 0)) zs vs ∧ Below w.heap.size w wr

theorem set_set_getD {rs : List (List Int)} {k : Nat} (a b : List Int) : (rs.set k a).set k b = rs.set k b := by simp
theorem repl_snoc (j : Nat) : (List.replicate j (0 : Int)).map (Value.int .i64) ++ [.int .i64 0] = (List.replicate (j + 1) (0 : Int)).map (Value.int .i64) := by
  rw [List.replicate_succ', List.map_append]; rfl

theorem tloop_step {w wr W1 W4 : World} {rs : List (List Int)} {zs : List Int} {g k j gd cd cr g4 cp4 : Nat} {ar : Option Addr} {vs : List Value} {O : Obj} (hd : W1 = (wr.alloc O).drew) (hk : k < rs.length) (hgw : w.heap.size + 1 < g)
    (hy : wr.heap[w.heap.size + 1]? = some (.cells #[.slice none 0 0, .slice none 0 0] 46 (0, 0))) (hx : wr.heap[g]? = some (.cells #[.slice (some ⟨gd, 0, none⟩) rs.length cd, .slice ar zs.length cr] 46 (0, 0)))
    (ho : FrOwn w.heap.size wr (.slice (some ⟨gd, 0, none⟩) rs.length cd) (.slice ar zs.length cr) (rs.set k (List.replicate j 0)) zs vs) (hb : Below w.heap.size w wr)
    (own4 : W4.ownsRow w.heap.size 3 1 (.slice (some ⟨g4, 0, none⟩) (j + 1) cp4) (j + 1) ((List.replicate (j + 1) (0 : Int)).map (Value.int .i64))) (hg4 : W1.grownBy W4 (vs.getD k undef).ownBlock) (hat : (vs.getD k undef).ownBlock = some g4 ∨ g4 = W1.heap.size) :
    TLoop w rs zs g k (j + 1) (W4.setCell ⟨gd, k, none⟩ (.slice (some ⟨g4, 0, none⟩) (j + 1) cp4)) := by
  have b1 : Below wr.heap.size wr W1 := by rw [hd]; exact (below_alloc wr O).drew
  have o1 := ho.grown b1
  have hk' : k < (rs.set k (List.replicate j 0)).length := by rw [List.length_set]; exact hk
  have p1 := (o1.rows k hk').1
  have o1' : FrOwn w.heap.size W1 (.slice (some ⟨gd, 0, none⟩) (rs.set k (List.replicate j 0)).length cd) (.slice ar zs.length cr) (rs.set k (List.replicate j 0)) zs vs := by rw [List.length_set]; exact o1
  have o4 := o1'.regrow hk' (row := List.replicate (j + 1) 0) hg4 (by rw [List.length_replicate]; exact own4) (by
    rcases hat with e | e
    · exact Or.inl (by rw [e]; rfl)
    · exact Or.inr ⟨g4, rfl, by omega⟩)
  rw [set_set_getD, List.length_set] at o4
  have hod := ho.d
  rw [List.length_set] at hod
  obtain ⟨gd', cur, hgd', hbg, hblk, _⟩ := own_some hod (by omega)
  simp only [Option.some.injEq, Addr.mk.injEq, and_true] at hgd'
  subst hgd'
  have far : ∀ {q : Nat} {cs : Array Value}, wr.heap[q]? = some (.cells cs 46 (0, 0)) → (W4.setCell ⟨gd, k, none⟩ (.slice (some ⟨g4, 0, none⟩) (j + 1) cp4)).heap[q]? = some (.cells cs 46 (0, 0)) := by
    intro q cs hq
    have n1 : q ≠ gd := by intro e; subst e; rw [hblk] at hq; simp at hq
    have q1 := block_below b1 hq (Array.getElem?_eq_some_iff.1 hq).1
    exact set_block_ne (block_grown hg4 q1 (own_ne_block p1 q1 (by decide))) n1 _
  refine ⟨some ⟨gd, 0, none⟩, cd, ar, cr, _, hgw, far hy, far hx, o4, ?_⟩
  exact (below_grown (hb.trans (b1.mono hb.size)) p1 hg4 (by have := hb.size; have := b1.size; omega) (Nat.le_refl _)).setCell (by simpa using hbg) _

theorem free_row {rs : List (List Int)} {zs : List Int} {k : Nat} (hok : FOk rs zs) (hk : k < zs.length) (h0 : zs.getD k 0 = 0) : rs.set k (List.replicate 0 0) = rs := by
  have h1 : (rs.getD k []).length = 0 := (hok.2.2 k hk).2.2.1 h0
  have hkr : k < rs.length := by rw [hok.1]; exact hk
  rw [getD_of hkr] at h1
  have e : rs[k] = [] := List.eq_nil_of_length_eq_zero h1
  apply List.ext_getElem (by simp)
  intro i hi hi'
  rw [List.getElem_set]
  split
  · subst_vars; rw [e]; rfl
  · rfl

end Go.Proofs.Ytneeimfffoomgaa
