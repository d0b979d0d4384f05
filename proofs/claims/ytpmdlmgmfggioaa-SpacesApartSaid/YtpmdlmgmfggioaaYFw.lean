/- frames.New: frames of the call's own, of which none is known. No condition beyond the number's range. -/
import Derived.Test.YtpmdlmgmfggioaaYHv
import Derived.Test.YtpmdlmgmfggioaaYPk
import Derived.Handy
import Derived.StillTailTactics
namespace Go.Proofs.Ytpmdlmgmfggioaa
open Go Go.RowKit Go.ChangeShapes Go.WideShapes Go.Deep
set_option linter.unusedVariables false

/-- New frames, in rows of the call's own. -/
def FrNew (N : Nat) (w : World) (e : Ending) (w' : World) : Prop := ∃ ad cd ar cr, e = .returned (.tuple #[.agg #[.slice ad N cd, .slice ar N cr], .int .i64 0]) ∧ FrOwn w.heap.size w' (.slice ad N cd) (.slice ar N cr) (List.replicate N []) (List.replicate N 0) (List.replicate N (.slice none 0 0)) ∧ Below w.heap.size w w'
theorem own_rows0 {w : World} {g base n : Nat} (h : w.heap[g]? = some (.cells (nilRows n) 24 (0, 0))) (hb : base ≤ g) (hm : n ≤ 1000000) : w.ownsRow base 24 1 (.slice (some ⟨g, 0, none⟩) n n) n (List.replicate n (.slice none 0 0)) :=
  ⟨by simp, .inr ⟨g, n, _, rfl, hb, h, Nat.le_refl _, by unfold maxLen; omega, by simp [nilRows_size], by rw [nilRows_list]; simp [List.take_of_length_le]⟩⟩
theorem fr_new {w : World} {base gd gr N : Nat} (hd : w.heap[gd]? = some (.cells (nilRows N) 24 (0, 0))) (hr : w.heap[gr]? = some (.cells (zeroInts N) 3 (0, 0))) (h1 : base ≤ gd) (h2 : base ≤ gr) (hN : N ≤ 200) : FrOwn base w (.slice (some ⟨gd, 0, none⟩) N N) (.slice (some ⟨gr, 0, none⟩) N N) (List.replicate N []) (List.replicate N 0) (List.replicate N (.slice none 0 0)) := by
  refine ⟨by simp, by rw [List.length_replicate]; exact own_rows0 hd h1 (by omega), by rw [List.length_replicate]; exact own_block (by rw [← zeroInts_eq]; exact hr) h2 (by simp) (by omega), ?_⟩
  intro j hj
  have hj' : j < N := by simpa using hj
  have e1 : (List.replicate N (Value.slice none 0 0)).getD j undef = .slice none 0 0 := by rw [List.getD_eq_getElem?_getD, List.getElem?_replicate, if_pos hj']; rfl
  have e2 : (List.replicate N ([] : List Int)).getD j [] = [] := by rw [List.getD_eq_getElem?_getD, List.getElem?_replicate, if_pos hj']; rfl
  rw [e1, e2]
  exact ⟨World.ownsRow_nil _ _ _ _, Or.inl rfl, Or.inr (by simp [Value.ownBlock]), fun i hi hij => Or.inl rfl⟩

set_option maxHeartbeats 400000 in
theorem fnew_own (n : Int) (w : World) (h : 0 ≤ n ∧ n ≤ 200) : Calls Try.prog 11 #[.int .i64 n] w (FrNew n.toNat w) := by
  obtain ⟨h0, h1⟩ := h
  have hm1 := mk_ints n h0 (by omega)
  have hm2 := mk_rows n h0 (by omega)
  go_enter Try.func11, Try.ntmps11
  go_wp2
  go_region
  all_goals go_wp2
  · refine bodyPost_ret (v := .tuple #[.agg #[.slice (some ⟨w.heap.size + 1, 0, none⟩) n.toNat n.toNat, .slice (some ⟨w.heap.size + 1 + 1, 0, none⟩) n.toNat n.toNat], .int .i64 0]) (by simp [results, Try.results11, go_sem]) rfl ⟨_, _, _, _, rfl, ?_, ?_⟩
    · exact fr_new ((alloc_lt (by simp)).trans (alloc_at (by simp))) (alloc_at (by simp)) (by omega) (by omega) (by omega)
    · exact ((((Below.refl _ _).alloc (Nat.le_refl _) _).alloc (by simp) _).alloc (by simp; omega) _).drew
  · refine bodyPost_ret (v := .tuple #[.agg #[.slice (some ⟨w.heap.size + 1 + 1, 0, none⟩) n.toNat n.toNat, .slice (some ⟨w.heap.size + 1, 0, none⟩) n.toNat n.toNat], .int .i64 0]) (by simp [results, Try.results11, go_sem]) rfl ⟨_, _, _, _, rfl, ?_, ?_⟩
    · exact fr_new (alloc_at (by simp)) ((alloc_lt (by simp)).trans (alloc_at (by simp))) (by omega) (by omega) (by omega)
    · exact ((((Below.refl _ _).alloc (Nat.le_refl _) _).alloc (by simp) _).alloc (by simp; omega) _).drew
theorem hok0 (N : Nat) (hN : N ≤ 200) : HOk (List.replicate N []) (List.replicate N 0) [] := by
  have r0 : ∀ k, (List.replicate N (0 : Int)).getD k 0 = 0 := by intro k; rw [List.getD_eq_getElem?_getD, List.getElem?_replicate]; split <;> rfl
  have r1 : ∀ k, (List.replicate N ([] : List Int)).getD k [] = [] := by intro k; rw [List.getD_eq_getElem?_getD, List.getElem?_replicate]; split <;> rfl
  refine ⟨⟨by simp, by simpa using hN, fun k hk => ?_⟩, ⟨?_, ?_, by simp; omega, by simp; omega⟩, fun pg h => (by cases h), fun pg h => (by cases h), fun n hn => ?_⟩
  · rw [r0, r1]
    exact ⟨by omega, by omega, fun _ => rfl, fun h => absurd rfl h⟩
  · intro row hr
    rw [List.eq_of_mem_replicate hr]
    exact ⟨fun z hz => (by cases hz), by simp⟩
  · intro z hz
    rw [List.eq_of_mem_replicate hz]
    unfold I64
    omega
  · rw [r0]
    rfl
end Go.Proofs.Ytpmdlmgmfggioaa
