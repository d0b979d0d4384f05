/- Contracts of frames.New and of the reference's FramesNew. No condition. -/
import Derived.Test.YtneeimfffoomgaaBase
namespace Go.Proofs.Ytneeimfffoomgaa
open Go Go.RowKit Go.ChangeShapes Go.WideShapes Go.Deep
set_option linter.unusedVariables false

/-- Frames and an error are handed back; nothing that was there is written. -/
def RetF (w : World) (rs : List (List Int)) (zs : List Int) (err : Int) (e : Ending) (w' : World) : Prop := ∃ v, e = .returned (.tuple #[v, .int .i64 err]) ∧ FramesR w'.heap.size w' v rs zs ∧ Below w.heap.size w w'

theorem framesR_nil (B : Nat) (w : World) : FramesR B w (.agg #[.slice none 0 0, .slice none 0 0]) [] [] := ⟨_, _, rfl, RowsR.nil _ _, Ints.nil _ _⟩

theorem i64_small {z : Int} (h : -1000000000000 ≤ z ∧ z ≤ 1000000000000) : I64 z := by unfold I64; omega

/-- Frames in two new blocks. -/
theorem framesR_new {w : World} {gd gr n m : Nat} (hd : w.heap[gd]? = some (.cells (nilRows n) 24 (0, 0))) (hr : w.heap[gr]? = some (.cells (zeroInts m) 3 (0, 0))) (hn : n ≤ 1000000) (hm : m ≤ 1000000) :
    FramesR w.heap.size w (.agg #[.slice (some ⟨gd, 0, none⟩) n n, .slice (some ⟨gr, 0, none⟩) m m]) (List.replicate n []) (List.replicate m 0) := by
  refine ⟨_, _, rfl, ?_, ?_⟩
  · refine ⟨_, n, by rw [List.length_replicate], by rw [List.length_replicate]; omega, by simp, fun i hi => ?_⟩
    have hi' : i < n := by simpa using hi
    exact ⟨gd, 0, .slice none 0 0, rfl, (Array.getElem?_eq_some_iff.1 hd).1, by simp [World.cell?, hd, nilRows_get n i hi'], by rw [List.getElem_replicate]; exact Ints.nil _ _⟩
  · refine ⟨_, m, by rw [List.length_replicate], by rw [List.length_replicate]; omega, by simp, fun i hi => ?_⟩
    have hi' : i < m := by simpa using hi
    exact ⟨gr, 0, .int .i64 0, rfl, (Array.getElem?_eq_some_iff.1 hr).1, by simp [World.cell?, hr, zeroInts_get m i hi'], by rw [List.getElem_replicate]; exact ⟨rfl, i64_small (by omega)⟩⟩

theorem rowsNil_of_owns {w : World} {base : Nat} {v : Value} {k : Nat} {e : TypeId} (h : w.ownsRow base e 1 v k (List.replicate k (.slice none 0 0))) (hk : k ≤ 1000000) : RowsR w.heap.size w v (List.replicate k []) :=
  sl1_of_owns (xs := List.replicate k []) (by rw [List.length_replicate]; exact h) (by rw [List.length_replicate]; omega) (fun i hi hv => by rw [List.getElem_replicate, List.getElem_replicate]; exact Ints.nil _ _)
theorem zeros_of_owns {w : World} {base : Nat} {v : Value} {k : Nat} {e : TypeId} (h : w.ownsRow base e 1 v k (List.replicate k (.int .i64 0))) (hk : k ≤ 1000000) : Ints w.heap.size w v (List.replicate k 0) :=
  sl1_of_owns (xs := List.replicate k 0) (by rw [List.length_replicate]; exact h) (by rw [List.length_replicate]; omega) (fun i hi hv => by rw [List.getElem_replicate, List.getElem_replicate]; exact ⟨rfl, i64_small (by omega)⟩)

theorem heap_new (w : World) (o : Obj) : (w.alloc o).heap[w.heap.size]? = some o := heap_alloc_new w o

set_option maxHeartbeats 400000 in
theorem new_out (n : Int) (w : World) (h : n < 0 ∨ 200 < n) : Calls Try.prog 22 #[.int .i64 n] w (RetF w [] [] 2) := by
  rcases h with h | h
  · go_enter Try.func22, Try.ntmps22
    go_wp2
    exact bodyPost_ret (v := .tuple #[.agg #[.slice none 0 0, .slice none 0 0], .int .i64 2]) (by simp [results, Try.results22, go_sem]) rfl ⟨_, rfl, framesR_nil _ _, below_alloc _ _⟩
  · have h' : ¬ n < 0 := by omega
    go_enter Try.func22, Try.ntmps22
    go_wp2
    exact bodyPost_ret (v := .tuple #[.agg #[.slice none 0 0, .slice none 0 0], .int .i64 2]) (by simp [results, Try.results22, go_sem]) rfl ⟨_, rfl, framesR_nil _ _, below_alloc _ _⟩

set_option maxHeartbeats 400000 in
theorem new_in (n : Int) (w : World) (h : 0 ≤ n ∧ n ≤ 200) : Calls Try.prog 22 #[.int .i64 n] w (RetF w (List.replicate n.toNat []) (List.replicate n.toNat 0) 0) := by
  obtain ⟨h0, h1⟩ := h
  have hm1 := mk_ints n h0 (by omega)
  have hm2 := mk_rows n h0 (by omega)
  go_enter Try.func22, Try.ntmps22
  go_wp2
  go_region
  all_goals go_wp2
  · refine bodyPost_ret (v := .tuple #[.agg #[.slice (some ⟨w.heap.size + 1, 0, none⟩) n.toNat n.toNat, .slice (some ⟨w.heap.size + 1 + 1, 0, none⟩) n.toNat n.toNat], .int .i64 0]) (by simp [results, Try.results22, go_sem]) rfl ⟨_, rfl, ?_, ?_⟩
    · exact framesR_new ((alloc_lt (by simp)).trans (alloc_at (by simp))) (alloc_at (by simp)) (by omega) (by omega)
    · exact ((((Below.refl _ _).alloc (Nat.le_refl _) _).alloc (by simp) _).alloc (by simp; omega) _).drew
  · refine bodyPost_ret (v := .tuple #[.agg #[.slice (some ⟨w.heap.size + 1 + 1, 0, none⟩) n.toNat n.toNat, .slice (some ⟨w.heap.size + 1, 0, none⟩) n.toNat n.toNat], .int .i64 0]) (by simp [results, Try.results22, go_sem]) rfl ⟨_, rfl, ?_, ?_⟩
    · exact framesR_new (alloc_at (by simp)) ((alloc_lt (by simp)).trans (alloc_at (by simp))) (by omega) (by omega)
    · exact ((((Below.refl _ _).alloc (Nat.le_refl _) _).alloc (by simp) _).alloc (by simp; omega) _).drew

end Go.Proofs.Ytneeimfffoomgaa
