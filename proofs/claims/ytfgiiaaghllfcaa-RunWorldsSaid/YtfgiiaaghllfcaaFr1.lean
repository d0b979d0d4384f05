/- Contracts of frames.New and of the reference's FramesNew. No condition. -/
import Derived.Test.YtfgiiaaghllfcaaBase
namespace Go.Proofs.Ytfgiiaaghllfcaa
open Go Go.RowKit Go.ChangeShapes Go.WideShapes Go.Deep
set_option linter.unusedVariables false

/-- Frames and an error are handed back; nothing that was there is written. -/
def RetF (w : World) (rs : List (List Int)) (zs : List Int) (err : Int) (e : Ending) (w' : World) : Prop := ∃ v, e = .returned (.tuple #[v, .int .i64 err]) ∧ FramesR w'.heap.size w' v rs zs ∧ Below w.heap.size w w'

theorem framesR_nil (B : Nat) (w : World) : FramesR B w (.agg #[.slice none 0 0, .slice none 0 0]) [] [] := ⟨_, _, rfl, RowsR.nil _ _, Ints.nil _ _⟩

theorem i64_small {z : Int} (h : -1000000000000 ≤ z ∧ z ≤ 1000000000000) : I64 z := by unfold I64; omega

/-- Frames in two new blocks. -/
theorem framesR_new {w : World} {gd gr n m : Nat} (hd : w.heap[gd]? = some (.cells (nilRows n) 24 (0, 0))) (hr : w.heap[gr]? = some (.cells (zeroInts m) 3 (0, 0))) (hn : n ≤ 1000000) (hm : m ≤ 1000000) :
    FramesR w.heap.size w (.agg #[.slice (some ⟨gd, 0, none⟩) n n, .slice (some ⟨gr, 0, none⟩) m m]) (List.replicate n []) (List.replicate m 0) := by
  refine ⟨_, _, rfl, ?_, ?_⟩
  · refine ⟨_, n, by rw [List.length_replicate], by rw [List.length_replicate]; omega, by simp, fun i hi => ?_⟩
    have hi' : i < n := by simpa using hi
    exact ⟨gd, 0, .slice none 0 0, rfl, (Array.getElem?_eq_some_iff.1 hd).1, by simp [World.cell?, hd, nilRows_get n i hi'], by rw [List.getElem_replicate]; exact Ints.nil _ _⟩
  · refine ⟨_, m, by rw [List.length_replicate], by rw [List.length_replicate]; omega, by simp, fun i hi => ?_⟩
    have hi' : i < m := by simpa using hi
    exact ⟨gr, 0, .int .i64 0, rfl, (Array.getElem?_eq_some_iff.1 hr).1, by simp [World.cell?, hr, zeroInts_get m i hi'], by rw [List.getElem_replicate]; exact ⟨rfl, i64_small (by omega)⟩⟩

theorem rowsNil_of_owns {w : World} {base : Nat} {v : Value} {k : Nat} {e : TypeId} (h : w.ownsRow base e 1 v k (List.replicate k (.slice none 0 0))) (hk : k ≤ 1000000) : RowsR w.heap.size w v (List.replicate k []) :=
  sl1_of_owns (xs := List.replicate k []) (by rw [List.length_replicate]; exact h) (by rw [List.length_replicate]; omega) (fun i hi hv => by rw [List.getElem_replicate, List.getElem_replicate]; exact Ints.nil _ _)
theorem zeros_of_owns {w : World} {base : Nat} {v : Value} {k : Nat} {e : TypeId} (h : w.ownsRow base e 1 v k (List.replicate k (.int .i64 0))) (hk : k ≤ 1000000) : Ints w.heap.size w v (List.replicate k 0) :=
  sl1_of_owns (xs := List.replicate k 0) (by rw [List.length_replicate]; exact h) (by rw [List.length_replicate]; omega) (fun i hi hv => by rw [List.getElem_replicate, List.getElem_replicate]; exact ⟨rfl, i64_small (by omega)⟩)

theorem heap_new (w : World) (o : Obj) : (w.alloc o).heap[w.heap.size]? = some o := heap_alloc_new w o

set_option maxHeartbeats 400000 in
theorem new_out (n : Int) (w : World) (h : n < 0 ∨ 200 < n) : Calls Try.prog 32 #[.int .i64 n] w (RetF w [] [] 2) := by
  rcases h with h | h
  · go_enter Try.func32, Try.ntmps32
    go_wp2
    exact bodyPost_ret (v := .tuple #[.agg #[.slice none 0 0, .slice none 0 0], .int .i64 2]) (by simp [results, Try.results32, go_sem]) rfl ⟨_, rfl, framesR_nil _ _, below_alloc _ _⟩
  · have h' : ¬ n < 0 := by omega
    go_enter Try.func32, Try.ntmps32
    go_wp2
    exact bodyPost_ret (v := .tuple #[.agg #[.slice none 0 0, .slice none 0 0], .int .i64 2]) (by simp [results, Try.results32, go_sem]) rfl ⟨_, rfl, framesR_nil _ _, below_alloc _ _⟩

set_option maxHeartbeats 400000 in
theorem new_in (n : Int) (w : World) (h : 0 ≤ n ∧ n ≤ 200) : Calls Try.prog 32 #[.int .i64 n] w (RetF w (List.replicate n.toNat []) (List.replicate n.toNat 0) 0) := by
  obtain ⟨h0, h1⟩ := h
  have hm1 := mk_ints n h0 (by omega)
  have hm2 := mk_rows n h0 (by omega)
  go_enter Try.func32, Try.ntmps32
  go_wp2
  go_region
  all_goals go_wp2
  · refine bodyPost_ret (v := .tuple #[.agg #[.slice (some ⟨w.heap.size + 1, 0, none⟩) n.toNat n.toNat, .slice (some ⟨w.heap.size + 1 + 1, 0, none⟩) n.toNat n.toNat], .int .i64 0]) (by simp [results, Try.results32, go_sem]) rfl ⟨_, rfl, ?_, ?_⟩
    · exact framesR_new ((alloc_lt (by simp)).trans (alloc_at (by simp))) (alloc_at (by simp)) (by omega) (by omega)
    · exact ((((Below.refl _ _).alloc (Nat.le_refl _) _).alloc (by simp) _).alloc (by simp; omega) _).drew
  · refine bodyPost_ret (v := .tuple #[.agg #[.slice (some ⟨w.heap.size + 1 + 1, 0, none⟩) n.toNat n.toNat, .slice (some ⟨w.heap.size + 1, 0, none⟩) n.toNat n.toNat], .int .i64 0]) (by simp [results, Try.results32, go_sem]) rfl ⟨_, rfl, ?_, ?_⟩
    · exact framesR_new (alloc_at (by simp)) ((alloc_lt (by simp)).trans (alloc_at (by simp))) (by omega) (by omega)
    · exact ((((Below.refl _ _).alloc (Nat.le_refl _) _).alloc (by simp) _).alloc (by simp; omega) _).drew

theorem refNew_out (n : Int) (w : World) (h : ¬ (0 ≤ n ∧ n ≤ 200)) : Calls Try.prog 33 #[.int .i64 n] w (RetF w [] [] 2) := by
  go_enter Try.func33, Try.ntmps33
  go_wp2_with (go_at_call 82; refine (in_no _ _ _ _ ?_).mono ?_; exact h; rintro e w' ⟨rfl, rfl⟩)
  exact bodyPost_ret (v := .tuple #[.agg #[.slice none 0 0, .slice none 0 0], .int .i64 2]) (by simp [results, Try.results33, go_sem]) rfl ⟨_, rfl, framesR_nil _ _, below_alloc _ _⟩

set_option maxHeartbeats 1000000 in
theorem refNew_in (n : Int) (w : World) (h : 0 ≤ n ∧ n ≤ 200) : Calls Try.prog 33 #[.int .i64 n] w (RetF w (List.replicate n.toNat []) (List.replicate n.toNat 0) 0) := by
  have Hin := in_yes n 0 200 (w.alloc (.cells #[.slice none 0 0, .slice none 0 0] 28)) h
  obtain ⟨h0, h1⟩ := h
  go_enter Try.func33, Try.ntmps33
  go_wp2_with (go_at_call 82; refine (in_yes _ _ _ _ ?_).mono ?_; exact ⟨h0, h1⟩; rintro e w' ⟨rfl, rfl⟩)
  go_loopw [5] (fun i wr => ∃ k : Nat, (k : Int) ≤ n ∧ i = .int .i64 k ∧ ∃ vd vr, wr.heap[w.heap.size + 1]? = some (.cells #[vd, vr] 28 (0, 0)) ∧ wr.heap[w.heap.size]? = some (.cells #[.slice none 0 0, .slice none 0 0] 28 (0, 0)) ∧
      wr.ownsRow w.heap.size 24 1 vd k (List.replicate k (.slice none 0 0)) ∧ wr.ownsRow w.heap.size 3 1 vr k (List.replicate k (.int .i64 0)) ∧ Below w.heap.size w wr) (fun i _ => n.toNat - (intOf i).toNat)
  case atStart => exact ⟨0, h0, rfl, _, _, alloc_at (by simp), (alloc_lt (by simp)).trans (alloc_at rfl), World.ownsRow_nil _ _ _ _, World.ownsRow_nil _ _ _ _, ((Below.refl _ _).alloc (Nat.le_refl _) _).alloc (by simp) _⟩
  case round =>
    obtain ⟨k, hk, rfl, vd, vr, hbox, hres, hod, hor, hbel⟩ := hrel
    have hsz := hbel.size
    by_cases hlt : (k : Int) < n
    · have c0 : wr.cell? ⟨w.heap.size + 1, 0, none⟩ = some vd := cell_block hbox 0
      have f0 := free_block hbox 0
      go_wp2_with (first | (at_builtin; refine wpList_push wr rfl (.tmp 17) (.tmp 18) 26 rfl w.heap.size 24 (.slice none 0 0) 1 24 Try.underlying26 info_ints rfl (by decide) [.slice none 0 0] rfl (by simp [Value.oneCell']) _ _ _ rfl hod rfl rfl (by omega) (by omega) (by omega) ?_; intro g1 cp1 w1 hown1 hgrow1; have hb1 := block_grown hgrow1 hbox (own_ne_block hod hbox (by decide)); have c1 : w1.cell? ⟨w.heap.size + 1, 0, none⟩ = some vd := cell_block hb1 0; have c2 : w1.cell? ⟨w.heap.size + 1, 1, none⟩ = some vr := cell_block hb1 1; have f1 := free_block hb1 0; have hor1 := own_set (g := w.heap.size + 1) (i := 0) (hor.kept hgrow1 (own_ne hor hod (by decide))) (own_ne_block (hor.kept hgrow1 (own_ne hor hod (by decide))) hb1 (by decide)) (.slice (some ⟨g1, 0, none⟩) (k + 1) cp1); have hs1 := hgrow1.size) | (at_builtin; go_loud (refine wpList_push (w1.setCell ⟨w.heap.size + 1, 0, none⟩ (.slice (some ⟨g1, 0, none⟩) (k + 1) cp1)) rfl (.tmp 22) (.tmp 23) 24 rfl w.heap.size 3 (.int .i64 0) 1 8 Try.underlying24 info_int rfl (by decide) [.int .i64 0] rfl (by simp [Value.oneCell']) _ _ _ rfl hor1 rfl (by simp) (by omega) (by omega) (by simp; omega) ?_); intro g2 cp2 w2 hown2 hgrow2; have hb2 := block_grown hgrow2 (set_block hb1 (.slice (some ⟨g1, 0, none⟩) (k + 1) cp1)) (own_ne_block hor1 (set_block hb1 _) (by decide)); have c3 : w2.cell? ⟨w.heap.size + 1, 1, none⟩ = some vr := cell_block hb2 1; have f3 := free_block hb2 1))
      have hox1 := own_set (g := w.heap.size + 1) (i := 0) hown1 (own_ne_block hown1 hb1 (by decide)) (.slice (some ⟨g1, 0, none⟩) (k + 1) cp1)
      have hox2 := hox1.kept hgrow2 (own_ne hox1 hor1 (by decide))
      have hox3 := own_set (g := w.heap.size + 1) (i := 1) hox2 (own_ne_block hox2 hb2 (by decide)) (.slice (some ⟨g2, 0, none⟩) (k + 1) cp2)
      have hoy3 := own_set (g := w.heap.size + 1) (i := 1) hown2 (own_ne_block hown2 hb2 (by decide)) (.slice (some ⟨g2, 0, none⟩) (k + 1) cp2)
      have hre1 := set_block_ne (g := w.heap.size + 1) (i := 0) (block_grown hgrow1 hres (own_ne_block hod hres (by decide))) (by omega) (.slice (some ⟨g1, 0, none⟩) (k + 1) cp1)
      have hre2 := set_block_ne (g := w.heap.size + 1) (i := 1) (block_grown hgrow2 hre1 (own_ne_block hor1 hre1 (by decide))) (by omega) (.slice (some ⟨g2, 0, none⟩) (k + 1) cp2)
      have hB1 := (below_grown hbel hod hgrow1 hsz (Nat.le_refl _)).setCell (p := ⟨w.heap.size + 1, 0, none⟩) (by simp) (.slice (some ⟨g1, 0, none⟩) (k + 1) cp1)
      have hB2 := (below_grown hB1 hor1 hgrow2 (by simp; omega) (Nat.le_refl _)).setCell (p := ⟨w.heap.size + 1, 1, none⟩) (by simp) (.slice (some ⟨g2, 0, none⟩) (k + 1) cp2)
      go_roundw
      case rel => exact ⟨k + 1, by omega, by go_num, _, _, set_block hb2 _, hre2, by rw [List.replicate_succ']; exact hox3, by rw [List.replicate_succ']; exact hoy3, hB2⟩
      case measure => simp [intOf]; omega
    · obtain rfl : (k : Int) = n := by omega
      obtain ⟨ad, cd, rfl⟩ := own_shape hod
      obtain ⟨ar, cr, rfl⟩ := own_shape hor
      have c0 : wr.cell? ⟨w.heap.size + 1, 0, none⟩ = some (.slice ad k cd) := cell_block hbox 0
      have c1 : wr.cell? ⟨w.heap.size + 1, 1, none⟩ = some (.slice ar k cr) := cell_block hbox 1
      have c2 : wr.cell? ⟨w.heap.size, 0, none⟩ = some (.slice none 0 0) := cell_block hres 0
      have c3 : wr.cell? ⟨w.heap.size, 1, none⟩ = some (.slice none 0 0) := cell_block hres 1
      have f2 := free_block hres 0
      have f3 := free_block hres 1
      have hod1 := own_set (g := w.heap.size) (i := 1) (own_set (g := w.heap.size) (i := 0) hod (own_ne_block hod hres (by decide)) (.slice ad k cd)) (own_ne_block hod hres (by decide)) (.slice ar k cr)
      have hor1 := own_set (g := w.heap.size) (i := 1) (own_set (g := w.heap.size) (i := 0) hor (own_ne_block hor hres (by decide)) (.slice ad k cd)) (own_ne_block hor hres (by decide)) (.slice ar k cr)
      have hB := (hbel.setCell (p := ⟨w.heap.size, 0, none⟩) (by simp) (.slice ad k cd)).setCell (p := ⟨w.heap.size, 1, none⟩) (by simp) (.slice ar k cr)
      go_wp2
      exact bodyPost_ret (v := .tuple #[.agg #[.slice ad k cd, .slice ar k cr], .int .i64 0]) (by simp [results, Try.results33, go_sem, c2, c3]) rfl ⟨_, rfl, ⟨_, _, rfl, rowsNil_of_owns hod1 (by omega), zeros_of_owns hor1 (by omega)⟩, hB⟩
end Go.Proofs.Ytfgiiaaghllfcaa
