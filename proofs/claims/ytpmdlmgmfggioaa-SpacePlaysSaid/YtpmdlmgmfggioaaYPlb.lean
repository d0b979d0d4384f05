/- The document's reckoning of two spaces, in memory of the call's own. No condition beyond the readings. -/
import Derived.Test.YtpmdlmgmfggioaaYPla
import Derived.Test.YtpmdlmgmfggioaaYFr1
import Derived.Deep.LoopGhost
import Derived.Deep.CutBlock
import Derived.Deep.CutRange
namespace Go.Proofs.Ytpmdlmgmfggioaa
open Go Go.RowKit Go.ChangeShapes Go.WideShapes Go.Deep
set_option linter.unusedVariables false
set_option linter.unusedSimpArgs false
attribute [local go_sem ↓] Go.wp_at_zero Go.wp_at_succ

/-- A block of numbers; of truths. -/
def IBk (g : Nat) (xs : List Int) (w : World) : Prop := w.heap[g]? = some (.cells (xs.map (Value.int .i64)).toArray 3 (0, 0))
def BBk (g : Nat) (xs : List Bool) (w : World) : Prop := w.heap[g]? = some (.cells (xs.map Value.bool).toArray 4 (0, 0))
def XBk (g a b : Nat) (w : World) : Prop := w.heap[g]? = some (.cells #[.slice (some ⟨a, 0, none⟩) 16 16, .slice (some ⟨b, 0, none⟩) 16 16] 55 (0, 0))
def Falses (n : Nat) : Array Value := madeCells #[.bool false] n
theorem falses_eq (n : Nat) : Falses n = ((List.replicate n false).map Value.bool).toArray := by
  have : (Falses n).toList = List.replicate n (.bool false) := toList_madeCells_one _ _
  rw [List.map_replicate, ← this, Array.toArray_toList]
theorem info_bool1 : (Try.prog.info? 4).map (fun i => (i.zero, i.size, i.bytes)) = some (some (.bool false), 1, 1) := by kernel_rfl
theorem mk_bools (w : World) : (Instr.makeSlice 54 (.int .i64 16) (.int .i64 16)).run Try.prog w = .ok (.slice (some ⟨w.heap.size, 0, none⟩) 16 16) (w.alloc (.cells (Falses 16) 4)) := by
  obtain ⟨i0, hi, hz0, hz1, hz2⟩ := info_parts info_bool1
  have h := run_make (P := Try.prog) w 54 4 i0 (.bool false) Try.underlying54 hi hz0 .i64 .i64 16 16 (by omega) (Int.le_refl _) (by rw [hz2]; omega) (by omega)
  rw [h, hz1, Nat.mul_one]
  rfl
section
variable {g k : Nat} {xs : List Int} {bs : List Bool} {w w' : World}
theorem IBk.at (h : IBk g xs w) (hk : k < xs.length) : w.cell? ⟨g, k, none⟩ = some (.int .i64 (xs.getD k 0)) := by
  rw [cell_block h k]; simp [hk, getD_of hk]
theorem IBk.fr (h : IBk g xs w) (k : Nat) : w.frozen? ⟨g, k, none⟩ = false := free_block h k
theorem IBk.lt (h : IBk g xs w) : g < w.heap.size := (Array.getElem?_eq_some_iff.1 h).1
theorem IBk.set (h : IBk g xs w) (k : Nat) (z : Int) : IBk g (xs.set k z) (w.setCell ⟨g, k, none⟩ (.int .i64 z)) := by
  unfold IBk; rw [set_block h]; simp [List.map_set]
theorem BBk.at (h : BBk g bs w) (hk : k < bs.length) : w.cell? ⟨g, k, none⟩ = some (.bool (bs.getD k false)) := by
  rw [cell_block h k]; simp [hk, getD_of hk]
theorem BBk.fr (h : BBk g bs w) (k : Nat) : w.frozen? ⟨g, k, none⟩ = false := free_block h k
theorem BBk.lt (h : BBk g bs w) : g < w.heap.size := (Array.getElem?_eq_some_iff.1 h).1
theorem BBk.set (h : BBk g bs w) (k : Nat) (z : Bool) : BBk g (bs.set k z) (w.setCell ⟨g, k, none⟩ (.bool z)) := by
  unfold BBk; rw [set_block h]; simp [List.map_set]
theorem IBk.below {B : Nat} (h : IBk g xs w) (hb : Below B w w') (hg : g < B) : IBk g xs w' := block_below hb h hg
theorem BBk.below {B : Nat} (h : BBk g bs w) (hb : Below B w w') (hg : g < B) : BBk g bs w' := block_below hb h hg
theorem IBk.ne (h : IBk g xs w) {n : Nat} (k' : BBk n bs w) : g ≠ n := by
  rintro rfl
  have := h.symm.trans k'
  simp at this
theorem XBk.neI {n a b : Nat} (h : XBk n a b w) (k' : IBk g xs w) : n ≠ g := by
  rintro rfl
  have := h.symm.trans k'
  simp at this
theorem XBk.neB {n a b : Nat} (h : XBk n a b w) (k' : BBk g bs w) : n ≠ g := by
  rintro rfl
  have := h.symm.trans k'
  simp at this
end
theorem take_step {α : Type} {l : List α} {n : Nat} (d : α) (hl : l.length = n) {q : Nat} (hq : q < n) : l.take (q + 1) ++ List.replicate (n - (q + 1)) d = (l.take q ++ List.replicate (n - q) d).set q (l.getD q d) := by
  apply List.ext_getElem?
  intro i
  rw [List.getElem?_set]
  have hln : (l.take q ++ List.replicate (n - q) d).length = n := by rw [List.length_append, List.length_take, List.length_replicate]; omega
  rw [hln]
  by_cases h1 : q = i
  · subst h1
    rw [if_pos rfl, if_pos hq, List.getElem?_append_left (by rw [List.length_take]; omega), List.getElem?_take, if_pos (by omega), List.getElem?_eq_getElem (by omega), getD_of (by omega)]
  · rw [if_neg h1]
    by_cases h2 : i < q
    · rw [List.getElem?_append_left (by rw [List.length_take]; omega), List.getElem?_append_left (by rw [List.length_take]; omega), List.getElem?_take, List.getElem?_take, if_pos (by omega), if_pos h2]
    · rw [List.getElem?_append_right (by rw [List.length_take]; omega), List.getElem?_append_right (by rw [List.length_take]; omega), List.length_take, List.length_take, List.getElem?_replicate, List.getElem?_replicate]
      by_cases h3 : i < n
      · rw [if_pos (by omega), if_pos (by omega)]
      · rw [if_neg (by omega), if_neg (by omega)]
/-- Both spaces' things, in blocks of the call's own. -/
structure Po2 (lo ga gb cb gs o1 o2 bx : Nat) (s : P2S) (w : World) : Prop where
  A : IBk ga s.a w
  B : w.ownsRow lo 3 1 (.slice (some ⟨gb, 0, none⟩) 256 cb) 256 (s.b.map (Value.int .i64))
  S : BBk gs s.sh w
  O1 : BBk o1 s.oa w
  O2 : BBk o2 s.ob w
  X : XBk bx o1 o2 w
  nab : ga ≠ gb
  n1 : gs ≠ o1
  n2 : gs ≠ o2
  n3 : o1 ≠ o2
  la : s.a.length = 256
  lb : s.b.length = 256
  ls : s.sh.length = 16
  l1 : s.oa.length = 16
  l2 : s.ob.length = 16
  va : ∀ z ∈ s.a, I64 z
  vb : ∀ z ∈ s.b, I64 z
section
variable {lo ga gb cb gs o1 o2 bx k : Nat} {s : P2S} {w w' : World}
theorem i64_setP {xs : List Int} (h : ∀ z ∈ xs, I64 z) {v : Int} (hv : I64 v) (k : Nat) : ∀ z ∈ xs.set k v, I64 z := fun z hz => (List.mem_or_eq_of_mem_set hz).elim (h z) (fun e => e ▸ hv)
theorem Po2.nbB (h : Po2 lo ga gb cb gs o1 o2 bx s w) {n : Nat} {bs : List Bool} (k : BBk n bs w) : n ≠ gb := fun e => own_ne_block h.B k (by decide) (by subst e; rfl)
theorem Po2.nbX (h : Po2 lo ga gb cb gs o1 o2 bx s w) : bx ≠ gb := fun e => own_ne_block h.B h.X (by decide) (by subst e; rfl)
theorem Po2.setA (h : Po2 lo ga gb cb gs o1 o2 bx s w) (k : Nat) {v : Int} (hv : I64 v) : Po2 lo ga gb cb gs o1 o2 bx { s with a := s.a.set k v } (w.setCell ⟨ga, k, none⟩ (.int .i64 v)) :=
  ⟨h.A.set k v, own_set h.B (by simp [Value.ownBlock]; exact h.nab) _, set_block_ne h.S (h.A.ne h.S).symm _, set_block_ne h.O1 (h.A.ne h.O1).symm _, set_block_ne h.O2 (h.A.ne h.O2).symm _, set_block_ne h.X (h.X.neI h.A) _, h.nab, h.n1, h.n2, h.n3, by simp [h.la], h.lb, h.ls, h.l1, h.l2, i64_setP h.va hv k, h.vb⟩
theorem Po2.setB (h : Po2 lo ga gb cb gs o1 o2 bx s w) (k : Nat) {v : Int} (hv : I64 v) : Po2 lo ga gb cb gs o1 o2 bx { s with b := s.b.set k v } (w.setCell ⟨gb, k, none⟩ (.int .i64 v)) :=
  ⟨set_block_ne h.A h.nab _, by rw [List.map_set]; exact (h.B.stored k (.int .i64 v)).1, set_block_ne h.S (h.nbB h.S) _, set_block_ne h.O1 (h.nbB h.O1) _, set_block_ne h.O2 (h.nbB h.O2) _, set_block_ne h.X h.nbX _, h.nab, h.n1, h.n2, h.n3, h.la, by simp [h.lb], h.ls, h.l1, h.l2, h.va, i64_setP h.vb hv k⟩
theorem Po2.setS (h : Po2 lo ga gb cb gs o1 o2 bx s w) (k : Nat) (v : Bool) : Po2 lo ga gb cb gs o1 o2 bx { s with sh := s.sh.set k v } (w.setCell ⟨gs, k, none⟩ (.bool v)) :=
  ⟨set_block_ne h.A (h.A.ne h.S) _, own_set h.B (by simp [Value.ownBlock]; exact h.nbB h.S) _, h.S.set k v, set_block_ne h.O1 h.n1.symm _, set_block_ne h.O2 h.n2.symm _, set_block_ne h.X (h.X.neB h.S) _, h.nab, h.n1, h.n2, h.n3, h.la, h.lb, by simp [h.ls], h.l1, h.l2, h.va, h.vb⟩
theorem Po2.setO1 (h : Po2 lo ga gb cb gs o1 o2 bx s w) (k : Nat) (v : Bool) : Po2 lo ga gb cb gs o1 o2 bx { s with oa := s.oa.set k v } (w.setCell ⟨o1, k, none⟩ (.bool v)) :=
  ⟨set_block_ne h.A (h.A.ne h.O1) _, own_set h.B (by simp [Value.ownBlock]; exact h.nbB h.O1) _, set_block_ne h.S h.n1 _, h.O1.set k v, set_block_ne h.O2 h.n3.symm _, set_block_ne h.X (h.X.neB h.O1) _, h.nab, h.n1, h.n2, h.n3, h.la, h.lb, h.ls, by simp [h.l1], h.l2, h.va, h.vb⟩
theorem Po2.setO2 (h : Po2 lo ga gb cb gs o1 o2 bx s w) (k : Nat) (v : Bool) : Po2 lo ga gb cb gs o1 o2 bx { s with ob := s.ob.set k v } (w.setCell ⟨o2, k, none⟩ (.bool v)) :=
  ⟨set_block_ne h.A (h.A.ne h.O2) _, own_set h.B (by simp [Value.ownBlock]; exact h.nbB h.O2) _, set_block_ne h.S h.n2 _, set_block_ne h.O1 h.n3 _, h.O2.set k v, set_block_ne h.X (h.X.neB h.O2) _, h.nab, h.n1, h.n2, h.n3, h.la, h.lb, h.ls, h.l1, by simp [h.l2], h.va, h.vb⟩
/-- The states that the document's stores lead to. -/
theorem put_same {who : Bool} {p j : Nat} {v : Int} (hj : j < 16) (hs : s.sh.getD p false = false) : s.put who (16 * p + j) v false = { s with a := if who then s.a else s.a.set (16 * p + j) v, b := if who then s.b.set (16 * p + j) v else s.b } := by
  unfold P2S.put; simp only [put_page hj, hs, Bool.false_eq_true, if_false, Bool.false_and, Bool.or_false, Bool.false_or]
theorem put_own1 {p j : Nat} {v : Int} (hj : j < 16) (hs : s.sh.getD p false = false) : s.put false (16 * p + j) v true = { s with a := s.a.set (16 * p + j) v, oa := s.oa.set p true, k := s.k + 1 } := by
  unfold P2S.put; simp only [put_page hj, hs, Bool.false_eq_true, if_false, if_true, Bool.and_false, Bool.or_false, Bool.false_or, Bool.not_false, Bool.and_true]
theorem put_own2 {p j : Nat} {v : Int} (hj : j < 16) (hs : s.sh.getD p false = false) : s.put true (16 * p + j) v true = { s with b := s.b.set (16 * p + j) v, ob := s.ob.set p true, k := s.k + 1 } := by
  unfold P2S.put; simp only [put_page hj, hs, Bool.false_eq_true, if_false, if_true, Bool.and_false, Bool.or_false, Bool.false_or, Bool.not_true, Bool.and_true]
theorem put_both {who : Bool} {p j : Nat} {v : Int} (hj : j < 16) (hs : s.sh.getD p false = true) : s.put who (16 * p + j) v true = { a := if who then s.a else s.a.set (16 * p + j) v, b := if who then s.b.set (16 * p + j) v else s.b, sh := s.sh.set p false, oa := s.oa.set p true, ob := s.ob.set p true, k := s.k + 1 } := by
  unfold P2S.put; simp only [put_page hj, hs, if_true, Bool.true_or]
theorem wants_sh {who : Bool} {p : Nat} (hs : s.sh.getD p false = true) : s.wants who p = true := by unfold P2S.wants; rw [hs]; rfl
theorem wants_no {who : Bool} {p : Nat} (hs : s.sh.getD p false = false) (ho : (s.own who).getD p false = false) : s.wants who p = true := by unfold P2S.wants; rw [ho, Bool.not_false, Bool.or_true]
theorem wants_own {who : Bool} {p : Nat} (hs : s.sh.getD p false = false) (ho : (s.own who).getD p false = true) : s.wants who p = false := by unfold P2S.wants; rw [hs, ho]; rfl
theorem Po2.cnt (h : Po2 lo ga gb cb gs o1 o2 bx s w) (n : Nat) : Po2 lo ga gb cb gs o1 o2 bx { s with k := n } w := ⟨h.A, h.B, h.S, h.O1, h.O2, h.X, h.nab, h.n1, h.n2, h.n3, h.la, h.lb, h.ls, h.l1, h.l2, h.va, h.vb⟩
end
end Go.Proofs.Ytpmdlmgmfggioaa
