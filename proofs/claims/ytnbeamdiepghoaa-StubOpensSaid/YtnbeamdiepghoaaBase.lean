/- Contracts of the small functions that many laws use: In, sameInts. No condition beyond the readings. -/
import Derived.Test.YtnbeamdiepghoaaOpen
import Derived.Deep.QuietTactic
import Derived.BigQuiet
import Derived.Deep.DeepMust
import Derived.Deep.DeepFit
import Derived.Deep.RegionHeld3
import Derived.StillTailTactics
import Derived.Deep.RegionLaw
import Derived.Deep.DrawnRows
import Derived.Deep.DeepCutAuto
namespace Go.Proofs.Ytnbeamdiepghoaa
open Go Go.RowKit Go.ChangeShapes Go.WideShapes Go.Deep
set_option linter.unusedVariables false

theorem quiet_left {P : Program} {f : FuncId} {args : Array Value} {w : World} {n : Nat} {v : Value}
    (h : Calls P f args (w.drewN n) fun e w' => e = .returned v ∧ w.drewN n = w') : Calls P f args (w.drewN n) fun e w'' => e = .returned v ∧ ∃ m, w'' = w.drewN m :=
  h.mono fun _ _ ⟨he, hm⟩ => ⟨he, n, hm.symm⟩

theorem ret_bool {a b : Bool} (h : a = b) : Ending.returned (.bool a) = .returned (.bool b) := by rw [h]
theorem ret_int {k : IntKind} {a b : Int} (h : a = b) : Ending.returned (.int k a) = .returned (.int k b) := by rw [h]

/-- What In answers. -/
def inB (n lo hi : Int) : Bool := decide (lo ≤ n) && decide (n ≤ hi)
theorem inB_true {n lo hi : Int} (h : lo ≤ n ∧ n ≤ hi) : inB n lo hi = true := by simp [inB, h]
theorem inB_false {n lo hi : Int} (h : ¬ (lo ≤ n ∧ n ≤ hi)) : inB n lo hi = false := by
  unfold inB
  rw [Bool.and_eq_false_iff, decide_eq_false_iff_not, decide_eq_false_iff_not]
  omega

theorem in_yes (n lo hi : Int) (w : World) (h : lo ≤ n ∧ n ≤ hi) : Calls Try.prog 29 #[.int .i64 n, .int .i64 lo, .int .i64 hi] w fun e w' => e = .returned (.bool true) ∧ w = w' := by
  obtain ⟨h1, h2⟩ := h
  go_enter Try.func29, Try.ntmps29
  go_wp2
  go_ret
  simp_all

theorem in_no (n lo hi : Int) (w : World) (h : ¬ (lo ≤ n ∧ n ≤ hi)) : Calls Try.prog 29 #[.int .i64 n, .int .i64 lo, .int .i64 hi] w fun e w' => e = .returned (.bool false) ∧ w = w' := by
  by_cases h1 : lo ≤ n
  · have h2 : ¬ n ≤ hi := fun h2 => h ⟨h1, h2⟩
    clear h
    go_enter Try.func29, Try.ntmps29
    go_wp2
    go_ret
    simp_all
  · clear h
    go_enter Try.func29, Try.ntmps29
    go_wp2
    go_ret
    simp_all

theorem in_or (n lo hi : Int) (w : World) : Calls Try.prog 29 #[.int .i64 n, .int .i64 lo, .int .i64 hi] w fun e w' => (e = .returned (.bool true) ∧ w = w' ∧ lo ≤ n ∧ n ≤ hi) ∨ (e = .returned (.bool false) ∧ w = w' ∧ (n < lo ∨ hi < n)) := by
  by_cases h : lo ≤ n ∧ n ≤ hi
  · exact (in_yes n lo hi w h).mono fun _ _ ⟨a, b⟩ => Or.inl ⟨a, b, h⟩
  · exact (in_no n lo hi w h).mono fun _ _ ⟨a, b⟩ => Or.inr ⟨a, b, by omega⟩

theorem in_any (n lo hi : Int) (w : World) : Calls Try.prog 29 #[.int .i64 n, .int .i64 lo, .int .i64 hi] w fun e w' => e = .returned (.bool (inB n lo hi)) ∧ w = w' := by
  by_cases h : lo ≤ n ∧ n ≤ hi
  · rw [inB_true h]; exact in_yes n lo hi w h
  · rw [inB_false h]; exact in_no n lo hi w h

/-- n new numbers, all 0. -/
def zeroInts (n : Nat) : Array Value := madeCells #[.int .i64 0] n
theorem zeroInts_size (n : Nat) : (zeroInts n).size = n := size_madeCells _ _
theorem zeroInts_list (n : Nat) : (zeroInts n).toList = List.replicate n (.int .i64 0) := toList_madeCells_one _ _
theorem zeroInts_get (n k : Nat) (h : k < n) : (zeroInts n)[k]? = some (.int .i64 0) := by
  rw [← Array.getElem?_toList, zeroInts_list, List.getElem?_replicate, if_pos h]
/-- n new slices, all nil. -/
def nilRows (n : Nat) : Array Value := madeCells #[.slice none 0 0] n
theorem nilRows_size (n : Nat) : (nilRows n).size = n := size_madeCells _ _
theorem nilRows_list (n : Nat) : (nilRows n).toList = List.replicate n (.slice none 0 0) := toList_madeCells_one _ _
theorem nilRows_get (n k : Nat) (h : k < n) : (nilRows n)[k]? = some (.slice none 0 0) := by
  rw [← Array.getElem?_toList, nilRows_list, List.getElem?_replicate, if_pos h]
theorem info_int : (Try.prog.info? 3).map (fun i => (i.zero, i.size, i.bytes)) = some (some (.int .i64 0), 1, 8) := by kernel_rfl
theorem info_ints : (Try.prog.info? 32).map (fun i => (i.zero, i.size, i.bytes)) = some (some (.slice none 0 0), 1, 24) := by kernel_rfl
theorem mk_ints (n : Int) (h0 : 0 ≤ n) (h1 : n ≤ 1000000) (w : World) : (Instr.makeSlice 32 (.int .i64 n) (.int .i64 n)).run Try.prog w = .ok (.slice (some ⟨w.heap.size, 0, none⟩) n.toNat n.toNat) (w.alloc (.cells (zeroInts n.toNat) 3)) := by
  obtain ⟨i0, hi, hz0, hz1, hz2⟩ := info_parts info_int
  have h := run_make (P := Try.prog) w 32 3 i0 (.int .i64 0) Try.underlying32 hi hz0 .i64 .i64 n n h0 (Int.le_refl _) (by rw [hz2]; omega) (by omega)
  rw [h, hz1, Nat.mul_one]
  rfl

theorem mk_rows (n : Int) (h0 : 0 ≤ n) (h1 : n ≤ 1000000) (w : World) : (Instr.makeSlice 46 (.int .i64 n) (.int .i64 n)).run Try.prog w = .ok (.slice (some ⟨w.heap.size, 0, none⟩) n.toNat n.toNat) (w.alloc (.cells (nilRows n.toNat) 32)) := by
  obtain ⟨i0, hi, hz0, hz1, hz2⟩ := info_parts info_ints
  have h := run_make (P := Try.prog) w 46 32 i0 (.slice none 0 0) Try.underlying46 hi hz0 .i64 .i64 n n h0 (Int.le_refl _) (by rw [hz2]; omega) (by omega)
  rw [h, hz1, Nat.mul_one]
  rfl

/-- A block whose first cells are numbers, read. -/
theorem ints_of_block {w : World} {g cap : Nat} {cur : Array Value} {t : TypeId} {fr : Nat × Nat} {zs : List Int} (h : w.heap[g]? = some (.cells cur t fr)) (hl : zs.length ≤ 17592186043904) (hcap : zs.length ≤ cap) (hc : ∀ i (hi : i < zs.length), cur[i]? = some (.int .i64 zs[i])) (hz : ∀ z ∈ zs, I64 z) :
    Ints w.heap.size w (.slice (some ⟨g, 0, none⟩) zs.length cap) zs :=
  ⟨_, cap, rfl, hl, hcap, fun i hi => ⟨g, 0, _, rfl, (Array.getElem?_eq_some_iff.1 h).1, by simp [World.cell?, h, hc i hi], rfl, hz _ (List.getElem_mem hi)⟩⟩

set_option maxHeartbeats 400000 in
/-- Two slices that read alike are the same to sameInts. -/
theorem sameInts_yes {B : Nat} (v1 v2 : Value) (zs : List Int) (w : World) (h1 : Ints B w v1 zs) (h2 : Ints B w v2 zs) :
    Calls Try.prog 16 #[v1, v2] w fun e w' => e = .returned (.bool true) ∧ ∃ n, w' = w.drewN n := by
  obtain ⟨a, c, rfl, hl, _, hc⟩ := h1
  obtain ⟨a', c', rfl, _, _, hc'⟩ := h2
  have Hc := Lib.hid hc
  have Hc' := Lib.hid hc'
  clear hc hc'
  go_enter Try.func16, Try.ntmps16
  go_wp2
  go_loopw [5] (fun i wr => ∃ k : Nat, k ≤ zs.length ∧ i = .int .i64 k ∧ ∃ n, wr = w.drewN n) (fun i _ => zs.length - (intOf i).toNat)
  case atStart => exact ⟨0, Nat.zero_le _, rfl, 0, rfl⟩
  case round =>
    obtain ⟨k, hk, rfl, n, rfl⟩ := hrel
    by_cases hlt : k < zs.length
    · obtain ⟨b, off, vi, ha, hb, hcell, hvi, hz⟩ := Hc.out k hlt
      obtain ⟨b', off', vi', ha', hb', hcell', hvi', hz'⟩ := Hc'.out k hlt
      subst ha ha' hvi hvi'
      generalize hzz : zs[k] = z at *
      clear hz hz' hzz Hc Hc'
      go_wp2
      go_quiet (fail)
      go_wp2
      go_roundw
      case rel => exact ⟨k + 1, by omega, by go_num, _, rfl⟩
      case measure => simp [intOf]; omega
    · go_wp2
      go_ret
      exact ⟨rfl, n, rfl⟩
end Go.Proofs.Ytnbeamdiepghoaa
