/- strings.ContainsAny of the two signs of a packet, at any bytes whatever. No condition but the text's size. -/
import Derived.Test.YtnbeamdiepghoaaRows
import Derived.Test.YtnbeamdiepghoaaOpen
import Derived.Test.YtnbeamdiepghoaaFacts
import Derived.WalkKit
import Derived.ProofKit
import Derived.OpenShut
import Derived.ShutString
import Derived.ChangeOld
import Derived.Below
import Derived.Test.YtnbeamdiepghoaaFacts
import Derived.Test.YtnbeamdiepghoaaBits
import Derived.Test.YtnbeamdiepghoaaShl
import Derived.Lib.DecodeN
import Derived.Laws.Runes
import Derived.Laws.RangeString
import Derived.Deep.LoopGhost
import Derived.Deep.WholeRow
import Derived.StillTailTactics
namespace Go.Proofs.Ytnbeamdiepghoaa
open Go Go.RowKit Go.ChangeShapes Go.WideShapes Go.ChangeAt Go.Deep
set_option linter.unusedVariables false

theorem fits_string {H : Type} {t : TypeId} {s : ByteArray} (h : Fits Try.prog t (DataW.lit (H := H) (.string s.data.toList))) : s.size ≤ 140737488351232 := by
  have := h s.data.toList.length (by simp [DataW.weights])
  unfold reachBytes at this
  rw [Go.Lib.size_eq]
  omega
/-- The two signs. -/
def marks : ByteArray := ⟨#[36, 35]⟩
theorem dec_hi (s : ByteArray) (i : Nat) (hi : i < s.size) (h : 128 ≤ (s.get! i).toNat) : 128 ≤ (Utf8.decode s i).1 ∧ Lib.validRune ((Utf8.decode s i).1 : Int) = true ∧ 1 ≤ (Utf8.decode s i).2 ∧ i + (Utf8.decode s i).2 ≤ s.size ∧ ∀ j, j < (Utf8.decode s i).2 → 128 ≤ (s.get! (i + j)).toNat := by
  rw [Lib.decode_at]
  have h0 := UInt8.toNat_lt (s.get! i)
  have h1 := UInt8.toNat_lt (s.get! (i + 1))
  have h2 := UInt8.toNat_lt (s.get! (i + 2))
  have h3 := UInt8.toNat_lt (s.get! (i + 3))
  have key : ∀ k, k ≤ 4 → (1 < k → 128 ≤ (s.get! (i + 1)).toNat) → (2 < k → 128 ≤ (s.get! (i + 2)).toNat) → (3 < k → 128 ≤ (s.get! (i + 3)).toNat) → ∀ j, j < k → 128 ≤ (s.get! (i + j)).toNat := by
    intro k hk a1 a2 a3 j hj
    match j, hj with
    | 0, _ => exact h
    | 1, hj => exact a1 hj
    | 2, hj => exact a2 hj
    | 3, hj => exact a3 hj
    | j + 4, hj => omega
  unfold Lib.decodeN Lib.validRune
  generalize (s.get! i).toNat = b0 at *
  generalize (s.get! (i + 1)).toNat = b1 at *
  generalize (s.get! (i + 2)).toNat = b2 at *
  generalize (s.get! (i + 3)).toNat = b3 at *
  rw [if_neg (by omega)]
  split
  · split
    · exact ⟨by omega, decide_eq_true (by omega), by omega, by omega, key 2 (by omega) (by omega) (by omega) (by omega)⟩
    · exact ⟨by omega, by decide, by omega, by omega, key 1 (by omega) (by omega) (by omega) (by omega)⟩
  · split
    · split
      · exact ⟨by omega, decide_eq_true (by omega), by omega, by omega, key 3 (by omega) (by omega) (by omega) (by omega)⟩
      · exact ⟨by omega, by decide, by omega, by omega, key 1 (by omega) (by omega) (by omega) (by omega)⟩
    · split
      · split
        · exact ⟨by omega, decide_eq_true (by omega), by omega, by omega, key 4 (by omega) (by omega) (by omega) (by omega)⟩
        · exact ⟨by omega, by decide, by omega, by omega, key 1 (by omega) (by omega) (by omega) (by omega)⟩
      · exact ⟨by omega, by decide, by omega, by omega, key 1 (by omega) (by omega) (by omega) (by omega)⟩

theorem run_next_any (w : World) (s : ByteArray) (pos : Nat) (ty : TypeId) (h : pos < s.size) :
    (Instr.next (.pointer (some ⟨w.heap.size, 0, none⟩)) true ty).run Try.prog (w.iter s pos) = .ok (.tuple #[.bool true, .int .i64 pos, .int .i32 (Utf8.decode s pos).1]) (w.iter s (pos + (Utf8.decode s pos).2)) := by
  simp only [Instr.next, getObj, setObj, Sem.run_bind, Sem.run, World.iter_heap, Result.andThen, h, if_true, World.iter_set]
  simp [goInt, Sem.run, World.iter_heap, World.iter_set]

set_option maxHeartbeats 4000000 in
set_option maxRecDepth 100000 in
/-- A rune above ASCII is not among the two signs. -/
theorem idxrune_bad (w : World) : Calls Try.prog 32 #[.string marks, .int .i32 65533] w fun e w' => e = .returned (.int .i64 (-1)) ∧ Below w.heap.size w w' := by
  unfold marks
  go_enter Try.func32, Try.ntmps32
  go_wp2
  go_loopg [5, 6] 2 (fun g _ _ wx => ∃ i : Nat, i + g = 2 ∧ wx = w.iter ⟨#[36, 35]⟩ i)
  case atStart => exact ⟨0, by omega, rfl⟩
  case round =>
    obtain ⟨i, hig, rfl⟩ := hrel
    have HB := Lib.hid (fun i => below_alloc w (Obj.stringIter ⟨#[36, 35]⟩ i))
    match gk, i, hig with
    | 0, 2, _ =>
      have hnx := fun ty => run_next_end (P := Try.prog) w ⟨#[36, 35]⟩ 2 ty (by decide)
      go_wp2
      go_ret
      exact ⟨rfl, HB.out 2⟩
    | 1, 1, _ =>
      have hnx := fun ty => run_next_ascii (P := Try.prog) w ⟨#[36, 35]⟩ 1 ty (by decide) (by decide)
      go_wp2
      go_roundg 0
      case measure => omega
      case rel => exact ⟨2, rfl, rfl⟩
    | 2, 0, _ =>
      have hnx := fun ty => run_next_ascii (P := Try.prog) w ⟨#[36, 35]⟩ 0 ty (by decide) (by decide)
      go_wp2
      go_roundg 1
      case measure => omega
      case rel => exact ⟨1, rfl, rfl⟩
end Go.Proofs.Ytnbeamdiepghoaa
