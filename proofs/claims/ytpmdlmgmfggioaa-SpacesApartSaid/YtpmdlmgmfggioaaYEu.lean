/- Equal events are found equal: slices.Equal, slices.EqualFunc, the keep's comparison. No condition beyond the readings. -/
import Derived.Test.YtpmdlmgmfggioaaYDe
namespace Go.Proofs.Ytpmdlmgmfggioaa
open Go Go.RowKit Go.ChangeShapes Go.WideShapes Go.Deep
set_option linter.unusedVariables false

set_option maxHeartbeats 2000000 in
theorem equalI_any (v v' : Value) (zs : List Int) (w : World) (h : Ints w.heap.size w v zs) (h' : Ints w.heap.size w v' zs) : Calls Try.prog 10 #[v, v'] w fun e w' => e = .returned (.bool true) ∧ ∃ n, w' = w.drewN n := by
  obtain ⟨a, c, rfl, hl, _, hc⟩ := h
  obtain ⟨a', c', rfl, _, _, hc'⟩ := h'
  have Hc := Lib.hid hc
  have Hc' := Lib.hid hc'
  clear hc hc'
  go_enter Try.func10, Try.ntmps10
  go_wp2_with fail
  go_loopg [13] zs.length (fun gh s13 wr => ∃ k q : Nat, k ≤ zs.length ∧ gh = zs.length - k ∧ s13 = .int .i64 k ∧ wr = w.drewN q)
  case atStart => exact ⟨0, 0, Nat.zero_le _, by omega, rfl, rfl⟩
  case round =>
    obtain ⟨k, q, hk, rfl, rfl, rfl⟩ := hrel
    by_cases hlt : k < zs.length
    · obtain ⟨b, off, vi, ha, hb, hcell, hvi, _⟩ := Hc.out k hlt
      obtain ⟨b', off', vi', ha', hb', hcell', hvi', _⟩ := Hc'.out k hlt
      subst ha ha' hvi hvi'
      have hkk : (k : Int) < (zs.length : Int) := by omega
      have hk0 : (0 : Int) ≤ (k : Int) := by omega
      have hz : (zs[k] != zs[k]) = false := by simp
      generalize zs[k] = z at *
      go_wp2_with fail
      go_quiet (fail)
      go_wp2
      go_roundg (zs.length - (k + 1))
      case measure => omega
      case rel => exact ⟨k + 1, _, by omega, rfl, by go_num, rfl⟩
    · go_wp2
      go_ret
      exact ⟨rfl, q, rfl⟩

end Go.Proofs.Ytpmdlmgmfggioaa
