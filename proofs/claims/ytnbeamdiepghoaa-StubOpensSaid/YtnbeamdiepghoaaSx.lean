/- stub.Frame of the text "c" (StubTells). -/
import Derived.Test.YtnbeamdiepghoaaRows
import Derived.Test.YtnbeamdiepghoaaOpen
import Derived.Test.YtnbeamdiepghoaaFacts
import Derived.WalkKit
import Derived.ProofKit
import Derived.OpenShut
import Derived.ShutString
import Derived.ChangeOld
import Derived.Below
import Derived.Test.YtnbeamdiepghoaaFacts
import Derived.Test.YtnbeamdiepghoaaBits
import Derived.Test.YtnbeamdiepghoaaShl
import Derived.Laws.IdiomStrings
import Derived.Laws.BytesArg
namespace Go.Proofs.Ytnbeamdiepghoaa
open Go Go.RowKit Go.ChangeShapes Go.WideShapes Go.ChangeAt Go.Deep
set_option linter.unusedVariables false

attribute [local go_sem] i64_and15
/-- The sum of a text's bytes. -/
def sumT (l : List UInt8) : Int := l.foldl (fun a b => a + (b.toNat : Int)) 0
theorem sumT_snoc (l : List UInt8) (b : UInt8) : sumT (l ++ [b]) = sumT l + (b.toNat : Int) := by simp [sumT]
theorem sumT_take {l : List UInt8} {k : Nat} (h : k < l.length) : sumT (l.take (k + 1)) = sumT (l.take k) + (l[k].toNat : Int) := by
  rw [List.take_add_one, List.getElem?_eq_getElem h]; exact sumT_snoc _ _
theorem sumT_rng (l : List UInt8) (k : Nat) : 0 ≤ sumT (l.take k) ∧ sumT (l.take k) ≤ 255 * (k : Int) := by
  induction k with
  | zero => simp [sumT]
  | succ k ih =>
    by_cases h : k < l.length
    · rw [sumT_take h]; have := l[k].toNat_lt; omega
    · rw [List.take_of_length_le (by omega)] at ih ⊢; omega

theorem conv_two (W : World) (g : Nat) (hg : g = W.heap.size) (b1 b2 : UInt8) (ph : Nat × Nat) : (convert 27 9 (.slice (some ⟨g, 0, none⟩) 2 2)).run Try.prog (W.alloc (.cells #[.int .u8 b1.toNat, .int .u8 b2.toNat] 5 ph)) = .ok (.string ⟨#[b1, b2]⟩) (W.alloc (.cells #[.int .u8 b1.toNat, .int .u8 b2.toNat] 5 ph)) := by
  subst hg
  refine run_convert_bytes_back _ 27 9 5 ⟨W.heap.size, 0, none⟩ 2 [b1, b2] Try.underlying27 Try.underlying5 Try.underlying9 (fun j hj => ?_)
  match j, hj with
  | 0, _ => exact cell_block (alloc_at rfl) 0
  | 1, _ => exact cell_block (alloc_at rfl) 1

set_option maxHeartbeats 8000000 in
set_option maxRecDepth 100000 in
theorem ssum_any (t : ByteArray) (w : World) (ht : t.size < 4294967281) : Calls Try.prog 19 #[.string t] w fun e w' => (∃ s : ByteArray, s.size = 2 ∧ e = .returned (.string s)) ∧ Below w.heap.size w w' := by
  have HZ := Lib.hid ht
  go_enter Try.func19, Try.ntmps19
  go_wp2_with fail
  go_loopg [3, 7] t.size (fun gh s3 s7 wr => ∃ k q : Nat, k ≤ t.size ∧ gh = t.size - k ∧ s7 = .int .i64 k ∧ s3 = .int .i64 (sumT (t.data.toList.take k)) ∧ wr = w.drewN q)
  case atStart => exact ⟨0, 0, Nat.zero_le _, by omega, rfl, rfl, rfl⟩
  case round =>
    obtain ⟨k, q, hk, rfl, rfl, rfl, rfl⟩ := hrel
    by_cases hlt : k < t.size
    · have HS := Lib.hid (sumT_take (l := t.data.toList) (k := k) (by simpa using hlt))
      have HR := Lib.hid (sumT_rng t.data.toList k)
      generalize sumT (t.data.toList.take k) = z at *
      obtain ⟨z1, z2⟩ := HR.out
      have hb : t[k].toNat < 256 := t[k].toNat_lt
      have HB := Lib.hid (show t.data.toList[k].toNat = t[k].toNat from by rw [Array.getElem_toList]; rfl)
      go_wp2_with fail
      go_roundg (t.size - (k + 1))
      case measure => omega
      case rel => exact ⟨k + 1, q, by omega, rfl, by go_num, by rw [HS.out, HB.out], rfl⟩
    · have HR := Lib.hid (sumT_rng t.data.toList k)
      generalize sumT (t.data.toList.take k) = z at *
      obtain ⟨z1, z2⟩ := HR.out
      go_wp2_with fail
      go_region_with (rw [conv_two _ _ (by simp)])
      all_goals (go_wp2_with fail; go_ret; exact ⟨⟨_, rfl, rfl⟩, ((below_drewN (Below.refl _ _) _).alloc (by simp) _)⟩)

set_option maxHeartbeats 8000000 in
set_option maxRecDepth 100000 in
theorem frame_c (w : World) : Calls Try.prog 8 #[.string ⟨#[99]⟩] w fun e w' => (∃ s : ByteArray, e = .returned (.tuple #[.string s, .int .i64 0]) ∧ s ≠ ⟨#[]⟩) ∧ Below w.heap.size w w' := by
  have HC := Lib.hid (Try.strings_ContainsAny_laid ⟨#[99]⟩ ⟨#[36, 35]⟩ w (by decide) (by decide) (by intro j b h; match j with | 0 => (injection h with h; subst h; decide) | j + 1 => (exact absurd h (by simp))) (by intro j b h; match j with | 0 => (injection h with h; subst h; decide) | 1 => (injection h with h; subst h; decide) | j + 2 => (exact absurd h (by simp))))
  go_enter Try.func8, Try.ntmps8
  go_wp2_with fail
  refine HC.out.mono ?_
  rintro e w1 ⟨rfl, hb1⟩
  have HB1 := Lib.hid hb1
  clear hb1
  go_wp2_with fail
  refine (ssum_any ⟨#[99]⟩ w1 (by decide)).mono ?_
  rintro e w2 ⟨⟨s, hs2, rfl⟩, hb2⟩
  go_wp2_with fail
  all_goals first | (exfalso; omega; done) | skip
  go_ret2
  exact ⟨⟨_, rfl, by intro h; have h9 := congrArg ByteArray.size h; rw [ByteArray.size_append, ByteArray.size_append, ByteArray.size_append, hs2] at h9; revert h9; decide⟩, HB1.out.trans (hb2.mono HB1.out.size)⟩
end Go.Proofs.Ytnbeamdiepghoaa
