/- stub.sum of any text: its two digits. -/
import Derived.Test.YtnbeamdiepghoaaSx
import Derived.Test.YtnbeamdiepghoaaUc
namespace Go.Proofs.Ytnbeamdiepghoaa
open Go Go.RowKit Go.ChangeShapes Go.WideShapes Go.ChangeAt Go.Deep
set_option linter.unusedVariables false

attribute [local go_sem] i64_and15
/-- A digit. -/
def hexd (z : Int) : UInt8 := if z < 10 then (48 + z).toNat.toUInt8 else (87 + z).toNat.toUInt8
/-- The sum of a text, told in two digits. -/
def hexT (l : List UInt8) : ByteArray := ⟨#[hexd (sumT l / 16 % 16), hexd (sumT l % 16)]⟩
def digT : ByteArray := ⟨#[48, 49, 50, 51, 52, 53, 54, 55, 56, 57, 97, 98, 99, 100, 101, 102]⟩
theorem digT_at (z : Int) (h0 : 0 ≤ z) (h1 : z < 16) (h : z.toNat < digT.size) : digT[z.toNat]'h = hexd z := by
  obtain ⟨n, rfl⟩ : ∃ n : Nat, z = n := ⟨z.toNat, by omega⟩
  simp only [Int.toNat_natCast] at h ⊢
  have hn : n < 16 := by omega
  match n, hn with
  | 0, _ => rfl
  | 1, _ => rfl
  | 2, _ => rfl
  | 3, _ => rfl
  | 4, _ => rfl
  | 5, _ => rfl
  | 6, _ => rfl
  | 7, _ => rfl
  | 8, _ => rfl
  | 9, _ => rfl
  | 10, _ => rfl
  | 11, _ => rfl
  | 12, _ => rfl
  | 13, _ => rfl
  | 14, _ => rfl
  | 15, _ => rfl
  | n + 16, hn => omega

set_option maxHeartbeats 8000000 in
set_option maxRecDepth 100000 in
theorem sumhex_any (t : ByteArray) (w : World) (ht : t.size < 4294967281) : Calls Try.prog 19 #[.string t] w fun e w' => e = .returned (.string (hexT t.data.toList)) ∧ Below w.heap.size w w' := by
  have HZ := Lib.hid ht
  go_enter Try.func19, Try.ntmps19
  go_wp2_with fail
  go_loopg [3, 7] t.size (fun gh s3 s7 wr => ∃ k q : Nat, k ≤ t.size ∧ gh = t.size - k ∧ s7 = .int .i64 k ∧ s3 = .int .i64 (sumT (t.data.toList.take k)) ∧ wr = w.drewN q)
  case atStart => exact ⟨0, 0, Nat.zero_le _, by omega, rfl, rfl, rfl⟩
  case round =>
    obtain ⟨k, q, hk, rfl, rfl, rfl, rfl⟩ := hrel
    by_cases hlt : k < t.size
    · have HS := Lib.hid (sumT_take (l := t.data.toList) (k := k) (by simpa using hlt))
      have HR := Lib.hid (sumT_rng t.data.toList k)
      generalize sumT (t.data.toList.take k) = z at *
      obtain ⟨z1, z2⟩ := HR.out
      have hb : t[k].toNat < 256 := t[k].toNat_lt
      have HB := Lib.hid (show t.data.toList[k].toNat = t[k].toNat from by rw [Array.getElem_toList]; rfl)
      go_wp2_with fail
      go_roundg (t.size - (k + 1))
      case measure => omega
      case rel => exact ⟨k + 1, q, by omega, rfl, by go_num, by rw [HS.out, HB.out], rfl⟩
    · have HR := Lib.hid (sumT_rng t.data.toList k)
      have HK := Lib.hid (show sumT (t.data.toList.take k) = sumT t.data.toList from by rw [List.take_of_length_le (by simpa using (by omega : t.size ≤ k))])
      generalize sumT (t.data.toList.take k) = z at *
      obtain ⟨z1, z2⟩ := HR.out
      have hd : digT.size = 16 := rfl
      have HF := Lib.hid (show Value.string ⟨#[digT[(z / 16 % 16).toNat]'(by omega), digT[(z % 16).toNat]'(by omega)]⟩ = .string (hexT t.data.toList) from by
        unfold hexT
        rw [digT_at _ (by omega) (by omega), digT_at _ (by omega) (by omega), HK.out])
      go_wp2_with fail
      go_region_with (rw [conv_two _ _ (by simp)])
      all_goals go_wp2_with fail
      all_goals go_ret
      all_goals exact ⟨congrArg Ending.returned HF.out, ((below_drewN (Below.refl _ _) _).alloc (by simp) _)⟩
end Go.Proofs.Ytnbeamdiepghoaa
