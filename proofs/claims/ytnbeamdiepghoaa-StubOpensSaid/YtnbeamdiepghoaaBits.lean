/- Bit operations on 64-bit signed numbers as sums and remainders. No condition beyond those of each row. -/
import Derived.WalkKit
import Derived.Test.YtnbeamdiepghoaaMem
namespace Go.Proofs.Ytnbeamdiepghoaa
open Go Go.RowKit

theorem toNat_i64 (a : Int) : (BitVec.ofInt 64 a).toNat = (a % 18446744073709551616).toNat := by
  rw [BitVec.toNat_ofInt]; rfl

theorem dvd_cast {n : Nat} (h : n ∣ 18446744073709551616) : (n : Int) ∣ 18446744073709551616 := by
  obtain ⟨q, hq⟩ := h
  exact ⟨(q : Int), by rw [← Int.natCast_mul, ← hq]; rfl⟩

theorem i64_and_mask (i m : Nat) (hi : i < 63) (hm : m = 2 ^ i - 1) (a : Int) : bits .and .i64 a (m : Int) = a % (2 ^ i : Nat) := by
  have hp : 2 ^ i < 9223372036854775808 := by
    calc 2 ^ i ≤ 2 ^ 62 := Nat.pow_le_pow_right (by decide) (by omega)
      _ < 9223372036854775808 := by decide
  have hpos : 0 < 2 ^ i := Nat.two_pow_pos i
  have hdvd : (2 ^ i : Nat) ∣ 18446744073709551616 := by
    have : (18446744073709551616 : Nat) = 2 ^ 64 := by decide
    rw [this]
    exact Nat.pow_dvd_pow 2 (by omega)
  show IntKind.i64.wrap ((BitVec.ofInt 64 a &&& BitVec.ofInt 64 (m : Int)).toNat : Int) = _
  rw [BitVec.toNat_and, toNat_i64, toNat_i64, IntKind.wrap_i64]
  have e1 : ((m : Int) % 18446744073709551616).toNat = 2 ^ i - 1 := by omega
  rw [e1, Nat.and_two_pow_sub_one_eq_mod]
  have e2 : ((((a % 18446744073709551616).toNat % 2 ^ i : Nat)) : Int) = a % (2 ^ i : Nat) := by
    rw [Int.natCast_emod, Int.toNat_of_nonneg (by omega)]
    exact Int.emod_emod_of_dvd a (dvd_cast hdvd)
  rw [e2]
  have h1 : 0 ≤ a % (2 ^ i : Nat) := Int.emod_nonneg _ (by omega)
  have h2 : a % (2 ^ i : Nat) < (2 ^ i : Nat) := Int.emod_lt_of_pos _ (by exact_mod_cast hpos)
  generalize a % (2 ^ i : Nat) = q at *
  omega

theorem i64_and15 (a : Int) : bits .and .i64 a 15 = a % 16 := i64_and_mask 4 15 (by decide) (by decide) a
theorem i64_and7 (a : Int) : bits .and .i64 a 7 = a % 8 := i64_and_mask 3 7 (by decide) (by decide) a
theorem i64_and1 (a : Int) : bits .and .i64 a 1 = a % 2 := i64_and_mask 1 1 (by decide) (by decide) a
theorem i64_and127 (a : Int) : bits .and .i64 a 127 = a % 128 := i64_and_mask 7 127 (by decide) (by decide) a

theorem i64_or_join (i : Nat) (hi : i < 63) (x y : Int) (hx : x % (2 ^ i : Nat) = 0) (hx1 : I64 x) (hy : 0 ≤ y) (hy1 : y < (2 ^ i : Nat)) : bits .or .i64 x y = x + y := by
  obtain ⟨b1, b2⟩ := hx1
  have hp : 2 ^ i < 9223372036854775808 := by
    calc 2 ^ i ≤ 2 ^ 62 := Nat.pow_le_pow_right (by decide) (by omega)
      _ < 9223372036854775808 := by decide
  have hpos : 0 < 2 ^ i := Nat.two_pow_pos i
  have hdvd : (2 ^ i : Nat) ∣ 18446744073709551616 := by
    have : (18446744073709551616 : Nat) = 2 ^ 64 := by decide
    rw [this]
    exact Nat.pow_dvd_pow 2 (by omega)
  show IntKind.i64.wrap ((BitVec.ofInt 64 x ||| BitVec.ofInt 64 y).toNat : Int) = _
  rw [BitVec.toNat_or, toNat_i64, toNat_i64, IntKind.wrap_i64]
  have ey : (y % 18446744073709551616).toNat < 2 ^ i := by omega
  have ex : (x % 18446744073709551616).toNat % 2 ^ i = 0 := by
    have : (((x % 18446744073709551616).toNat % 2 ^ i : Nat) : Int) = 0 := by
      rw [Int.natCast_emod, Int.toNat_of_nonneg (by omega), Int.emod_emod_of_dvd x (dvd_cast hdvd)]
      exact hx
    omega
  rw [nat_join i _ _ ex ey]
  have hle : x + y ≤ 9223372036854775807 := by
    obtain ⟨q, hq⟩ : ∃ q, x = (2 ^ i : Nat) * q := ⟨x / (2 ^ i : Nat), by have := Int.mul_ediv_add_emod x (2 ^ i : Nat); omega⟩
    obtain ⟨r, hr⟩ : ∃ r : Nat, (9223372036854775808 : Nat) = 2 ^ i * r := by
      have : (9223372036854775808 : Nat) = 2 ^ 63 := by decide
      rw [this]
      exact Nat.pow_dvd_pow 2 (by omega)
    have hr' : (9223372036854775808 : Int) = (2 ^ i : Nat) * (r : Int) := by rw [← Int.natCast_mul, ← hr]; rfl
    have hpos' : (0 : Int) < (2 ^ i : Nat) := by exact_mod_cast hpos
    have hqr : q < r := by
      have : ((2 ^ i : Nat) : Int) * q < (2 ^ i : Nat) * r := by rw [← hq, ← hr']; omega
      exact Int.lt_of_mul_lt_mul_left this (by omega)
    have h3 : ((2 ^ i : Nat) : Int) * (q + 1) ≤ (2 ^ i : Nat) * r := Int.mul_le_mul_of_nonneg_left (by omega) (by omega)
    rw [Int.mul_add, Int.mul_one, ← hq, ← hr'] at h3
    omega
  omega

theorem wrap_id {x : Int} (h : -9223372036854775808 ≤ x ∧ x ≤ 9223372036854775807) : wrap64 x = x := by unfold wrap64; omega
end Go.Proofs.Ytnbeamdiepghoaa
