/- Bit operations on int. -/
import Derived.Test.YtpjkhedodlnloaaLm6
namespace Go.Proofs.Ytpjkhedodlnloaa
open Go.RowKit

theorem i64_toNat (x : Int) : (BitVec.ofInt 64 x).toNat = (x % 18446744073709551616).toNat := by
  rw [BitVec.toNat_ofInt]
  rfl

/-- The lowest bits of a number, that may be below nought. -/
theorem and_i64_mask (x : Int) (k : Nat) (hk : k ≤ 62) (M : Int) (hM : M = 2 ^ k - 1) : bits .and .i64 x M = x % 2 ^ k := by
  have hp : (2 : Nat) ^ k ≤ 2 ^ 62 := Nat.pow_le_pow_right (by decide) hk
  have hp1 : 0 < (2 : Nat) ^ k := Nat.pow_pos (by decide)
  have e2 : M = ((2 ^ k - 1 : Nat) : Int) := by rw [hM, Int.ofNat_sub hp1]; simp
  have h2 : (BitVec.ofInt 64 M).toNat = 2 ^ k - 1 := by
    rw [e2, BitVec.ofInt_natCast, BitVec.toNat_ofNat]; exact Nat.mod_eq_of_lt (by omega)
  show IntKind.i64.wrap ((BitVec.ofInt 64 x &&& BitVec.ofInt 64 M).toNat : Int) = _
  rw [BitVec.toNat_and, h2, Nat.and_two_pow_sub_one_eq_mod, i64_toNat]
  have h3 : 0 ≤ x % 18446744073709551616 := Int.emod_nonneg _ (by decide)
  have e5 : ((2 ^ k : Nat) : Int) = 2 ^ k := by simp
  have hpos : (0 : Int) < 2 ^ k := by rw [← e5]; exact Int.ofNat_lt.2 hp1
  have hlt : (2 : Int) ^ k ≤ 4611686018427387904 := by rw [← e5]; exact Int.ofNat_le.2 hp
  have e4 : (((x % 18446744073709551616).toNat % 2 ^ k : Nat) : Int) = x % 2 ^ k := by
    rw [Int.natCast_emod, Int.toNat_of_nonneg h3]
    have hd : (2 : Int) ^ k ∣ 18446744073709551616 := by
      refine ⟨2 ^ (64 - k), ?_⟩
      rw [← Int.pow_add, show k + (64 - k) = 64 by omega]; rfl
    rw [e5, Int.emod_emod_of_dvd _ hd]
  rw [e4]
  have h5 := Int.emod_nonneg x (Int.ne_of_gt hpos)
  have h6 := Int.emod_lt_of_pos x hpos
  exact i64_in (by omega)

theorem and_255 (x : Int) : bits .and .i64 x 255 = x % 256 := and_i64_mask x 8 (by decide) 255 (by decide)
theorem and_65535 (x : Int) : bits .and .i64 x 65535 = x % 65536 := and_i64_mask x 16 (by decide) 65535 (by decide)
theorem and_one (x : Int) : bits .and .i64 x 1 = x % 2 := and_i64_mask x 1 (by decide) 1 (by decide)

theorem or_i64_nat (a b : Nat) (ha : a < 9223372036854775808) (hb : b < 9223372036854775808) : bits .or .i64 (a : Int) (b : Int) = ((a ||| b : Nat) : Int) := by
  have hx : a ||| b < 2 ^ 63 := Nat.or_lt_two_pow (by omega) (by omega)
  have h1 : (BitVec.ofInt 64 (a : Int)).toNat = a := by
    rw [BitVec.ofInt_natCast, BitVec.toNat_ofNat]; exact Nat.mod_eq_of_lt (by omega)
  have h2 : (BitVec.ofInt 64 (b : Int)).toNat = b := by
    rw [BitVec.ofInt_natCast, BitVec.toNat_ofNat]; exact Nat.mod_eq_of_lt (by omega)
  show IntKind.i64.wrap ((BitVec.ofInt 64 (a : Int) ||| BitVec.ofInt 64 (b : Int)).toNat : Int) = _
  rw [BitVec.toNat_or, h1, h2]
  exact i64_in (by omega)

/-- Two bytes. -/
theorem or_two (a b : Nat) (ha : a < 256) (hb : b < 256) : bits .or .i64 (a : Int) ((b : Int) * 256) = ((a + 256 * b : Nat) : Int) := by
  rw [show (b : Int) * 256 = ((256 * b : Nat) : Int) by omega, or_i64_nat _ _ (by omega) (by omega)]
  congr 1
  have := Nat.two_pow_add_eq_or_of_lt (i := 8) (b := a) ha b
  rw [show 2 ^ 8 * b = 256 * b from rfl] at this
  rw [Nat.or_comm, ← this, Nat.add_comm]

end Go.Proofs.Ytpjkhedodlnloaa
