/- Field laws: the walk of FieldSquares. -/
import Derived.Test.YtpjkhedodlnloaaFl4
namespace Go.Proofs.Ytpjkhedodlnloaa
open Go.RowKit

def rokN (a : Nat) : Bool := Nt.rtok pN eN iN a
theorem rok_iff {a : Nat} (ha : a < pN) (h0 : a ≠ 0) : rokN a = true ↔ a ^ hN % pN = 1 := Nt.rtok_iff pN_prime pN_odd hN_two eN_four iN_sq ha h0
theorem half_or {a : Nat} (ha : a < pN) (h0 : a ≠ 0) : a ^ hN % pN = 1 ∨ a ^ hN % pN = pN - 1 := Nt.half_cases pN_prime hN_two (by rw [Nat.mod_eq_of_lt ha]; exact h0)
theorem mul_ne {a b : Nat} (ha : a < pN) (hb : b < pN) (a0 : a ≠ 0) (b0 : b ≠ 0) : a * b % pN ≠ 0 := by
  intro h
  rcases pN_prime.dvd_mul (Nat.dvd_of_mod_eq_zero h) with h1 | h1
  · exact a0 (Nat.eq_zero_of_dvd_of_lt h1 ha)
  · exact b0 (Nat.eq_zero_of_dvd_of_lt h1 hb)
theorem rok_false {a : Nat} (ha : a < pN) (h0 : a ≠ 0) : rokN a = false ↔ a ^ hN % pN = pN - 1 := by
  have h1 := rok_iff ha h0
  have hp : 1 ≠ pN - 1 := by decide
  constructor
  · intro h
    rcases half_or ha h0 with h2 | h2
    · rw [h1.2 h2] at h; cases h
    · exact h2
  · intro h
    cases hk : rokN a
    · rfl
    · rw [h1.1 hk] at h; exact absurd h hp
theorem rok_mul {a b : Nat} (ha : a < pN) (hb : b < pN) (a0 : a ≠ 0) (b0 : b ≠ 0) : rokN (a * b % pN) = (rokN a == rokN b) := by
  have hm : a * b % pN < pN := Nat.mod_lt _ pN_pos
  have hh := Nt.half_mul (p := pN) (h := hN) a b
  have hp1 : 1 % pN = 1 := by decide
  have hp2 : (pN - 1) % pN = pN - 1 := by decide
  have hp3 : (pN - 1) * (pN - 1) % pN = 1 := by decide
  cases h1 : rokN a <;> cases h2 : rokN b
  · rw [(rok_false ha a0).1 h1, (rok_false hb b0).1 h2, hp3] at hh
    exact (rok_iff hm (mul_ne ha hb a0 b0)).2 hh
  · rw [(rok_false ha a0).1 h1, (rok_iff hb b0).1 h2, Nat.mul_one, hp2] at hh
    exact (rok_false hm (mul_ne ha hb a0 b0)).2 hh
  · rw [(rok_iff ha a0).1 h1, (rok_false hb b0).1 h2, Nat.one_mul, hp2] at hh
    exact (rok_false hm (mul_ne ha hb a0 b0)).2 hh
  · rw [(rok_iff ha a0).1 h1, (rok_iff hb b0).1 h2, Nat.one_mul, hp1] at hh
    exact (rok_iff hm (mul_ne ha hb a0 b0)).2 hh

theorem h_lt : hN < 256 ^ 32 := by decide
theorem set_h1 : (byts (256 ^ 32 - 1)).set 0 (.int .u8 246) = byts (256 ^ 32 - 10) := byts_set (v := 246) (by decide) (by decide) (by decide) (by decide)
theorem set_h2 : (byts (256 ^ 32 - 10)).set 31 (.int .u8 63) = byts hN := byts_set (v := 63) (by decide) (by decide) (by decide) (by decide)

end Go.Proofs.Ytpjkhedodlnloaa
