/- Field laws: the walks of FieldRules and FieldSums. -/
import Derived.Test.YtpjkhedodlnloaaFl1
namespace Go.Proofs.Ytpjkhedodlnloaa
open Go.RowKit

theorem p_ne {a : Nat} (h : a % pN ≠ 0) : ¬ pN ∣ a := fun hd => h (Nat.mod_eq_zero_of_dvd hd)
theorem fermat_p {a : Nat} (h : a % pN ≠ 0) : a ^ (pN - 1) % pN = 1 := Nt.fermat pN_prime (p_ne h)

theorem rules_inv {a b : Nat} (h : b % pN ≠ 0) : a * b % pN * (b ^ (pN - 2) % pN) % pN = a % pN := by
  have h1 := fermat_p h
  have e : b ^ (pN - 1) = b * b ^ (pN - 2) := by rw [← Nat.pow_succ']; rfl
  rw [← Nat.mul_mod, Nat.mul_assoc, ← e, Nat.mul_mod, h1, Nat.mul_one, Nat.mod_mod]

theorem rules_invinv (a : Nat) : (a ^ (pN - 2) % pN) ^ (pN - 2) % pN = a % pN := by
  rw [← Nat.pow_mod]
  by_cases h : a % pN = 0
  · rw [Nat.pow_mod, Nat.pow_mod a, h, Nat.zero_pow (by decide), Nat.zero_mod, Nat.zero_pow (by decide), Nat.zero_mod]
  · have h1 := fermat_p h
    rw [← Nat.pow_mul]
    have e : (pN - 2) * (pN - 2) = (pN - 1) * (pN - 3) + 1 := by decide
    rw [e, Nat.pow_succ, Nat.pow_mul, Nat.mul_mod, Nat.pow_mod, h1, Nat.one_pow, ← Nat.mul_mod, Nat.one_mul]

theorem sub_back (x y : Nat) (hy : y < pN) : ((x + y) % pN % pN + pN - y % pN) % pN = x % pN := by
  rw [Nat.mod_mod, Nat.mod_eq_of_lt hy, Nat.add_mod]
  have hx := Nat.mod_lt x pN_pos
  rw [Nat.mod_eq_of_lt hy]
  generalize x % pN = m at *
  by_cases h : m + y < pN
  · rw [Nat.mod_eq_of_lt h, show m + y + pN - y = m + pN by omega, Nat.add_mod_right, Nat.mod_eq_of_lt hx]
  · have e : (m + y) % pN = m + y - pN := by rw [Nat.mod_eq_sub_mod (by omega)]; exact Nat.mod_eq_of_lt (by omega)
    rw [e, show m + y - pN + pN - y = m by omega, Nat.mod_eq_of_lt hx]

theorem sub_back' (x y : Nat) : ((x + y) % pN % pN + pN - y % pN) % pN = x % pN := by
  have := sub_back x (y % pN) (Nat.mod_lt _ pN_pos)
  rw [Nat.mod_mod, Nat.mod_mod, Nat.add_mod x (y % pN), Nat.mod_mod, ← Nat.add_mod] at this
  rw [Nat.mod_mod]
  exact this

end Go.Proofs.Ytpjkhedodlnloaa
