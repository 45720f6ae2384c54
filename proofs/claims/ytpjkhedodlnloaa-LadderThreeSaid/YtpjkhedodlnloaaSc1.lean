/- scalar: order, reduce. -/
import Derived.Test.YtpjkhedodlnloaaLm8
import Derived.Test.YtpjkhedodlnloaaTx
namespace Go.Proofs.Ytpjkhedodlnloaa
open Go.RowKit

/-- The order of the base point. -/
def qN : Nat := 7237005577332262213973186563042994240857116359379907606001950938285454250989

theorem lims_q : (lims 4 qN).toArray = #[.int .u64 6346243789798364141, .int .u64 1503914060200516822, .int .u64 0, .int .u64 1152921504606846976] := by kernel_rfl
theorem qN_lt : 2 * qN < 18446744073709551616 ^ 4 := by decide
theorem qN_pos : 0 < qN := by decide

theorem lims_mod (k n : Nat) (h : ∃ c, k = n + 18446744073709551616 ^ 4 * c) : lims 4 k = lims 4 n := by
  obtain ⟨c, rfl⟩ := h
  unfold lims
  congr 1
  unfold digs
  apply List.map_congr_left
  intro i hi
  simp only [List.mem_range] at hi
  have e : (18446744073709551616 : Nat) ^ 4 * c = 18446744073709551616 ^ i * (18446744073709551616 * (18446744073709551616 ^ (3 - i) * c)) := by
    rw [← Nat.mul_assoc, ← Nat.mul_assoc, Nat.mul_assoc _ 18446744073709551616, ← Nat.pow_succ', ← Nat.pow_add, show i + (3 - i).succ = 4 by omega]
  rw [e, Nat.add_mul_div_left _ _ (Nat.pow_pos (by decide)), Nat.add_mul_mod_self_left]

theorem red_step (V m X b r : Nat) (hX : V / 2 ^ (m + 1) = X) (hb : V / 2 ^ m % 2 = b) (hr : X % qN = r) : V / 2 ^ m % qN = if 2 * r + b < qN then 2 * r + b else 2 * r + b - qN := by
  have e : V / 2 ^ m = 2 * X + b := by
    rw [← hX, Nat.pow_succ, ← Nat.div_div_eq_div_mul]; omega
  have hb2 : b ≤ 1 := by omega
  have hq := qN_pos
  have h1 := Nat.div_add_mod X qN
  have h2 := Nat.mod_lt X hq
  rw [e]
  have e2 : 2 * X + b = (2 * r + b) + qN * (2 * (X / qN)) := by
    rw [hr] at h1
    have : qN * (2 * (X / qN)) = 2 * (qN * (X / qN)) := Nat.mul_left_comm _ _ _
    omega
  rw [e2, Nat.add_mul_mod_self_left]
  by_cases h : 2 * r + b < qN
  · rw [if_pos h, Nat.mod_eq_of_lt h]
  · rw [if_neg h, Nat.mod_eq_sub_mod (by omega), Nat.mod_eq_of_lt (by omega)]

theorem lims_set0 (n b : Nat) (hb : b ≤ 1) : (lims 4 (2 * n)).set 0 (.int .u64 (((2 * n) % 18446744073709551616 + b : Nat) : Int)) = lims 4 (2 * n + b) := by
  apply List.ext_getElem?
  intro j
  by_cases hj : j < 4
  · rw [List.getElem?_set, lims_get _ _ _ hj, lims_get _ _ _ hj, lims_len]
    by_cases h0 : 0 = j
    · subst h0
      rw [if_pos rfl, if_pos (by decide)]
      congr 3
      simp only [Nat.pow_zero, Nat.div_one]
      omega
    · rw [if_neg h0]
      obtain ⟨i, rfl⟩ : ∃ i, j = i + 1 := ⟨j - 1, by omega⟩
      have e : (2 * n + b) / 18446744073709551616 ^ (i + 1) = (2 * n) / 18446744073709551616 ^ (i + 1) := by
        rw [Nat.pow_succ, Nat.mul_comm (18446744073709551616 ^ i), ← Nat.div_div_eq_div_mul, ← Nat.div_div_eq_div_mul]
        congr 1
        omega
      rw [e]
  · rw [List.getElem?_eq_none (by rw [List.length_set, lims_len]; omega), List.getElem?_eq_none (by rw [lims_len]; omega)]

theorem or_even (x b : Nat) (hx : x < 18446744073709551616) (he : x % 2 = 0) (hb : b ≤ 1) : bits .or .u64 (x : Int) (b : Int) = ((x + b : Nat) : Int) := by
  rw [u64_or_nat _ _ hx (by omega)]
  congr 1
  have h : b = 0 ∨ b = 1 := by omega
  rcases h with rfl | rfl
  · simp
  · have := Nat.two_pow_add_eq_or_of_lt (i := 1) (b := 1) (by decide) (x / 2)
    have e : 2 ^ 1 * (x / 2) = x := by omega
    rw [e] at this
    exact this.symm

end Go.Proofs.Ytpjkhedodlnloaa
