/- Digits: plain laws. -/
import Derived.Test.YtpjkhedodlnloaaMem
namespace Go.Proofs.Ytpjkhedodlnloaa

/-- The k lowest digits of n to the base b, the lowest first. -/
def digs (b k n : Nat) : List Nat := (List.range k).map fun i => n / b ^ i % b

theorem digs_len (b k n : Nat) : (digs b k n).length = k := by simp [digs]
theorem digs_get (b k n i : Nat) (h : i < k) : (digs b k n)[i]? = some (n / b ^ i % b) := by simp [digs, h]

/-- The first k of a list, and z for the others. -/
def part {α : Type} (k : Nat) (xs : List α) (z : α) : List α := xs.take k ++ List.replicate (xs.length - k) z

theorem part_len {α : Type} (k : Nat) (xs : List α) (z : α) : (part k xs z).length = xs.length := by
  simp only [part, List.length_append, List.length_take, List.length_replicate]; omega

theorem part_zero {α : Type} (xs : List α) (z : α) : part 0 xs z = List.replicate xs.length z := by simp [part]

theorem part_all {α : Type} (xs : List α) (z : α) : part xs.length xs z = xs := by simp [part]

theorem part_get {α : Type} (k j : Nat) (xs : List α) (z : α) (h : j < xs.length) : (part k xs z)[j]? = if j < k then xs[j]? else some z := by
  unfold part
  by_cases hj : j < k
  · rw [if_pos hj, List.getElem?_append_left (by simp; omega), List.getElem?_take, if_pos hj]
  · rw [if_neg hj, List.getElem?_append_right (by simp; omega), List.getElem?_replicate, if_pos (by simp; omega)]

theorem part_set {α : Type} {k : Nat} {xs : List α} {z u : α} (h : xs[k]? = some u) : (part k xs z).set k u = part (k + 1) xs z := by
  have hk : k < xs.length := (List.getElem?_eq_some_iff.1 h).1
  apply List.ext_getElem?
  intro j
  by_cases hj : j < xs.length
  · rw [List.getElem?_set, part_get k j xs z hj, part_get (k + 1) j xs z hj, part_len]
    by_cases e : k = j
    · subst e; rw [if_pos rfl, if_pos hk, if_pos (by omega), h]
    · rw [if_neg e]
      by_cases h2 : j < k
      · rw [if_pos h2, if_pos (by omega)]
      · rw [if_neg h2, if_neg (by omega)]
  · rw [List.getElem?_eq_none (by rw [List.length_set, part_len]; omega), List.getElem?_eq_none (by rw [part_len]; omega)]

/-- What is carried out of the k lowest digits of a sum. -/
def carry (b k x y : Nat) : Nat := (x % b ^ k + y % b ^ k) / b ^ k

theorem carry_zero (b x y : Nat) : carry b 0 x y = 0 := by simp [carry, Nat.mod_one]

theorem mod_pow_succ' (b k x : Nat) : x % b ^ (k + 1) = x % b ^ k + b ^ k * (x / b ^ k % b) := by
  rw [Nat.pow_succ, Nat.mod_mul]

theorem carry_le (b k x y : Nat) (hb : 0 < b) : carry b k x y ≤ 1 := by
  unfold carry
  have hp : 0 < b ^ k := Nat.pow_pos hb
  have h1 := Nat.mod_lt x hp
  have h2 := Nat.mod_lt y hp
  apply Nat.lt_succ_iff.1
  rw [Nat.div_lt_iff_lt_mul hp]
  omega

theorem carry_step (b k x y : Nat) (hb : 0 < b) : carry b (k + 1) x y = (x / b ^ k % b + y / b ^ k % b + carry b k x y) / b := by
  unfold carry
  have hp : 0 < b ^ k := Nat.pow_pos hb
  rw [mod_pow_succ', mod_pow_succ', Nat.pow_succ, ← Nat.div_div_eq_div_mul,
    show x % b ^ k + b ^ k * (x / b ^ k % b) + (y % b ^ k + b ^ k * (y / b ^ k % b)) = (x % b ^ k + y % b ^ k) + b ^ k * (x / b ^ k % b + y / b ^ k % b) by rw [Nat.mul_add]; omega,
    Nat.add_mul_div_left _ _ hp]
  congr 1
  omega

theorem carry_digit (b k x y : Nat) (hb : 0 < b) : (x + y) / b ^ k % b = (x / b ^ k % b + y / b ^ k % b + carry b k x y) % b := by
  have hp : 0 < b ^ k := Nat.pow_pos hb
  have hx := Nat.div_add_mod x (b ^ k)
  have hy := Nat.div_add_mod y (b ^ k)
  have e : x + y = (x % b ^ k + y % b ^ k) + b ^ k * (x / b ^ k + y / b ^ k) := by rw [Nat.mul_add]; omega
  rw [e, Nat.add_mul_div_left _ _ hp]
  show (carry b k x y + (x / b ^ k + y / b ^ k)) % b = _
  rw [Nat.add_comm (carry b k x y), Nat.add_mod (x / b ^ k % b + y / b ^ k % b), ← Nat.add_mod (x / b ^ k), ← Nat.add_mod]

/-- A byte of a limb. -/
theorem limb_byte (n k : Nat) : n / 18446744073709551616 ^ (k / 8) % 18446744073709551616 / 2 ^ (8 * (k % 8)) % 256 = n / 256 ^ k % 256 := by
  have hr : k % 8 < 8 := Nat.mod_lt _ (by decide)
  have hk : k = 8 * (k / 8) + k % 8 := by omega
  have e1 : (18446744073709551616 : Nat) ^ (k / 8) = 256 ^ (8 * (k / 8)) := by rw [Nat.pow_mul]
  have e2 : (2 : Nat) ^ (8 * (k % 8)) = 256 ^ (k % 8) := by rw [Nat.pow_mul]
  have e3 : (18446744073709551616 : Nat) = 256 ^ (k % 8) * 256 ^ (8 - k % 8) := by rw [← Nat.pow_add, show k % 8 + (8 - k % 8) = 8 by omega]
  have e4 : (256 : Nat) ^ k = 256 ^ (8 * (k / 8)) * 256 ^ (k % 8) := by rw [← Nat.pow_add, ← hk]
  rw [e1, e2, e4, ← Nat.div_div_eq_div_mul]
  generalize n / 256 ^ (8 * (k / 8)) = m
  have e5 : m % 18446744073709551616 = m % (256 ^ (k % 8) * 256 ^ (8 - k % 8)) := by rw [← e3]
  rw [e5, Nat.mod_mul_right_div_self, Nat.mod_mod_of_dvd]
  exact Nat.dvd_of_pow_dvd (by omega : 1 ≤ 8 - k % 8) (Nat.dvd_refl _) |> fun h => by simpa using h

/-- What is borrowed by the k lowest digits of a difference. -/
def borrow (b k x y : Nat) : Nat := if x % b ^ k < y % b ^ k then 1 else 0

theorem borrow_zero (b x y : Nat) : borrow b 0 x y = 0 := by simp [borrow, Nat.mod_one]

theorem borrow_le (b k x y : Nat) : borrow b k x y ≤ 1 := by unfold borrow; split <;> omega

theorem borrow_step (b k x y : Nat) (hb : 0 < b) : borrow b (k + 1) x y = if x / b ^ k % b < y / b ^ k % b + borrow b k x y then 1 else 0 := by
  have hp : 0 < b ^ k := Nat.pow_pos hb
  unfold borrow
  rw [mod_pow_succ', mod_pow_succ']
  generalize x / b ^ k % b = X
  generalize y / b ^ k % b = Y
  have h1 := Nat.mod_lt x hp
  have h2 := Nat.mod_lt y hp
  generalize x % b ^ k = r at h1 ⊢
  generalize y % b ^ k = s at h2 ⊢
  generalize b ^ k = P at hp h1 h2 ⊢
  rcases Nat.lt_trichotomy X Y with h | h | h
  · have : P * (X + 1) ≤ P * Y := Nat.mul_le_mul_left P h
    rw [Nat.mul_add] at this
    split <;> (split <;> split <;> omega)
  · subst h
    split <;> (split <;> split <;> omega)
  · have : P * (Y + 1) ≤ P * X := Nat.mul_le_mul_left P h
    rw [Nat.mul_add] at this
    split <;> (split <;> split <;> omega)

/-- The digit of a difference, M being a multiple of all that is above. -/
theorem borrow_digit (b k m x y : Nat) (hb : 0 < b) (hk : k < m) (hxy : y ≤ x + b ^ m) : (x + b ^ m - y) / b ^ k % b = (x / b ^ k % b + b - y / b ^ k % b - borrow b k x y) % b := by
  have hp : 0 < b ^ k := Nat.pow_pos hb
  obtain ⟨d, rfl⟩ : ∃ d, m = k + 1 + d := ⟨m - (k + 1), by omega⟩
  have e : b ^ (k + 1 + d) = b ^ k * (b * b ^ d) := by rw [Nat.pow_add, Nat.pow_succ, Nat.mul_assoc]
  rw [e] at hxy ⊢
  have hx := Nat.div_add_mod x (b ^ k)
  have hy := Nat.div_add_mod y (b ^ k)
  have h1 := Nat.mod_lt x hp
  have h2 := Nat.mod_lt y hp
  have hX := Nat.div_add_mod (x / b ^ k) b
  have hY := Nat.div_add_mod (y / b ^ k) b
  have h3 := Nat.mod_lt (x / b ^ k) hb
  have h4 := Nat.mod_lt (y / b ^ k) hb
  unfold borrow
  generalize hxq : x / b ^ k = xq at *
  generalize hyq : y / b ^ k = yq at *
  generalize hxr : x % b ^ k = xr at *
  generalize hyr : y % b ^ k = yr at *
  clear hxq hyq hxr hyr
  generalize b ^ k = P at *
  generalize hXm : xq % b = X at *
  generalize hYm : yq % b = Y at *
  generalize xq / b = xh at *
  generalize yq / b = yh at *
  generalize hD : b ^ d = D at *
  clear hXm hYm hD e
  have key : ∃ q r, x + P * (b * D) - y = P * q + r ∧ r < P ∧ q + yq + (if xr < yr then 1 else 0) = xq + b * D := by
    have hP1 : ∀ u v, u + 1 ≤ v → P * u + P ≤ P * v := fun u v h => by have := Nat.mul_le_mul_left P h; rwa [Nat.mul_add, Nat.mul_one] at this
    by_cases hb2 : xr < yr
    · have h5 : yq + 1 ≤ xq + b * D := by
        rcases Nat.lt_or_ge yq (xq + b * D) with h | h
        · omega
        · have := Nat.mul_le_mul_left P h
          rw [Nat.mul_add] at this
          omega
      refine ⟨xq + b * D - yq - 1, P + xr - yr, ?_, by omega, by rw [if_pos hb2]; omega⟩
      obtain ⟨t, ht⟩ : ∃ t, xq + b * D = yq + 1 + t := ⟨_, (Nat.add_sub_of_le h5).symm⟩
      have h6 : P * (xq + b * D) = P * yq + P + P * t := by rw [ht, Nat.mul_add, Nat.mul_add, Nat.mul_one]
      rw [Nat.mul_add] at h6
      rw [show xq + b * D - yq - 1 = t by omega]
      omega
    · have h5 : yq ≤ xq + b * D := by
        rcases Nat.lt_or_ge (xq + b * D) yq with h | h
        · have := hP1 _ _ h
          rw [Nat.mul_add] at this
          omega
        · omega
      refine ⟨xq + b * D - yq, xr - yr, ?_, by omega, by rw [if_neg hb2]; omega⟩
      obtain ⟨t, ht⟩ : ∃ t, xq + b * D = yq + t := ⟨_, (Nat.add_sub_of_le h5).symm⟩
      have h6 : P * (xq + b * D) = P * yq + P * t := by rw [ht, Nat.mul_add]
      rw [Nat.mul_add] at h6
      rw [show xq + b * D - yq = t by omega]
      omega
  obtain ⟨q, r, h5, h6, h7⟩ := key
  rw [h5, Nat.mul_add_div hp, Nat.div_eq_of_lt h6, Nat.add_zero]
  have hbor : (if xr < yr then 1 else 0) ≤ 1 := by split <;> omega
  generalize (if xr < yr then 1 else 0) = B at *
  have h8 : q + b * (yh + 1) = (X + b - Y - B) + b * (xh + D) := by
    rw [Nat.mul_add, Nat.mul_add, Nat.mul_one]
    omega
  have h9 := congrArg (· % b) h8
  simpa only [Nat.add_mul_mod_self_left] using h9

theorem lim_pow (j : Nat) : (18446744073709551616 : Nat) ^ j = 256 ^ (8 * j) := by rw [Nat.pow_mul]

theorem of_low (n k j : Nat) (h : j < k / 8) : n % 256 ^ (k + 1) / 18446744073709551616 ^ j % 18446744073709551616 = n % 256 ^ k / 18446744073709551616 ^ j % 18446744073709551616 := by
  have hp : 0 < (18446744073709551616 : Nat) ^ j := Nat.pow_pos (by decide)
  have e : (256 : Nat) ^ k = 18446744073709551616 ^ j * (18446744073709551616 * 256 ^ (k - 8 * j - 8)) := by
    rw [lim_pow, show (18446744073709551616 : Nat) = 256 ^ 8 by decide, ← Nat.pow_add, ← Nat.pow_add]
    congr 1; omega
  rw [mod_pow_succ', e, Nat.mul_assoc, Nat.add_mul_div_left _ _ hp, Nat.mul_assoc, Nat.add_mul_mod_self_left]

theorem of_at (n k : Nat) : n % 256 ^ (k + 1) / 18446744073709551616 ^ (k / 8) % 18446744073709551616 = n % 256 ^ k / 18446744073709551616 ^ (k / 8) + n / 256 ^ k % 256 * 256 ^ (k % 8) ∧
    n % 256 ^ k / 18446744073709551616 ^ (k / 8) < 256 ^ (k % 8) ∧ n % 256 ^ k / 18446744073709551616 ^ (k / 8) + n / 256 ^ k % 256 * 256 ^ (k % 8) < 18446744073709551616 := by
  have hp : 0 < (18446744073709551616 : Nat) ^ (k / 8) := Nat.pow_pos (by decide)
  have e : (256 : Nat) ^ k = 18446744073709551616 ^ (k / 8) * 256 ^ (k % 8) := by
    rw [lim_pow, ← Nat.pow_add]
    congr 1; omega
  have h1 : n % 256 ^ k / 18446744073709551616 ^ (k / 8) < 256 ^ (k % 8) := by
    rw [Nat.div_lt_iff_lt_mul hp, Nat.mul_comm, ← e]
    exact Nat.mod_lt _ (Nat.pow_pos (by decide))
  have h2 : n / 256 ^ k % 256 < 256 := Nat.mod_lt _ (by decide)
  have h3 : n % 256 ^ k / 18446744073709551616 ^ (k / 8) + n / 256 ^ k % 256 * 256 ^ (k % 8) < 18446744073709551616 := by
    have h4 : (n / 256 ^ k % 256 + 1) * 256 ^ (k % 8) ≤ 256 * 256 ^ (k % 8) := Nat.mul_le_mul_right _ h2
    have h5 : 256 * 256 ^ (k % 8) ≤ 18446744073709551616 := by
      rw [Nat.mul_comm, ← Nat.pow_succ, show (18446744073709551616 : Nat) = 256 ^ 8 by decide]
      exact Nat.pow_le_pow_right (by decide) (by omega)
    rw [Nat.add_mul, Nat.one_mul] at h4
    omega
  refine ⟨?_, h1, h3⟩
  rw [mod_pow_succ']
  conv => lhs; rw [show n % 256 ^ k + 256 ^ k * (n / 256 ^ k % 256) = n % 256 ^ k + 18446744073709551616 ^ (k / 8) * (256 ^ (k % 8) * (n / 256 ^ k % 256)) by rw [← Nat.mul_assoc, ← e]]
  rw [Nat.add_mul_div_left _ _ hp, Nat.mul_comm (256 ^ (k % 8)), Nat.mod_eq_of_lt h3]

theorem of_high (n k j : Nat) (h : k / 8 < j) : n % 256 ^ (k + 1) / 18446744073709551616 ^ j % 18446744073709551616 = n % 256 ^ k / 18446744073709551616 ^ j % 18446744073709551616 := by
  have h1 : n % 256 ^ (k + 1) < 18446744073709551616 ^ j := by
    rw [lim_pow]
    exact Nat.lt_of_lt_of_le (Nat.mod_lt _ (Nat.pow_pos (by decide))) (Nat.pow_le_pow_right (by decide) (by omega))
  have h2 : n % 256 ^ k < 18446744073709551616 ^ j := by
    rw [lim_pow]
    exact Nat.lt_of_lt_of_le (Nat.mod_lt _ (Nat.pow_pos (by decide))) (Nat.pow_le_pow_right (by decide) (by omega))
  rw [Nat.div_eq_of_lt h1, Nat.div_eq_of_lt h2]

end Go.Proofs.Ytpjkhedodlnloaa
