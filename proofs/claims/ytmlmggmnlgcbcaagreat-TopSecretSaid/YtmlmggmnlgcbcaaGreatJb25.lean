import Derived.Lib.Hide
import Derived.Test.YtmlmggmnlgcbcaaGreatJb24
import Derived.Test.YtmlmggmnlgcbcaaGreatJb01
import Derived.ProofKit
import Derived.OpenShut
import Derived.Deep.Matrix
import Derived.Test.YtmlmggmnlgcbcaaGreatJb08

/- Elementary number theory: prime numbers, the little theorem of Fermat, and a proof that 2^255 - 19 is prime. No condition. -/
namespace Go.Proofs.YtmlmggmnlgcbcaaGreat
namespace Nt
def Prime (p : Nat) : Prop := 2 ≤ p ∧ ∀ d, d ∣ p → d = 1 ∨ d = p
theorem Prime.coprime {p a : Nat} (hp : Prime p) (h : ¬ p ∣ a) : Nat.Coprime p a := by
  rcases hp.2 (Nat.gcd p a) (Nat.gcd_dvd_left p a) with h1 | h1
  · exact h1
  · exact absurd (h1 ▸ Nat.gcd_dvd_right p a) h
theorem Prime.dvd_mul {p a b : Nat} (hp : Prime p) (h : p ∣ a * b) : p ∣ a ∨ p ∣ b := by
  by_cases ha : p ∣ a
  · exact .inl ha
  · exact .inr ((hp.coprime ha).dvd_of_dvd_mul_left h)
theorem exists_prime_dvd : ∀ n : Nat, 2 ≤ n → ∃ r, Prime r ∧ r ∣ n := by
  intro n
  induction n using Nat.strongRecOn with
  | _ n ih =>
    intro hn
    by_cases hp : Prime n
    · exact ⟨n, hp, Nat.dvd_refl n⟩
    · have : ∃ d, d ∣ n ∧ d ≠ 1 ∧ d ≠ n := by
        apply Classical.byContradiction
        intro hc
        apply hp
        refine ⟨hn, fun d hd => ?_⟩
        apply Classical.byContradiction
        intro h2
        exact hc ⟨d, hd, fun h => h2 (.inl h), fun h => h2 (.inr h)⟩
      obtain ⟨d, hd, h1, h2⟩ := this
      have hle := Nat.le_of_dvd (by omega) hd
      have h0 : d ≠ 0 := by
        rintro rfl
        have := Nat.eq_zero_of_zero_dvd hd
        omega
      obtain ⟨r, hr, hrd⟩ := ih d (by omega) (by omega)
      exact ⟨r, hr, Nat.dvd_trans hrd hd⟩
/-- Pascal's numbers. -/
def ch : Nat → Nat → Nat
  | _, 0 => 1
  | 0, _ + 1 => 0
  | n + 1, k + 1 => ch n k + ch n (k + 1)
theorem ch_zero (n : Nat) : ch n 0 = 1 := by cases n <;> rfl
theorem ch_succ (n k : Nat) : ch (n + 1) (k + 1) = ch n k + ch n (k + 1) := rfl
theorem ch_big : ∀ (n k : Nat), n < k → ch n k = 0
  | 0, 0, h => absurd h (by omega)
  | 0, k + 1, _ => rfl
  | n + 1, 0, h => absurd h (by omega)
  | n + 1, k + 1, h => by rw [ch_succ, ch_big n k (by omega), ch_big n (k + 1) (by omega)]
theorem ch_mul : ∀ (n k : Nat), (k + 1) * ch (n + 1) (k + 1) = (n + 1) * ch n k
  | 0, 0 => rfl
  | 0, k + 1 => by
      have : ch (0 + 1) (k + 1 + 1) = 0 := ch_big 1 (k + 2) (by omega)
      have h2 : ch 0 (k + 1) = 0 := rfl
      rw [this, h2]; simp
  | n + 1, 0 => by
      have h := ch_mul n 0
      rw [ch_succ (n + 1) 0, ch_zero]
      rw [ch_zero] at h
      omega
  | n + 1, k + 1 => by
      have h1 := ch_mul n k
      have h2 := ch_mul n (k + 1)
      rw [ch_succ (n + 1) (k + 1), Nat.mul_add]
      have e1 : (k + 1 + 1) * ch (n + 1) (k + 1) = (k + 1) * ch (n + 1) (k + 1) + ch (n + 1) (k + 1) := by
        rw [Nat.add_mul (k + 1) 1, Nat.one_mul]
      rw [e1, h1, h2]
      have e2 : (n + 1 + 1) * ch (n + 1) (k + 1) = (n + 1) * ch (n + 1) (k + 1) + ch (n + 1) (k + 1) := by
        rw [Nat.add_mul (n + 1) 1, Nat.one_mul]
      rw [e2, ch_succ n k, Nat.mul_add]
      omega
/-- The sum of the first m terms of (a + 1)^n. -/
def bsum (n a : Nat) : Nat → Nat
  | 0 => 0
  | m + 1 => bsum n a m + ch n m * a ^ m
theorem bsum_succ (n a : Nat) : ∀ m, bsum (n + 1) a (m + 1) = bsum n a (m + 1) + a * bsum n a m
  | 0 => by simp [bsum, ch_zero]
  | m + 1 => by
      show bsum (n + 1) a (m + 1) + ch (n + 1) (m + 1) * a ^ (m + 1) = (bsum n a (m + 1) + ch n (m + 1) * a ^ (m + 1)) + a * (bsum n a m + ch n m * a ^ m)
      rw [bsum_succ n a m, ch_succ, Nat.add_mul, Nat.mul_add]
      have : a * (ch n m * a ^ m) = ch n m * a ^ (m + 1) := by
        rw [Nat.pow_succ]; ac_rfl
      rw [this]; omega
theorem pow_bsum (a : Nat) : ∀ n, (a + 1) ^ n = bsum n a (n + 1)
  | 0 => by simp [bsum, ch_zero]
  | n + 1 => by
      rw [Nat.pow_succ, pow_bsum a n, bsum_succ]
      have : bsum n a (n + 1 + 1) = bsum n a (n + 1) := by
        show bsum n a (n + 1) + ch n (n + 1) * a ^ (n + 1) = _
        rw [ch_big n (n + 1) (by omega)]; simp
      rw [this, Nat.mul_add, Nat.mul_comm, Nat.mul_one]
      rw [Nat.add_comm]
theorem Prime.ch_dvd {p k : Nat} (hp : Prime p) (h0 : 0 < k) (hk : k < p) : p ∣ ch p k := by
  obtain ⟨p', rfl⟩ : ∃ p', p = p' + 1 := ⟨p - 1, by omega⟩
  obtain ⟨k', rfl⟩ : ∃ k', k = k' + 1 := ⟨k - 1, by omega⟩
  have h := ch_mul p' k'
  have hd : p' + 1 ∣ (k' + 1) * ch (p' + 1) (k' + 1) := by rw [h]; exact Nat.dvd_mul_right _ _
  have hn : ¬ p' + 1 ∣ k' + 1 := fun hd => by have := Nat.le_of_dvd (by omega) hd; omega
  exact (hp.coprime hn).dvd_of_dvd_mul_left hd
theorem bsum_mod {p : Nat} (hp : Prime p) (a : Nat) : ∀ m, m < p → bsum p a (m + 1) % p = 1 % p
  | 0, _ => by simp [bsum, ch_zero]
  | m + 1, h => by
      show (bsum p a (m + 1) + ch p (m + 1) * a ^ (m + 1)) % p = _
      obtain ⟨c, hc⟩ := hp.ch_dvd (by omega : 0 < m + 1) h
      rw [hc, Nat.mul_assoc, Nat.add_mul_mod_self_left]
      exact bsum_mod hp a m (by omega)
theorem fermat_step {p : Nat} (hp : Prime p) (a : Nat) : (a + 1) ^ p % p = (a ^ p + 1) % p := by
  rw [pow_bsum]
  show (bsum p a p + ch p p * a ^ p) % p = _
  have h1 : ch p p = 1 := by
    clear hp a
    induction p with
    | zero => rfl
    | succ p ih => rw [ch_succ, ih, ch_big p (p + 1) (by omega)]
  have h2 := bsum_mod hp a (p - 1) (by have := hp.1; omega)
  rw [show p - 1 + 1 = p from by have := hp.1; omega] at h2
  rw [h1, Nat.one_mul, Nat.add_mod, h2, ← Nat.add_mod, Nat.add_comm]
theorem fermat_p {p : Nat} (hp : Prime p) : ∀ a : Nat, a ^ p % p = a % p
  | 0 => by rw [Nat.zero_pow (by have := hp.1; omega)]
  | a + 1 => by rw [fermat_step hp, Nat.add_mod, fermat_p hp a, ← Nat.add_mod]
/-- Fermat's little theorem. -/
theorem fermat {p : Nat} (hp : Prime p) {a : Nat} (h : ¬ p ∣ a) : a ^ (p - 1) % p = 1 := by
  have h2 := hp.1
  have hpos : 0 < a := Nat.pos_of_ne_zero (fun h0 => h (h0 ▸ Nat.dvd_zero p))
  have h1 : 1 ≤ a ^ (p - 1) := Nat.pow_pos hpos
  have hd : p ∣ a * (a ^ (p - 1) - 1) := by
    have e : a * (a ^ (p - 1) - 1) = a ^ p - a := by
      rw [Nat.mul_sub, Nat.mul_one]
      congr 1
      rw [Nat.mul_comm, ← Nat.pow_succ]
      congr 1
      omega
    rw [e]
    have hle : a ≤ a ^ p := by
      have := Nat.pow_le_pow_right hpos (show 1 ≤ p by omega)
      simpa using this
    exact Nat.dvd_of_mod_eq_zero (Nat.sub_mod_eq_zero_of_mod_eq (fermat_p hp a))
  have hd2 : p ∣ a ^ (p - 1) - 1 := (hp.coprime h).dvd_of_dvd_mul_left hd
  obtain ⟨c, hc⟩ := hd2
  rw [show a ^ (p - 1) = 1 + p * c from by omega, Nat.add_mul_mod_self_left, Nat.mod_eq_of_lt (by omega)]
theorem pow_one_mul {r a m k : Nat} (hr : 2 ≤ r) (h : a ^ m % r = 1) : a ^ (m * k) % r = 1 := by
  rw [Nat.pow_mul, Nat.pow_mod, h, Nat.one_pow, Nat.mod_eq_of_lt (by omega)]
/-- If two powers are 1, the power to the greatest common divisor is 1. -/
theorem pow_gcd {r a : Nat} (hr : 2 ≤ r) : ∀ m n : Nat, a ^ m % r = 1 → a ^ n % r = 1 → a ^ Nat.gcd m n % r = 1 := by
  intro m n
  induction m, n using Nat.gcd.induction with
  | H0 n => intro _ h; rwa [Nat.gcd_zero_left]
  | H1 m n hm ih =>
    intro h1 h2
    rw [Nat.gcd_rec]
    refine ih ?_ h1
    have e : a ^ n = a ^ (m * (n / m)) * a ^ (n % m) := by rw [← Nat.pow_add, Nat.div_add_mod]
    rw [e, Nat.mul_mod, pow_one_mul hr h1, Nat.one_mul, Nat.mod_mod] at h2
    exact h2
/-- Pocklington: a prime q of n - 1 divides r - 1 for each prime r of n. -/
theorem pock {n q R a r : Nat} (hF : n - 1 = q * R) (hq : Prime q) (h1 : a ^ (n - 1) % n = 1)
    (hg : Nat.gcd (a ^ R % n + (n - 1)) n = 1) (hn : 2 ≤ n) (hr : Prime r) (hd : r ∣ n) : q ∣ r - 1 := by
  apply Classical.byContradiction
  intro hc
  have r2 := hr.1
  have hco := hq.coprime hc
  obtain ⟨s, rfl⟩ := hd
  have hmod : ∀ x, x % (r * s) = 1 → x % r = 1 := by
    intro x hx
    have := Nat.mod_mul_right_mod x r s
    rw [hx] at this
    rw [← this, Nat.mod_eq_of_lt (by omega)]
  have hbq : (a ^ R) ^ q % r = 1 := by
    rw [← Nat.pow_mul, Nat.mul_comm R q, ← hF]
    exact hmod _ h1
  have hnd : ¬ r ∣ a ^ R := by
    intro h
    have hz : (a ^ R) ^ q % r = 0 := Nat.mod_eq_zero_of_dvd (Nat.dvd_trans h (by
      have := hq.1
      obtain ⟨q', rfl⟩ : ∃ q', q = q' + 1 := ⟨q - 1, by omega⟩
      rw [Nat.pow_succ]
      exact Nat.dvd_mul_left _ _))
    omega
  have hbr : (a ^ R) ^ (r - 1) % r = 1 := fermat hr hnd
  have hb := pow_gcd r2 q (r - 1) hbq hbr
  rw [hco, Nat.pow_one] at hb
  have hmm : a ^ R % (r * s) % r = 1 := by rw [Nat.mod_mul_right_mod]; exact hb
  have hdv : r ∣ a ^ R % (r * s) + (r * s - 1) := by
    have hle : 1 ≤ a ^ R % (r * s) := by
      rcases Nat.eq_zero_or_pos (a ^ R % (r * s)) with h | h
      · rw [h] at hmm; simp at hmm
      · exact h
    have e : a ^ R % (r * s) + (r * s - 1) = (a ^ R % (r * s) - 1) + r * s := by omega
    rw [e]
    refine (Nat.dvd_add_iff_left (Nat.dvd_mul_right r s)).1 ?_
    exact Nat.dvd_of_mod_eq_zero (Nat.sub_mod_eq_zero_of_mod_eq (by rw [hmm]; exact (Nat.mod_eq_of_lt (by omega)).symm))
  have : r ∣ 1 := by
    rw [← hg]
    exact Nat.dvd_gcd hdv (Nat.dvd_mul_right r s)
  have := Nat.le_of_dvd (by omega) this
  omega
/-- A number of which each prime divisor is above F, F^2 no less than it, is prime. -/
theorem prime_of_large {n F : Nat} (hn : 2 ≤ n) (hF : n < (F + 1) * (F + 1)) (h : ∀ r, Prime r → r ∣ n → F < r) : Prime n := by
  refine ⟨hn, fun d hd => ?_⟩
  apply Classical.byContradiction
  intro hc
  obtain ⟨s, rfl⟩ := hd
  have d0 : d ≠ 0 := by rintro rfl; simp at hn
  have s0 : s ≠ 0 := by rintro rfl; simp at hn
  have hd1 : d ≠ 1 := fun h => hc (.inl h)
  have hs1 : s ≠ 1 := fun h => hc (.inr (by rw [h, Nat.mul_one]))
  obtain ⟨r, hr, hrd⟩ := exists_prime_dvd d (by omega)
  obtain ⟨t, ht, hts⟩ := exists_prime_dvd s (by omega)
  have a1 := h r hr (Nat.dvd_trans hrd (Nat.dvd_mul_right d s))
  have a2 := h t ht (Nat.dvd_trans hts (Nat.dvd_mul_left s d))
  have b1 := Nat.le_of_dvd (by omega) hrd
  have b2 := Nat.le_of_dvd (by omega) hts
  have : (F + 1) * (F + 1) ≤ d * s := Nat.mul_le_mul (by omega) (by omega)
  omega
/-- A power modulo a number, by squares: for the kernel. -/
def pm (n : Nat) : Nat → Nat → Nat → Nat → Nat
  | 0, _, _, acc => acc
  | fuel + 1, b, e, acc => pm n fuel (b * b % n) (e / 2) (if e % 2 = 1 then acc * b % n else acc)
theorem pm_eq (n : Nat) : ∀ fuel b e acc, e < 2 ^ fuel → pm n fuel b e acc % n = acc * b ^ e % n
  | 0, b, e, acc, h => by
      have : e = 0 := by simpa using h
      subst this; simp [pm]
  | fuel + 1, b, e, acc, h => by
      rw [pm, pm_eq n fuel _ _ _ (by rw [Nat.pow_succ] at h; omega)]
      have hb : (b * b % n) ^ (e / 2) % n = b ^ (2 * (e / 2)) % n := by
        rw [← Nat.pow_mod, Nat.pow_mul, Nat.pow_two]
      rw [Nat.mul_mod, hb, ← Nat.mul_mod]
      split
      · rename_i h1
        have e1 : e = 2 * (e / 2) + 1 := by omega
        rw [Nat.mul_mod, Nat.mod_mod, ← Nat.mul_mod]
        conv => rhs; rw [e1, Nat.pow_succ]
        congr 1; ac_rfl
      · rename_i h1
        have e1 : e = 2 * (e / 2) := by omega
        conv => rhs; rw [e1]
theorem pow_mod_of {n b e x : Nat} (fuel : Nat) (hf : e < 2 ^ fuel) (h : pm n fuel b e 1 % n = x) : b ^ e % n = x := by
  rw [← h, pm_eq n fuel b e 1 hf, Nat.one_mul]
/-- One prime of n - 1 that is great enough. -/
theorem pock1 {n q R : Nat} (hq : Prime q) (hF : n - 1 = q * R) (hn : 2 ≤ n) (hb : n < 2 ^ 256) (h1' : pm n 256 2 (n - 1) 1 % n = 1)
    (hb2 : R < 2 ^ 256) (hg' : Nat.gcd (pm n 256 2 R 1 % n + (n - 1)) n = 1) (hs : n < (q + 1) * (q + 1)) : Prime n := by
  have h1 : 2 ^ (n - 1) % n = 1 := pow_mod_of 256 (by omega) h1'
  have hg : Nat.gcd (2 ^ R % n + (n - 1)) n = 1 := by rw [pow_mod_of 256 hb2 rfl]; exact hg'
  refine prime_of_large hn hs fun r hr hd => ?_
  have h := pock hF hq h1 hg hn hr hd
  have := hr.1
  have := Nat.le_of_dvd (by omega) h
  omega
/-- Two primes of n - 1. -/
theorem pock2 {n q R q' R' : Nat} (hq : Prime q) (hq' : Prime q') (hne : q ≠ q') (hF : n - 1 = q * R) (hF' : n - 1 = q' * R') (hn : 2 ≤ n) (hb : n < 2 ^ 256) (h1' : pm n 256 2 (n - 1) 1 % n = 1)
    (hb2 : R < 2 ^ 256) (hg' : Nat.gcd (pm n 256 2 R 1 % n + (n - 1)) n = 1) (hb3 : R' < 2 ^ 256) (hg2' : Nat.gcd (pm n 256 2 R' 1 % n + (n - 1)) n = 1) (hs : n < (q * q' + 1) * (q * q' + 1)) : Prime n := by
  have h1 : 2 ^ (n - 1) % n = 1 := pow_mod_of 256 (by omega) h1'
  have hg : Nat.gcd (2 ^ R % n + (n - 1)) n = 1 := by rw [pow_mod_of 256 hb2 rfl]; exact hg'
  have hg2 : Nat.gcd (2 ^ R' % n + (n - 1)) n = 1 := by rw [pow_mod_of 256 hb3 rfl]; exact hg2'
  refine prime_of_large hn hs fun r hr hd => ?_
  have h := pock hF hq h1 hg hn hr hd
  have h' := pock hF' hq' h1 hg2 hn hr hd
  have hr1 := hr.1
  have hco : Nat.Coprime q q' := hq.coprime fun hd => by
    rcases hq'.2 q hd with h | h
    · have := hq.1; omega
    · exact hne h
  have := Nat.le_of_dvd (by omega) (hco.mul_dvd_of_dvd_of_dvd h h')
  omega
/-- No divisor from 2 on, below its square root. -/
def noDiv (n : Nat) : Nat → Nat → Bool
  | 0, _ => true
  | fuel + 1, d => n % d != 0 && noDiv n fuel (d + 1)
theorem noDiv_spec {n : Nat} : ∀ fuel d, noDiv n fuel d = true → ∀ k, d ≤ k → k < d + fuel → n % k ≠ 0
  | 0, d, _, k, h1, h2 => by omega
  | fuel + 1, d, h, k, h1, h2 => by
      simp only [noDiv, Bool.and_eq_true, bne_iff_ne] at h
      by_cases hk : k = d
      · rw [hk]; exact h.1
      · exact noDiv_spec fuel (d + 1) h.2 k (by omega) (by omega)
theorem prime_small {n : Nat} (F : Nat) (hn : 2 ≤ n) (hF : n < (F + 1) * (F + 1)) (h : noDiv n (F - 1) 2 = true) : Prime n := by
  refine prime_of_large hn hF fun r hr hd => ?_
  apply Classical.byContradiction
  intro hc
  have := hr.1
  exact noDiv_spec _ _ h r (by omega) (by omega) (Nat.mod_eq_zero_of_dvd hd)
theorem prime_991 : Prime 991 := prime_small 31 (by decide) (by decide) (by decide +kernel)
theorem prime_103 : Prime 103 := prime_small 10 (by decide) (by decide) (by decide +kernel)
theorem prime_127 : Prime 127 := prime_small 11 (by decide) (by decide) (by decide +kernel)
theorem prime_4153 : Prime 4153 := prime_small 64 (by decide) (by decide) (by decide +kernel)
theorem prime_430751 : Prime 430751 := prime_small 656 (by decide) (by decide) (by decide +kernel)
theorem prime_569003 : Prime 569003 := prime_small 754 (by decide) (by decide) (by decide +kernel)
theorem prime_8574133 : Prime 8574133 := pock2 (q := 991) (R := 8652) (q' := 103) (R' := 83244) prime_991 prime_103 (by decide +kernel) (by decide +kernel) (by decide +kernel) (by decide +kernel) (by decide +kernel) (by decide +kernel) (by decide +kernel) (by decide +kernel) (by decide +kernel) (by decide +kernel) (by decide +kernel)
theorem prime_1919519569386763 : Prime 1919519569386763 := pock2 (q := 8574133) (R := 223873314) (q' := 127) (R' := 15114327318006) prime_8574133 prime_127 (by decide +kernel) (by decide +kernel) (by decide +kernel) (by decide +kernel) (by decide +kernel) (by decide +kernel) (by decide +kernel) (by decide +kernel) (by decide +kernel) (by decide +kernel) (by decide +kernel)
theorem prime_2773320623 : Prime 2773320623 := pock1 (q := 569003) (R := 4874) prime_569003 (by decide +kernel) (by decide +kernel) (by decide +kernel) (by decide +kernel) (by decide +kernel) (by decide +kernel) (by decide +kernel)
theorem prime_72106336199 : Prime 72106336199 := pock1 (q := 2773320623) (R := 26) prime_2773320623 (by decide +kernel) (by decide +kernel) (by decide +kernel) (by decide +kernel) (by decide +kernel) (by decide +kernel) (by decide +kernel)
theorem prime_c : Prime 75445702479781427272750846543864801 := pock2 (q := 1919519569386763) (R := 39304471641247389600) (q' := 72106336199) (R' := 1046311689884858398375200) prime_1919519569386763 prime_72106336199 (by decide +kernel) (by decide +kernel) (by decide +kernel) (by decide +kernel) (by decide +kernel) (by decide +kernel) (by decide +kernel) (by decide +kernel) (by decide +kernel) (by decide +kernel) (by decide +kernel)
theorem prime_d : Prime 31757755568855353 := pock2 (q := 430751) (R := 73726481352) (q' := 4153) (R' := 7646943310584) prime_430751 prime_4153 (by decide +kernel) (by decide +kernel) (by decide +kernel) (by decide +kernel) (by decide +kernel) (by decide +kernel) (by decide +kernel) (by decide +kernel) (by decide +kernel) (by decide +kernel) (by decide +kernel)
theorem prime_e : Prime 74058212732561358302231226437062788676166966415465897661863160754340907 := pock2 (q := 75445702479781427272750846543864801) (R := 981609426360740691344999861639072106) (q' := 31757755568855353) (R' := 2331972502653487852620185443007392165117953542933313402) prime_c prime_d (by decide +kernel) (by decide +kernel) (by decide +kernel) (by decide +kernel) (by decide +kernel) (by decide +kernel) (by decide +kernel) (by decide +kernel) (by decide +kernel) (by decide +kernel) (by decide +kernel)
theorem prime_p : Prime 57896044618658097711785492504343953926634992332820282019728792003956564819949 := pock1 (q := 74058212732561358302231226437062788676166966415465897661863160754340907) (R := 781764) prime_e (by decide +kernel) (by decide +kernel) (by decide +kernel) (by decide +kernel) (by decide +kernel) (by decide +kernel) (by decide +kernel)
end Nt
end Go.Proofs.YtmlmggmnlgcbcaaGreat


namespace Go.Proofs.YtmlmggmnlgcbcaaGreat
open Go.RowKit
def hN : Nat := 28948022309329048855892746252171976963317496166410141009864396001978282409974
theorem pN_prime : Nt.Prime pN := Nt.prime_p
end Go.Proofs.YtmlmggmnlgcbcaaGreat


namespace Go.Proofs.YtmlmggmnlgcbcaaGreat
open Go.RowKit Go.ChangeShapes Go.WideShapes
theorem wf_u8 {n : Int} (h : (Lit.int .u8 n).wf = true) : 0 ≤ n ∧ n ≤ 255 := by
  have := bounds_u8 h
  omega
/-- Bytes out of numbers that fit. -/
theorem bytes_of (zs : List Int) (h : ∀ n ∈ zs, (Lit.int .u8 n).wf = true) : ∃ bs : List UInt8, zs.map (Value.int .u8) = u8s bs ∧ bs.length = zs.length := by
  refine ⟨zs.map fun n => UInt8.ofNat n.toNat, ?_, by simp⟩
  simp only [u8s, List.map_map]
  apply List.map_congr_left
  intro n hn
  have := wf_u8 (h n hn)
  simp
  omega
section
variable {H : Type} {enc : TypeId × Value → H} {P : Program} {w : World}
theorem in_bytes {t e : TypeId} {a : Option Addr} {len cap : Nat} {d : DataW H} {p : List MemPlace} (ht : P.underlying t = some (.slice e)) (he : P.underlying e = some (.int .u8)) (hc : P.cellsOf e = 1)
    (h : DataW.Trod enc P w 0 (fun _ => true) true t (.slice a len cap) d p) : ∃ bs : List UInt8, len = bs.length ∧ Sl w (.slice a bs.length cap) (u8s bs) := by
  obtain ⟨fuel, hf⟩ := h
  rcases open_ints ht he hc hf with ⟨hcs, _⟩ | ⟨x, l, c, zs, hcs, _, hl, hm, hz, _, hcell, hwz⟩
  · simp [Value.cells] at hcs
    obtain ⟨rfl, rfl, rfl⟩ := hcs
    exact ⟨[], rfl, Sl.nil w⟩
  · simp [Value.cells] at hcs
    obtain ⟨rfl, rfl, rfl⟩ := hcs
    have hz' : zs.length = cap := by simpa using hz
    obtain ⟨bs, hb1, hb2⟩ := bytes_of (zs.take len) (fun n hn => hwz n (List.mem_of_mem_take hn))
    have hlen : bs.length = len := by rw [hb2, List.length_take]; omega
    refine ⟨bs, hlen.symm, some x, cap, by rw [u8s_len], by rw [u8s_len]; omega, hm, fun h => (by cases h), fun y hy => ?_⟩
    cases hy
    intro j u hu
    rw [← hb1] at hu
    have hj : j < len := by
      have := (List.getElem?_eq_some_iff.1 hu).1
      simp at this; omega
    have h1 := hcell j (by omega)
    rw [h1]
    rw [List.getElem?_map, List.getElem?_take, if_pos hj, List.getElem?_eq_getElem (by omega)] at hu
    simpa [List.getD, List.getElem?_eq_getElem (show j < zs.length by omega)] using hu
end
end Go.Proofs.YtmlmggmnlgcbcaaGreat


namespace Go.Proofs.YtmlmggmnlgcbcaaGreat
open Go.RowKit Go.ChangeShapes Go.WideShapes
section
variable {H : Type} {enc : TypeId × Value → H} {P : Program} {w : World}
/-- An array of bytes. -/
theorem in_arr {n : Nat} {t e : TypeId} {r : Reach} {b0 : Nat} {v : Value} {d : DataW H} {p : List MemPlace} (ht : P.underlying t = some (.array n e)) (he : P.underlying e = some (.int .u8)) (hc : P.cellsOf e = 1) (hct : P.cellsOf t = n)
    (hval : Value.okWide P w r b0 t v) (h : DataW.Trod enc P w 0 (fun _ => true) true t v d p) : ∃ ds : List Nat, ds.length = n ∧ (∀ x ∈ ds, x < 256) ∧ v = .agg (ds.map fun (x : Nat) => Value.int .u8 (x : Int)).toArray := by
  have hv : ∃ cs : Array Value, v = .agg cs ∧ cs.size = n := by
    unfold Value.okWide at hval
    rw [ht] at hval
    obtain ⟨cs, h1, h2, -⟩ := hval
    exact ⟨cs, h1, by rw [h2, hct]⟩
  obtain ⟨cs, rfl, hcs⟩ := hv
  obtain ⟨fuel, hf⟩ := h
  obtain ⟨xs, m, -, -, hl, hx, hel⟩ := DataW.trod_array ht hf
  have hcell : (Value.agg cs).cells.toList = cs.toList := rfl
  rw [hcell] at hel
  have each : ∀ i (hi : i < cs.toList.length), ∃ z : Nat, z < 256 ∧ cs.toList[i] = Value.int .u8 (z : Int) := by
    intro i hi
    have hi' : i < n := by simpa [hcs] using hi
    have h1 := hel i hi'
    rw [hc, Nat.mul_one, List.getElem?_eq_getElem (by omega)] at h1
    have h2 : (cs.toList.drop i).take 1 = [cs.toList[i]] := by
      rw [List.drop_eq_getElem_cons hi]
      simp
    rw [h2] at h1
    obtain ⟨z, h3, -, h4⟩ := DataW.trod_int he h1
    have h5 := wf_u8 h4
    refine ⟨z.toNat, by omega, ?_⟩
    have h6 := List.head_eq_of_cons_eq h3
    rw [h6]
    congr 1
    omega
  refine ⟨cs.toList.map (fun v => match v with | .int _ z => z.toNat | _ => 0), by simp [hcs], ?_, ?_⟩
  · intro x hx
    simp only [List.mem_map] at hx
    obtain ⟨v, hv, rfl⟩ := hx
    obtain ⟨i, hi, rfl⟩ := List.getElem_of_mem hv
    obtain ⟨z, h1, h2⟩ := each i hi
    rw [h2]
    simpa using h1
  · congr 1
    apply Array.toList_inj.1
    simp only [List.map_map]
    apply List.ext_getElem
    · simp
    · intro i h1 h2
      obtain ⟨z, h3, h4⟩ := each i h1
      rw [List.getElem_map, Function.comp_apply, h4]
      simp
end
set_option maxRecDepth 100000 in
/-- A Num. -/
theorem in_num {H : Type} {enc : TypeId × Value → H} {w : World} {r : Reach} {b0 : Nat} {v : Value} {d : DataW H} {p : List MemPlace}
    (hval : Value.okWide Tryz.prog w r b0 23 v) (h : DataW.Trod enc Tryz.prog w 0 (fun _ => true) true 23 v d p) : ∃ n : Nat, v = .agg (byts n).toArray ∧ n < 256 ^ 32 := by
  obtain ⟨ds, h1, h2, rfl⟩ := in_arr (n := 32) Tryz.underlying23 Tryz.underlying5 (by kernel_rfl) (by kernel_rfl) hval h
  refine ⟨val 256 ds, ?_, ?_⟩
  · have := digs_val 256 (by decide) ds h2
    rw [h1] at this
    rw [byts, this]
  · have := val_lt 256 (by decide) ds h2
    rwa [h1] at this
end Go.Proofs.YtmlmggmnlgcbcaaGreat


namespace Go.Proofs.YtmlmggmnlgcbcaaGreat
open Go.RowKit
theorem byts_lit (v : Nat) (hv : v < 256) : (byts v).toArray = #[.int .u8 (v : Int), .int .u8 0, .int .u8 0, .int .u8 0, .int .u8 0, .int .u8 0, .int .u8 0, .int .u8 0, .int .u8 0, .int .u8 0, .int .u8 0, .int .u8 0, .int .u8 0, .int .u8 0, .int .u8 0, .int .u8 0, .int .u8 0, .int .u8 0, .int .u8 0, .int .u8 0, .int .u8 0, .int .u8 0, .int .u8 0, .int .u8 0, .int .u8 0, .int .u8 0, .int .u8 0, .int .u8 0, .int .u8 0, .int .u8 0, .int .u8 0, .int .u8 0] := by
  have e : ∀ i, 0 < i → v / 256 ^ i % 256 = 0 := by
    intro i hi
    obtain ⟨j, rfl⟩ : ∃ j, i = j + 1 := ⟨i - 1, by omega⟩
    rw [Nat.pow_succ, Nat.mul_comm, ← Nat.div_div_eq_div_mul, Nat.div_eq_of_lt hv, Nat.zero_div]
  simp only [byts, digs, show List.range 32 = 0 :: (List.range' 1 31) from by decide, List.map_cons, List.map_map, Nat.pow_zero, Nat.div_one, Nat.mod_eq_of_lt hv]
  rw [show List.map ((fun (x : Nat) => Value.int IntKind.u8 (x : Int)) ∘ fun i => v / 256 ^ i % 256) (List.range' 1 31) = List.map (fun _ => Value.int .u8 0) (List.range' 1 31) from List.map_congr_left (fun i hi => by
    simp only [List.mem_range'_1] at hi
    simp only [Function.comp_apply, e i (by omega)]
    rfl)]
  rfl
theorem byts_0 : (byts 0).toArray = #[.int .u8 0, .int .u8 0, .int .u8 0, .int .u8 0, .int .u8 0, .int .u8 0, .int .u8 0, .int .u8 0, .int .u8 0, .int .u8 0, .int .u8 0, .int .u8 0, .int .u8 0, .int .u8 0, .int .u8 0, .int .u8 0, .int .u8 0, .int .u8 0, .int .u8 0, .int .u8 0, .int .u8 0, .int .u8 0, .int .u8 0, .int .u8 0, .int .u8 0, .int .u8 0, .int .u8 0, .int .u8 0, .int .u8 0, .int .u8 0, .int .u8 0, .int .u8 0] := byts_lit 0 (by decide)
theorem eq_num {m n : Nat} {b : Bool} (hb : decide (m = n) = b) (hm : m < 256 ^ 32) (hn : n < 256 ^ 32) (w : World) :
    (Op.equalIn 10000 23 (.agg (byts m).toArray) (.agg (byts n).toArray)).run Tryz.prog w = .ok b w := by rw [eq_byts m n hm hn w, hb]
theorem eq_num0 {m : Nat} {b : Bool} (hb : decide (m = 0) = b) (hm : m < 256 ^ 32) (w : World) :
    (Op.equalIn 10000 23 (.agg (byts m).toArray) (.agg #[.int .u8 0, .int .u8 0, .int .u8 0, .int .u8 0, .int .u8 0, .int .u8 0, .int .u8 0, .int .u8 0, .int .u8 0, .int .u8 0, .int .u8 0, .int .u8 0, .int .u8 0, .int .u8 0, .int .u8 0, .int .u8 0, .int .u8 0, .int .u8 0, .int .u8 0, .int .u8 0, .int .u8 0, .int .u8 0, .int .u8 0, .int .u8 0, .int .u8 0, .int .u8 0, .int .u8 0, .int .u8 0, .int .u8 0, .int .u8 0, .int .u8 0, .int .u8 0])).run Tryz.prog w = .ok b w := by
  have := eq_byts m 0 hm (by decide) w
  rw [byts_0, hb] at this
  exact this
end Go.Proofs.YtmlmggmnlgcbcaaGreat

