/- Square roots modulo a prime that is 5 modulo 8: plain numbers. -/
import Derived.Test.YtpjkhedodlnloaaNtp
namespace Go.Proofs.Ytpjkhedodlnloaa
namespace Nt
/-- Two numbers whose squares are alike. -/
theorem sq_cases {p : Nat} (hp : Prime p) {x y : Nat} (hx : x < p) (hy : y < p) (h : x * x % p = y * y % p) : x = y ∨ x + y = p := by
  have key : ∀ {x y : Nat}, x < p → y < p → y ≤ x → x * x % p = y * y % p → x = y ∨ x + y = p := by
    intro x y hx hy hle h
    have h1 : p ∣ (x - y) * (x + y) := by
      have e : (x - y) * (x + y) = x * x - y * y := by
        obtain ⟨d, rfl⟩ : ∃ d, x = y + d := ⟨x - y, by omega⟩
        have : (y + d) * (y + d) = y * y + d * (y + d + y) := by simp only [Nat.add_mul, Nat.mul_add, Nat.mul_comm d y]; omega
        rw [this, Nat.add_sub_cancel_left, Nat.add_sub_cancel_left]
      rw [e]
      exact Nat.dvd_of_mod_eq_zero (Nat.sub_mod_eq_zero_of_mod_eq h)
    rcases hp.dvd_mul h1 with h2 | h2
    · left
      have := Nat.eq_zero_of_dvd_of_lt h2 (by omega)
      omega
    · obtain ⟨c, hc⟩ := h2
      rcases c with _ | _ | c
      · left; omega
      · right; omega
      · exfalso
        have : p * (c + 1 + 1) = p * c + p + p := by simp only [Nat.mul_add, Nat.mul_one]
        omega
  rcases Nat.le_total y x with hle | hle
  · exact key hx hy hle h
  · rcases key hy hx hle h.symm with h1 | h1
    · exact .inl h1.symm
    · exact .inr (by omega)

/- The road to a square root where p is 5 modulo 8. -/
section
variable {p e h i : Nat}

def rtx (p e i a : Nat) : Nat := let x := a ^ e % p; if x * x % p = a then x else x * i % p
def rtok (p e i a : Nat) : Bool := rtx p e i a * rtx p e i a % p == a
def rtv (p e i a : Nat) : Nat := if rtok p e i a then (if rtx p e i a % 2 = 1 then p - rtx p e i a else rtx p e i a) else 0

theorem rtx_lt (hp : 0 < p) (a : Nat) : rtx p e i a < p := by
  unfold rtx; dsimp only; split <;> exact Nat.mod_lt _ hp

theorem half_cases (hp : Prime p) (hh : 2 * h = p - 1) {a : Nat} (ha : a % p ≠ 0) : a ^ h % p = 1 ∨ a ^ h % p = p - 1 := by
  have h2 : 2 ≤ p := hp.1
  have hf : a ^ (p - 1) % p = 1 := fermat hp (fun hd => ha (Nat.mod_eq_zero_of_dvd hd))
  have := sq_cases hp (x := a ^ h % p) (y := 1) (Nat.mod_lt _ (by omega)) (by omega) (by
    rw [← Nat.mul_mod, ← Nat.pow_add, ← Nat.two_mul, hh, hf, Nat.mod_eq_of_lt (by omega)])
  rcases this with h1 | h1
  · exact .inl h1
  · exact .inr (by omega)

theorem mod_neg {p s a : Nat} (hs : s + a = p) : (s * (p - 1)) % p = a % p := by
  have e : s * (p - 1) + p = a + p * s := by
    rcases p with _ | p
    · have : s = 0 := by omega
      subst this; omega
    · have e1 : s * (p + 1 - 1) = p * s := by rw [Nat.add_sub_cancel, Nat.mul_comm]
      have e2 : (p + 1) * s = p * s + s := by rw [Nat.add_mul, Nat.one_mul]
      omega
  have := congrArg (· % p) e
  simpa using this

/-- The square of x where x = a ^ e: a, or less a, or neither. -/
theorem rt_four (he : 4 * e = h + 2) (a : Nat) : (a ^ e % p) * (a ^ e % p) % p * ((a ^ e % p) * (a ^ e % p) % p) % p = (a ^ h % p) * (a * a) % p := by
  have e1 : a ^ e % p * (a ^ e % p) % p = a ^ (e + e) % p := by rw [← Nat.mul_mod, ← Nat.pow_add]
  have e2 : a ^ (e + e) % p * (a ^ (e + e) % p) % p = a ^ (e + e + (e + e)) % p := by rw [← Nat.mul_mod, ← Nat.pow_add]
  rw [e1, e2, show e + e + (e + e) = h + 2 by omega, Nat.mod_mul_mod, Nat.pow_add, show a ^ 2 = a * a from Nat.pow_two a]

theorem rtok_iff (hp : Prime p) (hp2 : p % 2 = 1) (hh : 2 * h = p - 1) (he : 4 * e = h + 2) (hi : i * i % p = p - 1) {a : Nat} (ha : a < p) (h0 : a ≠ 0) : rtok p e i a = true ↔ a ^ h % p = 1 := by
  have h2 : 2 ≤ p := hp.1
  have hpos : 0 < p := by omega
  have h4 := rt_four (p := p) he a
  have hun : rtok p e i a = true ↔ rtx p e i a * rtx p e i a % p = a := by unfold rtok; exact beq_iff_eq
  obtain ⟨s, hs⟩ : ∃ s, (a ^ e % p) * (a ^ e % p) % p = s := ⟨_, rfl⟩
  have hsl : s < p := by rw [← hs]; exact Nat.mod_lt _ hpos
  have hxx : s ≠ a → rtx p e i a * rtx p e i a % p = s * (p - 1) % p := by
    intro hne
    unfold rtx
    dsimp only
    rw [hs, if_neg hne, ← Nat.mul_mod, show a ^ e % p * i * (a ^ e % p * i) = (a ^ e % p * (a ^ e % p)) * (i * i) from Nat.mul_mul_mul_comm _ _ _ _, Nat.mul_mod, hs, hi]
  have hyes : s = a → rtx p e i a * rtx p e i a % p = a := by
    intro heq
    unfold rtx
    dsimp only
    rw [hs, if_pos heq, hs, heq]
  rw [hs] at h4
  rw [hun]
  constructor
  · intro hok
    rcases half_cases hp hh (a := a) (by rw [Nat.mod_eq_of_lt ha]; exact h0) with h1 | h1
    · exact h1
    exfalso
    -- s * s is less a * a, and a * a
    have h5 : s * s % p = a * a % p := by
      by_cases hsa : s = a
      · rw [hsa]
      · rw [hxx hsa] at hok
        have h6 : s + a = p := by
          have h7 : (s * (p - 1) + s) % p = 0 := by
            rw [show s * (p - 1) + s = p * s by rw [← Nat.mul_succ, show (p - 1).succ = p by omega, Nat.mul_comm]]
            exact Nat.mul_mod_right _ _
          rw [Nat.add_mod, hok, Nat.mod_eq_of_lt hsl] at h7
          have h8 : p ∣ a + s := Nat.dvd_of_mod_eq_zero h7
          obtain ⟨c, hc⟩ := h8
          rcases c with _ | _ | c
          · omega
          · omega
          · have : p * (c + 1 + 1) = p * c + p + p := by simp only [Nat.mul_add, Nat.mul_one]
            omega
        have h7 : s = p - a := by omega
        have e1 : s * s % p = (s * (p - 1)) * (s * (p - 1)) % p := by
          rw [show s * (p - 1) * (s * (p - 1)) = (s * s) * ((p - 1) * (p - 1)) from Nat.mul_mul_mul_comm _ _ _ _]
          have e2 : (p - 1) * (p - 1) % p = 1 := by
            have := mod_neg (p := p) (s := p - 1) (a := 1) (by omega)
            rw [this]; exact Nat.mod_eq_of_lt (by omega)
          rw [Nat.mul_mod (s * s), e2, Nat.mul_one, Nat.mod_mod]
        rw [e1, Nat.mul_mod, mod_neg h6, ← Nat.mul_mod]
    rw [h1, h5] at h4
    -- a * a = less a * a
    have h6 : (a * a + (p - 1) * (a * a)) % p = 0 := by
      rw [show a * a + (p - 1) * (a * a) = p * (a * a) by rw [show a * a + (p - 1) * (a * a) = (1 + (p - 1)) * (a * a) by rw [Nat.add_mul, Nat.one_mul], show 1 + (p - 1) = p by omega]]
      exact Nat.mul_mod_right _ _
    rw [Nat.add_mod, ← h4, ← Nat.add_mod] at h6
    have h7 : p ∣ 2 * (a * a) := by rw [Nat.two_mul]; exact Nat.dvd_of_mod_eq_zero h6
    rcases hp.dvd_mul h7 with h8 | h8
    · have := Nat.le_of_dvd (by omega) h8; omega
    · rcases hp.dvd_mul h8 with h9 | h9 <;> exact h0 (Nat.eq_zero_of_dvd_of_lt h9 ha)
  · intro hone
    rw [hone, Nat.one_mul] at h4
    rcases sq_cases hp hsl ha h4 with h5 | h5
    · exact hyes h5
    · by_cases hsa : s = a
      · exact hyes hsa
      · rw [hxx hsa, mod_neg h5, Nat.mod_eq_of_lt ha]

theorem rtok_zero (he : 0 < e) : rtok p e i 0 = true := by
  simp [rtok, rtx, Nat.zero_pow he]
theorem rtv_zero (he : 0 < e) : rtv p e i 0 = 0 := by
  simp [rtv, rtok_zero he, rtx, Nat.zero_pow he]

theorem rtv_sq {a : Nat} (hok : rtok p e i a = true) (hp : 0 < p) : rtv p e i a * rtv p e i a % p = a := by
  have h1 : rtx p e i a * rtx p e i a % p = a := by unfold rtok at hok; exact beq_iff_eq.1 hok
  unfold rtv
  rw [if_pos hok]
  split
  · have hx := rtx_lt (e := e) (i := i) hp a
    obtain ⟨x, hxe⟩ : ∃ x, rtx p e i a = x := ⟨_, rfl⟩
    rw [hxe] at h1 hx ⊢
    rw [← h1]
    have h5 : (p - x) * (p - x) % p = x * (p - 1) * (x * (p - 1)) % p := by
      rw [Nat.mul_mod (x * (p - 1)), mod_neg (a := p - x) (by omega), ← Nat.mul_mod]
    rw [h5, show x * (p - 1) * (x * (p - 1)) = (x * x) * ((p - 1) * (p - 1)) from Nat.mul_mul_mul_comm _ _ _ _]
    have e2 : (p - 1) * (p - 1) % p = 1 % p := mod_neg (by omega)
    rw [Nat.mul_mod (x * x), e2, ← Nat.mul_mod, Nat.mul_one]
  · exact h1

/-- Of two roots less one another one is even. -/
theorem rtv_even (hp2 : p % 2 = 1) (a : Nat) : rtv p e i a % 2 = 0 := by
  have hx := rtx_lt (e := e) (i := i) (p := p) (by omega) a
  unfold rtv
  split
  · split <;> omega
  · rfl
theorem rtv_lt (hp : 0 < p) (a : Nat) : rtv p e i a < p := by
  have hx := rtx_lt (e := e) (i := i) (p := p) hp a
  unfold rtv
  split
  · split <;> omega
  · exact hp

theorem half_mul (a b : Nat) : (a * b % p) ^ h % p = (a ^ h % p) * (b ^ h % p) % p := by
  rw [← Nat.pow_mod, Nat.mul_pow, Nat.mul_mod]

theorem rtok_sq (hp : Prime p) (hp2 : p % 2 = 1) (hh : 2 * h = p - 1) (he : 4 * e = h + 2) (hi : i * i % p = p - 1) {a : Nat} (ha : a < p) : rtok p e i (a * a % p) = true := by
  have h2 : 2 ≤ p := hp.1
  by_cases h0 : a = 0
  · subst h0
    rw [Nat.zero_mul, Nat.zero_mod]
    exact rtok_zero (by omega)
  · rw [rtok_iff hp hp2 hh he hi (Nat.mod_lt _ (by omega))]
    · rw [half_mul]
      rcases half_cases hp hh (a := a) (by rw [Nat.mod_eq_of_lt ha]; exact h0) with h1 | h1
      · rw [h1]; exact Nat.mod_eq_of_lt (by omega)
      · rw [h1, mod_neg (a := 1) (by omega)]; exact Nat.mod_eq_of_lt (by omega)
    · intro hz
      rcases hp.dvd_mul (Nat.dvd_of_mod_eq_zero hz) with h9 | h9 <;> exact h0 (Nat.eq_zero_of_dvd_of_lt h9 ha)

end
end Nt
end Go.Proofs.Ytpjkhedodlnloaa
