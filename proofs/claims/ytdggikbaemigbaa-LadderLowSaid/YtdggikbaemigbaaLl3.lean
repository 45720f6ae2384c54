/- Ladder laws: which points lead to nothing: plain numbers. -/
import Derived.Test.YtdggikbaemigbaaLl1
namespace Go.Proofs.Ytdggikbaemigbaa
open Go.RowKit

/-- A round: the state behind the bit t. -/
def nextN (x t : Nat) (v : St) : St := (stepN x (v.swp t)).swp t
theorem next_zero (x : Nat) (v : St) : nextN x 0 v = stepN x v := rfl
theorem next_one (x : Nat) (v : St) : nextN x 1 v = ⟨(stepN x ⟨v.c, v.d, v.a, v.b⟩).c, (stepN x ⟨v.c, v.d, v.a, v.b⟩).d, (stepN x ⟨v.c, v.d, v.a, v.b⟩).a, (stepN x ⟨v.c, v.d, v.a, v.b⟩).b⟩ := rfl

theorem self_sub {q : Nat} : (q + pN - q) % pN = 0 := by rw [Nat.add_sub_cancel_left, Nat.mod_self]
theorem dbl_e (x : Nat) (v : St) (h : (v.a + v.b) % pN * ((v.a + v.b) % pN) % pN = (v.a + pN - v.b) % pN * ((v.a + pN - v.b) % pN) % pN) : (stepN x v).b = 0 := by
  simp only [stepN]
  rw [h, self_sub, Nat.zero_mul, Nat.zero_mod]
theorem dbl_inf (x : Nat) {v : St} (hb : v.b = 0) : (stepN x v).b = 0 := by
  refine dbl_e x v ?_
  rw [hb, Nat.add_zero, Nat.sub_zero, Nat.add_mod_right]
theorem neg_sq {b : Nat} (hb : b < pN) : (pN - b) % pN * ((pN - b) % pN) % pN = b * b % pN := by
  rw [← Nat.mul_mod]
  have h1 := Nt.mod_neg (p := pN) (s := b) (a := pN - b) (by omega)
  have h2 : (pN - 1) * (pN - 1) % pN = 1 := by decide
  rw [Nat.mul_mod, ← h1, ← Nat.mul_mod, Nat.mul_mul_mul_comm, Nat.mul_mod, h2, Nat.mul_one, Nat.mod_mod]
theorem dbl_two (x : Nat) {v : St} (hv : v.low) (ha : v.a = 0) : (stepN x v).b = 0 := by
  refine dbl_e x v ?_
  rw [ha, Nat.zero_add, Nat.zero_add, neg_sq hv.2.1, Nat.mod_eq_of_lt hv.2.1]
theorem dbl_m (x : Nat) {v : St} (h : (v.a + pN - v.b) % pN = 0) : (stepN x v).a = 0 := by
  simp only [stepN]
  rw [h, Nat.zero_mul, Nat.zero_mod, Nat.mul_zero, Nat.zero_mod]
theorem dbl_p (x : Nat) {v : St} (h : (v.a + v.b) % pN = 0) : (stepN x v).a = 0 := by
  simp only [stepN]
  rw [h, Nat.zero_mul, Nat.zero_mod, Nat.zero_mul, Nat.zero_mod]

/-- The sum's two squares are one, if one of both products is nothing. -/
theorem sum_sq {da cb : Nat} (hd : da < pN) (hc : cb < pN) (h : da = 0 ∨ cb = 0) : (da + cb) % pN * ((da + cb) % pN) % pN = (da + pN - cb) % pN * ((da + pN - cb) % pN) % pN := by
  rcases h with rfl | rfl
  · rw [Nat.zero_add, Nat.zero_add, neg_sq hc, Nat.mod_eq_of_lt hc]
  · rw [Nat.add_zero, Nat.sub_zero, Nat.add_mod_right]

theorem sum_c (x : Nat) (v : St) (h : (v.c + pN - v.d) % pN = 0 ∨ (v.a + v.b) % pN = 0 ∨ (v.c + v.d) % pN = 0 ∨ (v.a + pN - v.b) % pN = 0) :
    ∃ tt, tt < pN ∧ (stepN x v).c = tt ∧ (stepN x v).d = x * tt % pN := by
  have h1 : (v.c + pN - v.d) % pN * ((v.a + v.b) % pN) % pN = 0 ∨ (v.c + v.d) % pN * ((v.a + pN - v.b) % pN) % pN = 0 := by
    rcases h with h | h | h | h
    · left; rw [h, Nat.zero_mul, Nat.zero_mod]
    · left; rw [h, Nat.mul_zero, Nat.zero_mod]
    · right; rw [h, Nat.zero_mul, Nat.zero_mod]
    · right; rw [h, Nat.mul_zero, Nat.zero_mod]
  have h2 := sum_sq (Nat.mod_lt _ pN_pos) (Nat.mod_lt _ pN_pos) h1
  refine ⟨_, Nat.mod_lt _ pN_pos, h2, ?_⟩
  rfl

/-- The point (a : b) is x, where x is 1 or less 1. -/
def isX (s : Bool) (a b : Nat) : Prop := if s then a = b else (a + b) % pN = 0
def oneX (s : Bool) : Nat := if s then 1 else pN - 1
theorem isX_dbl (s : Bool) (x : Nat) {v : St} (h : isX s v.a v.b) : (stepN x v).a = 0 := by
  cases s
  · exact dbl_p x h
  · exact dbl_m x (by rw [show v.a = v.b from h, self_sub])
theorem isX_sum (s : Bool) {v : St} (h : isX s v.a v.b ∨ isX s v.c v.d) : isX s (stepN (oneX s) v).c (stepN (oneX s) v).d := by
  have h1 : (v.c + pN - v.d) % pN = 0 ∨ (v.a + v.b) % pN = 0 ∨ (v.c + v.d) % pN = 0 ∨ (v.a + pN - v.b) % pN = 0 := by
    cases s
    · rcases h with h | h
      · exact .inr (.inl h)
      · exact .inr (.inr (.inl h))
    · rcases h with h | h
      · exact .inr (.inr (.inr (by rw [show v.a = v.b from h, self_sub])))
      · exact .inl (by rw [show v.c = v.d from h, self_sub])
  obtain ⟨tt, htl, e1, e2⟩ := sum_c (oneX s) v h1
  rw [e1, e2]
  cases s
  · show (tt + (pN - 1) * tt % pN) % pN = 0
    rw [Nat.add_mod_mod, show tt + (pN - 1) * tt = pN * tt by
      rw [show tt + (pN - 1) * tt = (1 + (pN - 1)) * tt by rw [Nat.add_mul, Nat.one_mul]]; rfl]
    exact Nat.mul_mod_right _ _
  · show tt = 1 * tt % pN
    rw [Nat.one_mul, Nat.mod_eq_of_lt htl]

/-- The multiples of a point of order 4. -/
def quart (s : Bool) (r : Nat) (v : St) : Prop :=
  (r = 0 ∧ v.b = 0 ∧ isX s v.c v.d) ∨ (r = 1 ∧ isX s v.a v.b ∧ v.c = 0) ∨ (r = 2 ∧ v.a = 0 ∧ isX s v.c v.d) ∨ (r = 3 ∧ isX s v.a v.b ∧ v.d = 0)

theorem quart_next (s : Bool) {r t : Nat} (ht : t ≤ 1) {v : St} (hv : v.low) (h : quart s r v) : quart s ((2 * r + t) % 4) (nextN (oneX s) t v) := by
  have hsw : (St.mk v.c v.d v.a v.b).low := ⟨hv.2.2.1, hv.2.2.2, hv.1, hv.2.1⟩
  have h2 : t = 0 ∨ t = 1 := by omega
  rcases h2 with rfl | rfl
  · rw [next_zero]
    rcases h with ⟨rfl, h1, h2⟩ | ⟨rfl, h1, h2⟩ | ⟨rfl, h1, h2⟩ | ⟨rfl, h1, h2⟩
    · exact .inl ⟨rfl, dbl_inf (oneX s) h1, isX_sum s (.inr h2)⟩
    · exact .inr (.inr (.inl ⟨rfl, isX_dbl s (oneX s) h1, isX_sum s (.inl h1)⟩))
    · exact .inl ⟨rfl, dbl_two (oneX s) hv h1, isX_sum s (.inr h2)⟩
    · exact .inr (.inr (.inl ⟨rfl, isX_dbl s (oneX s) h1, isX_sum s (.inl h1)⟩))
  · rw [next_one]
    rcases h with ⟨rfl, h1, h2⟩ | ⟨rfl, h1, h2⟩ | ⟨rfl, h1, h2⟩ | ⟨rfl, h1, h2⟩
    · exact .inr (.inl ⟨rfl, isX_sum s (.inl h2), isX_dbl s (oneX s) (v := ⟨v.c, v.d, v.a, v.b⟩) h2⟩)
    · exact .inr (.inr (.inr ⟨rfl, isX_sum s (.inr h1), dbl_two (oneX s) hsw h2⟩))
    · exact .inr (.inl ⟨rfl, isX_sum s (.inl h2), isX_dbl s (oneX s) (v := ⟨v.c, v.d, v.a, v.b⟩) h2⟩)
    · exact .inr (.inr (.inr ⟨rfl, isX_sum s (.inr h1), dbl_inf (oneX s) (v := ⟨v.c, v.d, v.a, v.b⟩) h2⟩))

theorem oneX_lt (s : Bool) : oneX s < pN := by cases s <;> decide

theorem quart_all (s : Bool) (n : Nat) (hn : n < 2 ^ 255) : ∀ m, m ≤ 255 → quart s (n / 2 ^ (255 - m) % 4) (ladT (oneX s) n m)
  | 0, _ => by
    rw [Nat.div_eq_of_lt hn]
    refine .inl ⟨rfl, rfl, ?_⟩
    cases s
    · show (pN - 1 + 1) % pN = 0
      decide
    · rfl
  | m + 1, h => by
    have ih := quart_all s n hn m (by omega)
    have e1 : n / 2 ^ (255 - m) = n / 2 ^ (254 - m) / 2 := by rw [show 255 - m = (254 - m) + 1 by omega, Nat.pow_succ, Nat.div_div_eq_div_mul]
    have ht : n / 2 ^ (254 - m) % 2 ≤ 1 := by omega
    have h1 := quart_next s ht (lad_low (oneX_lt s) n m) ih
    rw [show 255 - (m + 1) = 254 - m by omega]
    have e2 : (2 * (n / 2 ^ (255 - m) % 4) + n / 2 ^ (254 - m) % 2) % 4 = n / 2 ^ (254 - m) % 4 := by rw [e1]; omega
    rw [e2] at h1
    exact h1

theorem clamp_four (k : Nat) : clampN k % 4 = 0 := by unfold clampN; omega
theorem clamp_top (k : Nat) : clampN k / 2 ^ 254 % 2 = 1 := by
  unfold clampN
  have := Nat.mod_lt (k - k % 8) (show 0 < 2 ^ 254 by decide)
  omega

theorem low_one (s : Bool) {k u : Nat} (hu : u % 2 ^ 255 % pN = oneX s) : lmulN k u = 0 := by
  refine lmul_nil ?_
  rw [hu]
  have h := quart_all s (clampN k) (clamp_lt k) 255 (Nat.le_refl _)
  rw [show 255 - 255 = 0 from rfl, Nat.pow_zero, Nat.div_one, clamp_four] at h
  rcases h with ⟨-, h1, -⟩ | ⟨h1, -⟩ | ⟨h1, -⟩ | ⟨h1, -⟩
  · exact h1
  · cases h1
  · cases h1
  · cases h1

theorem zero_first {n : Nat} (h : n / 2 ^ 254 % 2 = 1) : (ladT 0 n 1).b = 0 ∧ (ladT 0 n 1).d = 0 := by
  have : ladT 0 n 1 = nextN 0 (n / 2 ^ 254 % 2) ⟨1, 0, 0, 1⟩ := rfl
  rw [this, h]
  constructor <;> decide
theorem zero_next {t : Nat} (ht : t ≤ 1) {v : St} (h : v.b = 0 ∧ v.d = 0) : (nextN 0 t v).b = 0 ∧ (nextN 0 t v).d = 0 := by
  have hr : ∀ v : St, (stepN 0 v).d = 0 := fun v => by simp only [stepN]; rw [Nat.zero_mul, Nat.zero_mod]
  have h2 : t = 0 ∨ t = 1 := by omega
  rcases h2 with rfl | rfl
  · rw [next_zero]
    exact ⟨dbl_inf 0 h.1, hr _⟩
  · rw [next_one]
    exact ⟨hr _, dbl_inf 0 (v := ⟨v.c, v.d, v.a, v.b⟩) h.2⟩
theorem zero_all {n : Nat} (h : n / 2 ^ 254 % 2 = 1) : ∀ m, (ladT 0 n (m + 1)).b = 0 ∧ (ladT 0 n (m + 1)).d = 0
  | 0 => zero_first h
  | m + 1 => zero_next (t := n / 2 ^ (254 - (m + 1)) % 2) (by omega) (zero_all h m)
theorem low_zero {k u : Nat} (hu : u % 2 ^ 255 % pN = 0) : lmulN k u = 0 := by
  refine lmul_nil ?_
  rw [hu]
  exact (zero_all (clamp_top k) 254).1

end Go.Proofs.Ytdggikbaemigbaa
