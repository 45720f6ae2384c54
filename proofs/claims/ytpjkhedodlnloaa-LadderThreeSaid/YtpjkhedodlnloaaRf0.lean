/- Numbers as sixteen digits that may be too great or below nought: plain numbers. -/
import Derived.Test.YtpjkhedodlnloaaFd1
namespace Go.Proofs.Ytpjkhedodlnloaa

/-- What digits tell, whatever they are. -/
def valZ : List Int → Int
  | [] => 0
  | x :: xs => x + 65536 * valZ xs

/-- The lowest n digits of a number. -/
def digsZ : Nat → Int → List Int
  | 0, _ => []
  | n + 1, V => V % 65536 :: digsZ n (V / 65536)

theorem digsZ_len : ∀ (n : Nat) (V : Int), (digsZ n V).length = n
  | 0, _ => rfl
  | n + 1, V => by rw [digsZ, List.length_cons, digsZ_len]

theorem digsZ_snoc : ∀ (n : Nat) (V : Int), digsZ (n + 1) V = digsZ n V ++ [V / 65536 ^ n % 65536]
  | 0, V => by simp [digsZ]
  | n + 1, V => by
    rw [digsZ, digsZ_snoc n, digsZ, List.cons_append, Int.pow_succ, Int.mul_comm (65536 ^ n), Int.ediv_ediv_of_nonneg (by decide)]

theorem valZ_append : ∀ (a b : List Int), valZ (a ++ b) = valZ a + 65536 ^ a.length * valZ b
  | [], b => by simp [valZ]
  | x :: xs, b => by
    rw [List.cons_append, valZ, valZ, valZ_append xs b, List.length_cons, Int.pow_succ, Int.mul_add, Int.mul_comm (65536 ^ xs.length) 65536, Int.mul_assoc]
    omega

theorem valZ_digsZ : ∀ (n : Nat) (V : Int), valZ (digsZ n V) = V % 65536 ^ n
  | 0, V => by simp [digsZ, valZ, Int.emod_one]
  | n + 1, V => by
    rw [digsZ, valZ, valZ_digsZ n, Int.pow_succ, Int.mul_comm (65536 ^ n) 65536]
    have h1 := Int.mul_ediv_add_emod V 65536
    have h2 := Int.mul_ediv_add_emod (V / 65536) (65536 ^ n)
    rw [Int.ediv_ediv_of_nonneg (by decide)] at h2
    have h3 := Int.mul_ediv_add_emod V (65536 * 65536 ^ n)
    rw [Int.mul_assoc] at h3
    generalize V / (65536 * 65536 ^ n) = q at *
    generalize V / 65536 % 65536 ^ n = r at *
    generalize (65536 : Int) ^ n * q = m at *
    generalize V % (65536 * 65536 ^ n) = s at *
    omega

theorem digsZ_get : ∀ (n : Nat) (V : Int) (i : Nat), i < n → (digsZ n V)[i]? = some (V / 65536 ^ i % 65536)
  | 0, _, _, h => by omega
  | n + 1, V, 0, _ => by simp [digsZ]
  | n + 1, V, i + 1, h => by
    rw [digsZ, List.getElem?_cons_succ, digsZ_get n _ i (by omega), Int.pow_succ, Int.mul_comm (65536 ^ i), Int.ediv_ediv_of_nonneg (by decide)]

/-- The digits as carry leaves them. -/
def rep (V : Int) : List Int := (V % 65536 + 38 * (V / 65536 ^ 16)) :: digsZ 15 (V / 65536)
/-- What they tell. -/
def fv (V : Int) : Int := V % 65536 ^ 16 + 38 * (V / 65536 ^ 16)

theorem rep_len (V : Int) : (rep V).length = 16 := by rw [rep, List.length_cons, digsZ_len]
theorem valZ_rep (V : Int) : valZ (rep V) = fv V := by
  have h := valZ_digsZ 16 V
  rw [digsZ, valZ] at h
  rw [rep, valZ, fv, ← h]
  omega

theorem rep_small {V : Int} (h0 : 0 ≤ V) (h1 : V < 65536 ^ 16) : rep V = digsZ 16 V := by
  rw [rep, Int.ediv_eq_zero_of_lt h0 h1, Int.mul_zero, Int.add_zero]; rfl

theorem fv_small {V : Int} (h0 : 0 ≤ V) (h1 : V < 65536 ^ 16) : fv V = V := by
  rw [fv, Int.ediv_eq_zero_of_lt h0 h1, Int.emod_eq_of_lt h0 h1]; simp

theorem fv_bd {V : Int} {K : Int} (h0 : -(65536 ^ 16 * K) ≤ V) (h1 : V < 65536 ^ 16 * K) : -(38 * K) ≤ fv V ∧ fv V < 65536 ^ 16 + 38 * K := by
  unfold fv
  have h2 := Int.mul_ediv_add_emod V (65536 ^ 16)
  have h3 := Int.emod_nonneg V (b := 65536 ^ 16) (by decide)
  have h4 := Int.emod_lt_of_pos V (b := 65536 ^ 16) (by decide)
  constructor <;> omega

theorem rep_bd {V : Int} {K : Int} (h0 : -(65536 ^ 16 * K) ≤ V) (h1 : V < 65536 ^ 16 * K) : ∀ x ∈ rep V, -(38 * K) ≤ x ∧ x ≤ 65535 + 38 * K := by
  have hK : 0 ≤ K := by omega
  have h2 := Int.mul_ediv_add_emod V (65536 ^ 16)
  have h3 := Int.emod_nonneg V (b := 65536 ^ 16) (by decide)
  have h4 := Int.emod_lt_of_pos V (b := 65536 ^ 16) (by decide)
  intro x hx
  rw [rep, List.mem_cons] at hx
  rcases hx with rfl | hx
  · have h5 := Int.emod_nonneg V (b := 65536) (by decide)
    have h6 := Int.emod_lt_of_pos V (b := 65536) (by decide)
    constructor <;> omega
  · obtain ⟨i, hi, rfl⟩ := List.getElem_of_mem hx
    rw [digsZ_len] at hi
    have h7 := digsZ_get 15 (V / 65536) i hi
    rw [List.getElem?_eq_getElem (by rw [digsZ_len]; exact hi), Option.some.injEq] at h7
    rw [h7]
    have h5 := Int.emod_nonneg (V / 65536 / 65536 ^ i) (b := 65536) (by decide)
    have h6 := Int.emod_lt_of_pos (V / 65536 / 65536 ^ i) (b := 65536) (by decide)
    constructor <;> omega

theorem fv_mod (V : Int) : fv V % (pN : Int) = V % (pN : Int) := by
  have h2 := Int.mul_ediv_add_emod V (65536 ^ 16)
  have e : V = fv V + (pN : Int) * (2 * (V / 65536 ^ 16)) := by
    rw [show (pN : Int) = 57896044618658097711785492504343953926634992332820282019728792003956564819949 from rfl]
    unfold fv; omega
  rw [show fv V % (pN : Int) = (fv V + (pN : Int) * (2 * (V / 65536 ^ 16))) % (pN : Int) from (Int.add_mul_emod_self_left _ _ _).symm, ← e]

end Go.Proofs.Ytpjkhedodlnloaa
