/- Reference of the field: the product of digits, plain numbers. -/
import Derived.Test.YtpjkhedodlnloaaRf4
namespace Go.Proofs.Ytpjkhedodlnloaa
open Go.RowKit

def updZ (t : List Int) (m : Nat) (v : Int) : List Int := t.set m (t.getD m 0 + v)
def innerZ (xs ys : List Int) (i j : Nat) (t : List Int) : List Int := (List.range j).foldl (fun t k => updZ t (i + k) (xs.getD i 0 * ys.getD k 0)) t
def outerZ (xs ys : List Int) (i : Nat) : List Int := (List.range i).foldl (fun t i => innerZ xs ys i 16 t) (List.replicate 31 0)
def ofunZ (t : List Int) (n : Nat) : List Int := (List.range n).map fun i => t.getD i 0 + (if i < 15 then 38 * t.getD (i + 16) 0 else 0)
def mulZ (xs ys : List Int) : Int := valZ (ofunZ (outerZ xs ys 16) 16)

theorem updZ_len (t : List Int) (m : Nat) (v : Int) : (updZ t m v).length = t.length := by simp [updZ]
theorem innerZ_succ (xs ys : List Int) (i j : Nat) (t : List Int) : innerZ xs ys i (j + 1) t = updZ (innerZ xs ys i j t) (i + j) (xs.getD i 0 * ys.getD j 0) := by
  unfold innerZ; rw [List.range_succ, List.foldl_append]; rfl
theorem innerZ_zero (xs ys : List Int) (i : Nat) (t : List Int) : innerZ xs ys i 0 t = t := rfl
theorem outerZ_succ (xs ys : List Int) (i : Nat) : outerZ xs ys (i + 1) = innerZ xs ys i 16 (outerZ xs ys i) := by
  unfold outerZ; rw [List.range_succ, List.foldl_append, List.foldl_cons, List.foldl_nil]
theorem innerZ_len (xs ys : List Int) (i : Nat) (t : List Int) : ∀ j, (innerZ xs ys i j t).length = t.length
  | 0 => by rw [innerZ_zero]
  | j + 1 => by rw [innerZ_succ, updZ_len, innerZ_len xs ys i t j]
theorem outerZ_len (xs ys : List Int) : ∀ i, (outerZ xs ys i).length = 31
  | 0 => by unfold outerZ; simp
  | i + 1 => by rw [outerZ_succ, innerZ_len, outerZ_len xs ys i]
theorem ofunZ_len (t : List Int) (n : Nat) : (ofunZ t n).length = n := by simp [ofunZ]

theorem valZ_set : ∀ (t : List Int) (m : Nat) (v : Int), m < t.length → valZ (t.set m v) = valZ t + (v - t.getD m 0) * 65536 ^ m
  | [], m, v, h => by simp at h
  | x :: xs, 0, v, _ => by simp [valZ]; omega
  | x :: xs, m + 1, v, h => by
    have ih := valZ_set xs m v (by simpa using h)
    rw [List.set_cons_succ, valZ, valZ, ih, List.getD_cons_succ, Int.pow_succ, Int.mul_add, ← Int.mul_assoc _ _ 65536, Int.mul_comm _ 65536, Int.add_assoc]
theorem valZ_upd {t : List Int} {m : Nat} (v : Int) (h : m < t.length) : valZ (updZ t m v) = valZ t + v * 65536 ^ m := by
  rw [updZ, valZ_set _ _ _ h]
  congr 2
  omega

theorem valZ_take_succ {ys : List Int} {j : Nat} (h : j < ys.length) : valZ (ys.take (j + 1)) = valZ (ys.take j) + ys.getD j 0 * 65536 ^ j := by
  rw [List.take_succ_eq_append_getElem h, valZ_append, List.length_take, Nat.min_eq_left (by omega), List.getD_eq_getElem?_getD, List.getElem?_eq_getElem h]
  simp [valZ]
  rw [Int.mul_comm]

theorem valZ_inner {xs ys : List Int} (hy : ys.length = 16) {i : Nat} (hi : i < 16) {t : List Int} (ht : t.length = 31) : ∀ j, j ≤ 16 → valZ (innerZ xs ys i j t) = valZ t + xs.getD i 0 * 65536 ^ i * valZ (ys.take j)
  | 0, _ => by simp [innerZ_zero, valZ]
  | j + 1, h => by
    rw [innerZ_succ, valZ_upd _ (by rw [innerZ_len, ht]; omega), valZ_inner hy hi ht j (by omega), valZ_take_succ (by omega), Int.mul_add, Int.add_assoc]
    congr 2
    rw [Int.pow_add, Int.mul_assoc, Int.mul_assoc, Int.mul_left_comm (ys.getD j 0)]

theorem valZ_outer {xs ys : List Int} (hx : xs.length = 16) (hy : ys.length = 16) : ∀ i, i ≤ 16 → valZ (outerZ xs ys i) = valZ (xs.take i) * valZ ys
  | 0, _ => by
    rw [List.take_zero, valZ, Int.zero_mul]
    unfold outerZ
    rw [List.range_zero, List.foldl_nil]
    decide
  | i + 1, h => by
    rw [outerZ_succ, valZ_inner hy (by omega) (outerZ_len _ _ _) 16 (by omega), valZ_outer hx hy i (by omega), List.take_of_length_le (by omega : ys.length ≤ 16), valZ_take_succ (by omega), Int.add_mul]

theorem Bd.zeros (n : Nat) : Bd 0 (List.replicate n 0) := fun x hx => by
  rw [List.mem_replicate] at hx; omega
theorem Bd.getD {B : Int} {t : List Int} (h : Bd B t) (hB : 0 ≤ B) (m : Nat) : -B ≤ t.getD m 0 ∧ t.getD m 0 ≤ B := by
  rw [List.getD_eq_getElem?_getD]
  cases hm : t[m]? with
  | none => simp; omega
  | some x => exact h x (List.mem_of_getElem? hm)
theorem Bd.upd {B C v : Int} {t : List Int} (h : Bd B t) (hB : 0 ≤ B) (hv : -C ≤ v ∧ v ≤ C) (m : Nat) : Bd (B + C) (updZ t m v) := by
  intro x hx
  have hg := h.getD hB m
  rcases List.mem_or_eq_of_mem_set hx with h1 | rfl
  · have := h x h1; omega
  · omega

theorem bd_mul {x y B : Int} (hx : -B ≤ x ∧ x ≤ B) (hy : -B ≤ y ∧ y ≤ B) : -(B * B) ≤ x * y ∧ x * y ≤ B * B := by
  have h1 := Int.mul_nonneg (by omega : 0 ≤ B - x) (by omega : 0 ≤ B + y)
  have h2 := Int.mul_nonneg (by omega : 0 ≤ B + x) (by omega : 0 ≤ B - y)
  have h3 := Int.mul_nonneg (by omega : 0 ≤ B - x) (by omega : 0 ≤ B - y)
  have h4 := Int.mul_nonneg (by omega : 0 ≤ B + x) (by omega : 0 ≤ B + y)
  simp only [Int.add_mul, Int.mul_add, Int.sub_mul, Int.mul_sub] at h1 h2 h3 h4
  have e := Int.mul_comm x B
  constructor <;> omega

theorem Bd.inner {B C : Int} {xs ys t : List Int} (hC : 0 ≤ C) (hx : Bd C xs) (hy : Bd C ys) (h : Bd B t) (hB : 0 ≤ B) (i : Nat) : ∀ j : Nat, Bd (B + j * (C * C)) (innerZ xs ys i j t)
  | 0 => by rw [innerZ_zero]; simpa using h
  | j + 1 => by
    rw [innerZ_succ]
    have hcc := Int.mul_nonneg hC hC
    have h1 := (Bd.inner hC hx hy h hB i j).upd (C := C * C) (by have := Int.mul_nonneg (Int.natCast_nonneg j) hcc; omega) (bd_mul (hx.getD hC i) (hy.getD hC j)) (i + j)
    refine h1.mono ?_
    rw [Int.natCast_add, Int.add_mul]; omega
theorem Bd.outer {C : Int} {xs ys : List Int} (hC : 0 ≤ C) (hx : Bd C xs) (hy : Bd C ys) : ∀ i : Nat, Bd (i * (16 * (C * C))) (outerZ xs ys i)
  | 0 => by
    have := Bd.zeros 31
    simpa [outerZ] using this
  | i + 1 => by
    rw [outerZ_succ]
    have hcc := Int.mul_nonneg hC hC
    have h1 := Bd.inner hC hx hy (Bd.outer hC hx hy i) (Int.mul_nonneg (Int.natCast_nonneg i) (by omega)) i 16
    refine h1.mono ?_
    rw [Int.natCast_add, Int.add_mul]; omega

theorem valZ_scale (c : Int) : ∀ xs : List Int, valZ (xs.map (c * ·)) = c * valZ xs
  | [] => by simp [valZ]
  | x :: xs => by rw [List.map_cons, valZ, valZ, valZ_scale c xs, Int.mul_add, Int.mul_left_comm]

theorem ofunZ_zip {t : List Int} (h : t.length = 31) : ofunZ t 16 = List.zipWith (fun x y => x + y) (t.take 16) ((t.drop 16).map (38 * ·) ++ [0]) := by
  apply List.ext_getElem?
  intro i
  by_cases hi : i < 16
  · have e1 : t[i]? = some t[i] := List.getElem?_eq_getElem (by omega)
    rw [List.getElem?_zipWith, List.getElem?_take, if_pos hi, e1]
    by_cases h15 : i < 15
    · have e2 : t[i + 16]? = some t[i + 16] := List.getElem?_eq_getElem (by omega)
      rw [List.getElem?_append_left (by simp; omega), List.getElem?_map, List.getElem?_drop, Nat.add_comm 16 i, e2]
      simp [ofunZ, hi, h15, List.getD_eq_getElem?_getD, e1, e2]
    · obtain rfl : i = 15 := by omega
      rw [List.getElem?_append_right (by simp; omega)]
      simp [ofunZ, List.getD_eq_getElem?_getD, h]
  · rw [List.getElem?_eq_none (by rw [ofunZ_len]; omega), List.getElem?_eq_none (by rw [List.length_zipWith, List.length_take]; omega)]

theorem valZ_ofun {t : List Int} (h : t.length = 31) : valZ (ofunZ t 16) = valZ (t.take 16) + 38 * valZ (t.drop 16) := by
  rw [ofunZ_zip h, valZ_radd _ _ (by simp [h]), valZ_append, valZ_scale]
  simp [valZ]

theorem mulZ_mod {xs ys : List Int} (hx : xs.length = 16) (hy : ys.length = 16) : mulZ xs ys % pN = valZ xs * valZ ys % pN := by
  have h := valZ_outer hx hy 16 (by omega)
  rw [List.take_of_length_le (by omega : xs.length ≤ 16)] at h
  have hl := outerZ_len xs ys 16
  rw [mulZ, valZ_ofun hl, ← h]
  generalize outerZ xs ys 16 = t at *
  have e : valZ t = valZ (t.take 16) + 65536 ^ 16 * valZ (t.drop 16) := by
    conv => lhs; rw [← List.take_append_drop 16 t]
    rw [valZ_append, List.length_take, Nat.min_eq_left (by omega)]
  rw [e, show (65536 : Int) ^ 16 = (pN : Int) * 2 + 38 by decide, Int.add_mul, Int.mul_assoc, Int.add_left_comm, Int.mul_add_emod_self_left]

theorem ofunZ_bd {B : Int} (hB : 0 ≤ B) {t : List Int} (h : Bd B t) (n : Nat) : Bd (39 * B) (ofunZ t n) := by
  intro x hx
  obtain ⟨i, -, rfl⟩ := List.mem_map.1 hx
  have h1 := h.getD hB i
  have h2 := h.getD hB (i + 16)
  split <;> constructor <;> omega

end Go.Proofs.Ytpjkhedodlnloaa
