/- limb: Bit, Pick. -/
import Derived.Test.YtfljonglibpgcaaLm7
import Derived.Laws.Bits64
import Derived.StillTailTactics
namespace Go.Proofs.Ytfljonglibpgcaa
open Go.RowKit

theorem bit_at (n k : Nat) : n / 18446744073709551616 ^ (k / 64) % 18446744073709551616 / 2 ^ (k % 64) % 2 = n / 2 ^ k % 2 := by
  have e : (2 : Nat) ^ k = 18446744073709551616 ^ (k / 64) * 2 ^ (k % 64) := by
    rw [show (18446744073709551616 : Nat) = 2 ^ 64 by decide, ← Nat.pow_mul, ← Nat.pow_add]
    congr 1; omega
  rw [e, ← Nat.div_div_eq_div_mul]
  generalize n / 18446744073709551616 ^ (k / 64) = m
  have e2 : (18446744073709551616 : Nat) = 2 ^ (k % 64) * 2 ^ (64 - k % 64) := by
    rw [← Nat.pow_add, show k % 64 + (64 - k % 64) = 64 by omega]
  conv => lhs; rw [e2]
  rw [Nat.mod_mul_right_div_self, Nat.mod_mod_of_dvd]
  exact ⟨2 ^ (63 - k % 64), by rw [← Nat.pow_succ']; congr 1; omega⟩

/-- One number, or the other one. -/
def pickN (s a b : Nat) : Nat := if s = 1 then b else a

/-- The first k of one list, then another one's. -/
def mixl {α : Type} (k : Nat) (xs ys : List α) : List α := xs.take k ++ ys.drop k

theorem mixl_len {α : Type} {k : Nat} {xs ys : List α} (h : xs.length = ys.length) : (mixl k xs ys).length = ys.length := by
  simp only [mixl, List.length_append, List.length_take, List.length_drop]; omega
theorem mixl_zero {α : Type} (xs ys : List α) : mixl 0 xs ys = ys := by simp [mixl]
theorem mixl_all {α : Type} {xs ys : List α} (h : xs.length = ys.length) : mixl ys.length xs ys = xs := by simp [mixl, ← h]
theorem mixl_get {α : Type} {k j : Nat} {xs ys : List α} (h : xs.length = ys.length) (hj : j < ys.length) : (mixl k xs ys)[j]? = if j < k then xs[j]? else ys[j]? := by
  unfold mixl
  by_cases e : j < k
  · rw [if_pos e, List.getElem?_append_left (by simp; omega), List.getElem?_take, if_pos e]
  · rw [if_neg e, List.getElem?_append_right (by simp; omega), List.getElem?_drop]
    congr 1
    simp only [List.length_take]
    omega
theorem mixl_set {α : Type} {k : Nat} {xs ys : List α} {u : α} (h : xs.length = ys.length) (hu : xs[k]? = some u) : (mixl k xs ys).set k u = mixl (k + 1) xs ys := by
  have hk : k < xs.length := (List.getElem?_eq_some_iff.1 hu).1
  apply List.ext_getElem?
  intro j
  by_cases hj : j < ys.length
  · rw [List.getElem?_set, mixl_get h hj, mixl_get h hj, mixl_len h]
    by_cases e : k = j
    · subst e; rw [if_pos rfl, if_pos hj, if_pos (by omega), hu]
    · rw [if_neg e]
      by_cases h2 : j < k
      · rw [if_pos h2, if_pos (by omega)]
      · rw [if_neg h2, if_neg (by omega)]
  · rw [List.getElem?_eq_none (by rw [List.length_set, mixl_len h]; omega), List.getElem?_eq_none (by rw [mixl_len h]; omega)]

theorem pick_mask (s : Nat) (hs : s ≤ 1) : IntKind.u64.wrap (-bits BinOp.and IntKind.u64 (s : Int) 1) = ((if s = 1 then 18446744073709551615 else 0 : Nat) : Int) := by
  have h : s = 0 ∨ s = 1 := by omega
  rcases h with rfl | rfl <;> decide

theorem pick_bits (x y s : Nat) (hx : x < 18446744073709551616) (hy : y < 18446744073709551616) :
    bits .xor .u64 (x : Int) (bits .and .u64 ((if s = 1 then 18446744073709551615 else 0 : Nat) : Int) (bits .xor .u64 (x : Int) (y : Int))) = ((if s = 1 then y else x : Nat) : Int) := by
  have hxy : x ^^^ y < 2 ^ 64 := Nat.xor_lt_two_pow (by omega) (by omega)
  have hxy' : x ^^^ y < 18446744073709551616 := by omega
  rw [bits_xor_u64_nat x y hx hy, bits_and_u64_nat _ _ (by split <;> omega) hxy']
  by_cases h : s = 1
  · rw [if_pos h, if_pos h, show (18446744073709551615 : Nat) = 2 ^ 64 - 1 by decide, Nat.and_comm, Nat.and_two_pow_sub_one_eq_mod, Nat.mod_eq_of_lt hxy, bits_xor_u64_nat _ _ hx hxy', ← Nat.xor_assoc, Nat.xor_self, Nat.zero_xor]
  · rw [if_neg h, if_neg h, Nat.zero_and, bits_xor_u64_nat _ _ hx (by decide), Nat.xor_zero]

end Go.Proofs.Ytfljonglibpgcaa
