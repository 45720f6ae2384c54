/- The law PolyPads: its walk. -/
import Derived.Test.YtfljonglibpgcaaPl3
import Derived.Test.YtfljonglibpgcaaIn
namespace Go.Proofs.Ytfljonglibpgcaa
open Go.RowKit

theorem xor_u8_nat (a b : Nat) (ha : a < 256) (hb : b < 256) : bits .xor .u8 (a : Int) (b : Int) = ((a ^^^ b : Nat) : Int) := by
  have hx : a ^^^ b < 2 ^ 8 := Nat.xor_lt_two_pow (by omega) (by omega)
  have h1 : (BitVec.ofInt 8 (a : Int)).toNat = a := by
    rw [BitVec.ofInt_natCast, BitVec.toNat_ofNat]; exact Nat.mod_eq_of_lt (by omega)
  have h2 : (BitVec.ofInt 8 (b : Int)).toNat = b := by
    rw [BitVec.ofInt_natCast, BitVec.toNat_ofNat]; exact Nat.mod_eq_of_lt (by omega)
  show IntKind.u8.wrap ((BitVec.ofInt 8 (a : Int) ^^^ BitVec.ofInt 8 (b : Int)).toNat : Int) = _
  rw [BitVec.toNat_xor, h1, h2]
  simp [IntKind.wrap, IntKind.bits, IntKind.signed]
  omega
theorem and_u8_nat (a b : Nat) (ha : a < 256) (hb : b < 256) : bits .and .u8 (a : Int) (b : Int) = ((a &&& b : Nat) : Int) := by
  have hx : a &&& b < 2 ^ 8 := Nat.lt_of_le_of_lt Nat.and_le_left (by omega)
  have h1 : (BitVec.ofInt 8 (a : Int)).toNat = a := by
    rw [BitVec.ofInt_natCast, BitVec.toNat_ofNat]; exact Nat.mod_eq_of_lt (by omega)
  have h2 : (BitVec.ofInt 8 (b : Int)).toNat = b := by
    rw [BitVec.ofInt_natCast, BitVec.toNat_ofNat]; exact Nat.mod_eq_of_lt (by omega)
  show IntKind.u8.wrap ((BitVec.ofInt 8 (a : Int) &&& BitVec.ofInt 8 (b : Int)).toNat : Int) = _
  rw [BitVec.toNat_and, h1, h2]
  simp [IntKind.wrap, IntKind.bits, IntKind.signed]
  omega

/-- A byte of a number put anew. -/
theorem byts_put (K j v : Nat) (hj : j < 32) (hv : v < 256) : ∃ M, M < 256 ^ 32 ∧ (byts K).set j (.int .u8 (v : Int)) = byts M ∧ ∀ i, i < 32 → M / 256 ^ i % 256 = if i = j then v else K / 256 ^ i % 256 := by
  have hlt : ∀ d ∈ (digs 256 32 K).set j v, d < 256 := set_lt (digs_lt 256 32 K (by decide)) hv
  have hl : ((digs 256 32 K).set j v).length = 32 := by rw [List.length_set, digs_len]
  have e := digs_val 256 (by decide) _ hlt
  have hb := val_lt 256 (by decide) _ hlt
  rw [hl] at e hb
  refine ⟨_, hb, ?_, fun i hi => ?_⟩
  · rw [byts, byts, e, List.map_set]
  · have h1 := digs_get 256 32 (val 256 ((digs 256 32 K).set j v)) i hi
    rw [e, List.getElem?_set, digs_len, if_pos hj, digs_get _ _ _ _ hi] at h1
    by_cases h : j = i
    · subst h
      rw [if_pos rfl] at h1 ⊢
      exact (Option.some.inj h1).symm
    · rw [if_neg h] at h1
      rw [if_neg (fun e => h e.symm)]
      exact (Option.some.inj h1).symm

theorem xor_mask (x z : Nat) : ((x ^^^ (z &&& 240)) &&& 15 = x &&& 15) ∧ ((x ^^^ (z &&& 3)) &&& 252 = x &&& 252) := by
  rw [Nat.and_xor_distrib_right, Nat.and_xor_distrib_right, Nat.and_assoc, Nat.and_assoc, show 240 &&& 15 = 0 by decide, show 3 &&& 252 = 0 by decide, Nat.and_zero, Nat.xor_zero, Nat.xor_zero]
  exact ⟨rfl, rfl⟩

theorem eq_of_digits {a b n : Nat} (ha : a < 256 ^ n) (hb : b < 256 ^ n) (h : ∀ i, i < n → a / 256 ^ i % 256 = b / 256 ^ i % 256) : a = b := by
  refine digs_inj (b := 256) (k := n) ?_ ha hb
  apply List.ext_getElem?
  intro i
  by_cases hi : i < n
  · rw [digs_get _ _ _ _ hi, digs_get _ _ _ _ hi, h i hi]
  · rw [List.getElem?_eq_none (by rw [digs_len]; omega), List.getElem?_eq_none (by rw [digs_len]; omega)]

theorem hi_digit (K i : Nat) : K / 2 ^ 128 / 256 ^ i % 256 = K / 256 ^ (16 + i) % 256 := by
  rw [Nat.pow_add, ← Nat.div_div_eq_div_mul, show (256 : Nat) ^ 16 = 2 ^ 128 by decide]

/-- The key whose cleared bits are turned. -/
theorem pads_key (K z : Nat) (hK : K < 256 ^ 32) (hz : z < 256) : ∃ v3 v4 v15 M1 M2 M : Nat,
    bits .xor .u8 ((K / 256 ^ 3 % 256 : Nat) : Int) (bits .and .u8 (z : Int) 240) = (v3 : Int) ∧ bits .xor .u8 ((K / 256 ^ 4 % 256 : Nat) : Int) (bits .and .u8 (z : Int) 3) = (v4 : Int) ∧
    bits .xor .u8 ((K / 256 ^ 15 % 256 : Nat) : Int) (bits .and .u8 (z : Int) 240) = (v15 : Int) ∧
    (byts K).set 3 (.int .u8 (v3 : Int)) = byts M1 ∧ (byts M1).set 4 (.int .u8 (v4 : Int)) = byts M2 ∧ (byts M2).set 15 (.int .u8 (v15 : Int)) = byts M ∧
    M1 / 256 ^ 4 % 256 = K / 256 ^ 4 % 256 ∧ M2 / 256 ^ 15 % 256 = K / 256 ^ 15 % 256 ∧ M < 256 ^ 32 ∧ polyR M = polyR K ∧ M / 2 ^ 128 = K / 2 ^ 128 := by
  have hx : ∀ i, K / 256 ^ i % 256 < 256 := fun i => Nat.mod_lt _ (by decide)
  have hand : ∀ c, c < 256 → z &&& c < 256 := fun c h => Nat.lt_of_le_of_lt Nat.and_le_left hz
  have hxor : ∀ i c, c < 256 → (K / 256 ^ i % 256) ^^^ (z &&& c) < 256 := fun i c h => Nat.xor_lt_two_pow (n := 8) (hx i) (hand c h)
  obtain ⟨M1, l1, e1, d1⟩ := byts_put K 3 _ (by decide) (hxor 3 240 (by decide))
  obtain ⟨M2, l2, e2, d2⟩ := byts_put M1 4 _ (by decide) (hxor 4 3 (by decide))
  obtain ⟨M, l3, e3, d3⟩ := byts_put M2 15 _ (by decide) (hxor 15 240 (by decide))
  have dM : ∀ i, i < 32 → M / 256 ^ i % 256 = if i = 15 then (K / 256 ^ 15 % 256) ^^^ (z &&& 240) else if i = 4 then (K / 256 ^ 4 % 256) ^^^ (z &&& 3) else if i = 3 then (K / 256 ^ 3 % 256) ^^^ (z &&& 240) else K / 256 ^ i % 256 := by
    intro i hi
    rw [d3 i hi, d2 i hi, d1 i hi]
  have a240 : bits .and .u8 (z : Int) 240 = ((z &&& 240 : Nat) : Int) := and_u8_nat z 240 hz (by decide)
  have a3 : bits .and .u8 (z : Int) 3 = ((z &&& 3 : Nat) : Int) := and_u8_nat z 3 hz (by decide)
  refine ⟨_, _, _, M1, M2, M, by rw [a240]; exact xor_u8_nat _ _ (hx 3) (hand _ (by decide)), by rw [a3]; exact xor_u8_nat _ _ (hx 4) (hand _ (by decide)), by rw [a240]; exact xor_u8_nat _ _ (hx 15) (hand _ (by decide)), e1, e2, e3,
    by rw [d1 4 (by decide), if_neg (by decide)], by rw [d2 15 (by decide), if_neg (by decide), d1 15 (by decide), if_neg (by decide)], l3, ?_, ?_⟩
  · refine polyR_eq (fun i hi => ?_)
    rw [dM i (by omega)]
    split
    · rename_i h; subst h; exact (xor_mask _ _).1
    split
    · rename_i h; subst h; exact (xor_mask _ _).2
    split
    · rename_i h; subst h; exact (xor_mask _ _).1
    rfl
  · refine eq_of_digits (n := 16) (by omega) (by omega) (fun i hi => ?_)
    rw [hi_digit, hi_digit, dM _ (by omega), if_neg (by omega), if_neg (by omega), if_neg (by omega)]

end Go.Proofs.Ytfljonglibpgcaa
