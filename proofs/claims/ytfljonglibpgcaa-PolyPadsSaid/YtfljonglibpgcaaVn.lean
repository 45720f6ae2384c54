/- Numbers as lists of digits; bytes of a number. -/
import Derived.Test.YtfljonglibpgcaaLm8
namespace Go.Proofs.Ytfljonglibpgcaa
open Go.RowKit

theorem val_append (b : Nat) : ∀ (xs ys : List Nat), val b (xs ++ ys) = val b xs + b ^ xs.length * val b ys
  | [], ys => by simp [val]
  | x :: xs, ys => by
    rw [List.cons_append, val, val, val_append b xs ys, List.length_cons, Nat.pow_succ, Nat.mul_comm (b ^ xs.length) b, Nat.mul_add, Nat.mul_assoc]
    omega

/-- The k lowest bytes of n. -/
def bytn (k n : Nat) : List Value := (digs 256 k n).map fun (x : Nat) => .int .u8 (x : Int)
theorem bytn_len (k n : Nat) : (bytn k n).length = k := by simp [bytn, digs_len]
theorem bytn_get (k n i : Nat) (h : i < k) : (bytn k n)[i]? = some (.int .u8 ((n / 256 ^ i % 256 : Nat) : Int)) := by simp [bytn, digs_get _ _ _ _ h]
theorem bytn_one (k n : Nat) : ∀ v ∈ bytn k n, v.oneCell' = true := by
  intro v hv
  simp only [bytn, List.mem_map] at hv
  obtain ⟨x, -, rfl⟩ := hv
  rfl
theorem bytn_u8s (k a : Nat) : bytn k a = u8s ((digs 256 k a).map UInt8.ofNat) := by
  simp only [bytn, u8s, List.map_map]
  apply List.map_congr_left
  intro x hx
  have := digs_lt 256 k a (by decide) x hx
  simp
  omega
theorem val_u8sn (k a : Nat) (hk : k ≤ 64) (ha : a < 256 ^ k) : val 256 ((((digs 256 k a).map UInt8.ofNat).take 64).map (·.toNat)) = a := by
  rw [List.take_of_length_le (by simpa [digs_len] using hk), List.map_map]
  have e : List.map ((fun x => x.toNat) ∘ UInt8.ofNat) (digs 256 k a) = digs 256 k a := by
    conv => rhs; rw [← List.map_id (digs 256 k a)]
    apply List.map_congr_left
    intro x hx
    have := digs_lt 256 k a (by decide) x hx
    simp
    omega
  rw [e, val_digs, Nat.mod_eq_of_lt ha]
theorem bytn_mix {k n : Nat} (h : n < 256 ^ k) : mixl k (bytn 64 n) (bytn 64 0) = bytn 64 n := by
  apply List.ext_getElem?
  intro j
  by_cases hj : j < 64
  · rw [mixl_get (by rw [bytn_len, bytn_len]) (by rw [bytn_len]; exact hj)]
    split
    · rfl
    · rw [bytn_get _ _ _ hj, bytn_get _ _ _ hj, Nat.div_eq_of_lt (Nat.lt_of_lt_of_le h (Nat.pow_le_pow_right (by decide) (by omega))), Nat.zero_div]
  · rw [List.getElem?_eq_none (by rw [mixl_len (by rw [bytn_len, bytn_len]), bytn_len]; omega), List.getElem?_eq_none (by rw [bytn_len]; omega)]

/-- Natural numbers as cells of int. -/
def ens (t : List Nat) : List Value := t.map fun (x : Nat) => .int .i64 (x : Int)
theorem ens_len (t : List Nat) : (ens t).length = t.length := by simp [ens]
theorem ens_get {t : List Nat} {i x : Nat} (h : t[i]? = some x) : (ens t)[i]? = some (.int .i64 (x : Int)) := by simp [ens, h]
theorem ens_set (t : List Nat) (i x : Nat) : (ens t).set i (.int .i64 (x : Int)) = ens (t.set i x) := by simp [ens, List.map_set]

theorem ens_one (t : List Nat) : ∀ v ∈ ens t, v.oneCell' = true := by
  intro v hv
  simp only [ens, List.mem_map] at hv
  obtain ⟨x, -, rfl⟩ := hv
  rfl

theorem getD_getN {xs : List Nat} {i : Nat} (h : i < xs.length) : xs[i]? = some (xs.getD i 0) := by
  rw [List.getD_eq_getElem?_getD, List.getElem?_eq_getElem h]; rfl
theorem val_take_succ {b : Nat} {ys : List Nat} {j : Nat} (h : j < ys.length) : val b (ys.take (j + 1)) = val b (ys.take j) + b ^ j * ys.getD j 0 := by
  rw [List.take_succ_eq_append_getElem h, val_append, List.length_take, Nat.min_eq_left (by omega), List.getD_eq_getElem?_getD, List.getElem?_eq_getElem h]
  simp [val]
theorem val_split (b : Nat) (xs : List Nat) (k : Nat) (h : k ≤ xs.length) : val b xs = val b (xs.take k) + b ^ k * val b (xs.drop k) := by
  conv => lhs; rw [← List.take_append_drop k xs]
  rw [val_append, List.length_take, Nat.min_eq_left h]

/-- All are at most B. -/
def Le (B : Nat) (t : List Nat) : Prop := ∀ m, t.getD m 0 ≤ B
theorem Le.mono {A B : Nat} {t : List Nat} (h : Le A t) (hAB : A ≤ B) : Le B t := fun m => Nat.le_trans (h m) hAB
theorem le_digs (k n : Nat) : Le 255 (digs 256 k n) := by
  intro m
  rw [List.getD_eq_getElem?_getD]
  cases h : (digs 256 k n)[m]? with
  | none => simp
  | some d => have := digs_lt 256 k n (by decide) d (List.mem_of_getElem? h); simp; omega


/-- A carry goes on. -/
theorem val_step (T : List Nat) {k : Nat} (hk : k < T.length) : (val 256 (T.take k) / 256 ^ k + T.getD k 0) % 256 = val 256 T / 256 ^ k % 256 ∧ val 256 (T.take (k + 1)) / 256 ^ (k + 1) = (val 256 (T.take k) / 256 ^ k + T.getD k 0) / 256 := by
  have h1 := val_take_succ (b := 256) (ys := T) (j := k) hk
  have h2 := val_split 256 T (k + 1) (by omega)
  have hp : 0 < 256 ^ k := Nat.pow_pos (by decide)
  have h3 : val 256 (T.take (k + 1)) / 256 ^ k = val 256 (T.take k) / 256 ^ k + T.getD k 0 := by rw [h1, Nat.add_mul_div_left _ _ hp]
  constructor
  · rw [h2, Nat.pow_succ, Nat.mul_assoc, Nat.add_mul_div_left _ _ hp, Nat.add_mul_mod_self_left, h3]
  · rw [Nat.pow_succ, ← Nat.div_div_eq_div_mul, h3]

end Go.Proofs.Ytfljonglibpgcaa
