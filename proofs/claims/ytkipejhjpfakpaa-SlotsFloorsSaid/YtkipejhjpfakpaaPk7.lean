/- Plain laws on what pack writes: unlike numbers, unlike texts have unlike bytes. -/
import Derived.Test.YtkipejhjpfakpaaPk3
namespace Go.Proofs.Ytkipejhjpfakpaa

/-- The number of bytes, the highest first. -/
def rdn (bs : List UInt8) : Nat := bs.foldl (fun a b => a * 256 + b.toNat) 0

theorem rdn_snoc (bs : List UInt8) (c : UInt8) : rdn (bs ++ [c]) = rdn bs * 256 + c.toNat := by simp [rdn]

theorem rdn_be8_take (n : Int) : ∀ k, k ≤ 8 → rdn ((be8 n).take k) = (n % 18446744073709551616).toNat / 2 ^ (8 * (8 - k))
  | 0, _ => by
    simp only [List.take_zero, rdn, List.foldl_nil]
    rw [Nat.div_eq_of_lt]
    have : n % 18446744073709551616 < 18446744073709551616 := Int.emod_lt_of_pos _ (by decide)
    simp only [Nat.reduceMul, Nat.reduceSub, Nat.reducePow]
    omega
  | k + 1, h => by
    have hl : k < (be8 n).length := by rw [be8_len]; omega
    have e : (be8 n).take (k + 1) = (be8 n).take k ++ [(be8 n)[k]] := by
      rw [List.take_add_one, List.getElem?_eq_getElem hl]; rfl
    rw [e, rdn_snoc, rdn_be8_take n k (by omega)]
    simp only [be8, List.getElem_map, List.getElem_range]
    generalize (n % 18446744073709551616).toNat = x
    have e2 : (UInt8.ofNat (x / 2 ^ (8 * (7 - k)) % 256)).toNat = x / 2 ^ (8 * (7 - k)) % 256 := by simp
    rw [e2, show 8 * (8 - k) = 8 * (7 - k) + 8 by omega, Nat.pow_add, ← Nat.div_div_eq_div_mul, show 8 * (8 - (k + 1)) = 8 * (7 - k) by omega]
    generalize x / 2 ^ (8 * (7 - k)) = y
    simp only [Nat.reducePow]
    omega

theorem rdn_be8 (n : Int) : rdn (be8 n) = (n % 18446744073709551616).toNat := by
  have h := rdn_be8_take n 8 (Nat.le_refl _)
  rw [List.take_of_length_le (by rw [be8_len]; exact Nat.le_refl _)] at h
  simpa using h

theorem be8_inj {m n : Int} (hm : -9223372036854775808 ≤ m ∧ m ≤ 9223372036854775807) (hn : -9223372036854775808 ≤ n ∧ n ≤ 9223372036854775807) (h : be8 m = be8 n) : m = n := by
  have h1 := rdn_be8 m
  rw [h, rdn_be8 n] at h1
  omega

theorem be8s_inj : ∀ {ms ns : List Int}, (∀ n ∈ ms, -9223372036854775808 ≤ n ∧ n ≤ 9223372036854775807) → (∀ n ∈ ns, -9223372036854775808 ≤ n ∧ n ≤ 9223372036854775807) → be8s ms = be8s ns → ms = ns
  | [], [], _, _, _ => rfl
  | [], n :: ns, _, _, h => by have := congrArg List.length h; simp [be8s_len] at this
  | m :: ms, [], _, _, h => by have := congrArg List.length h; simp [be8s_len] at this
  | m :: ms, n :: ns, h1, h2, h => by
    simp only [be8s, List.flatMap_cons] at h
    obtain ⟨e1, e2⟩ := List.append_inj h (by rw [be8_len, be8_len])
    rw [be8_inj (h1 m (by simp)) (h2 n (by simp)) e1, be8s_inj (ms := ms) (ns := ns) (fun x hx => h1 x (by simp [hx])) (fun x hx => h2 x (by simp [hx])) e2]

theorem txs_inj : ∀ {ls ms : List (List UInt8)}, (∀ l ∈ ls, l.length ≤ 1000) → (∀ l ∈ ms, l.length ≤ 1000) → txs ls = txs ms → ls = ms
  | [], [], _, _, _ => rfl
  | [], n :: ns, _, _, h => by have := congrArg List.length h; rw [txs_len, txs_len] at this; simp [total] at this; omega
  | m :: ms, [], _, _, h => by have := congrArg List.length h; rw [txs_len, txs_len] at this; simp [total] at this
  | m :: ms, n :: ns, h1, h2, h => by
    simp only [txs, List.flatMap_cons, List.append_assoc] at h
    obtain ⟨e1, e2⟩ := List.append_inj h (by rw [be8_len, be8_len])
    have l1 := h1 m (by simp)
    have l2 := h2 n (by simp)
    have e3 := be8_inj (by omega) (by omega) e1
    obtain ⟨e4, e5⟩ := List.append_inj e2 (by omega)
    rw [e4, txs_inj (ls := ms) (ms := ns) (fun x hx => h1 x (by simp [hx])) (fun x hx => h2 x (by simp [hx])) e5]

end Go.Proofs.Ytkipejhjpfakpaa
