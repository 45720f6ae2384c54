/- Plain laws: what was put is read as it was put. -/
import Derived.Test.YtkipejhjpfakpaaCu4
namespace Go.Proofs.Ytkipejhjpfakpaa
open Go.RowKit

theorem rawS_ok (a r : List UInt8) (n : Int) (h : n = a.length) : rawS (a ++ r) false n = (a, r, false) := by
  subst h
  have h1 : ¬ ((a.length : Int) < 0 ∨ ((a ++ r).length : Int) < (a.length : Int)) := by
    simp only [List.length_append]; omega
  simp only [rawS, Bool.false_eq_true, if_false, h1, Int.toNat_natCast, List.take_left, List.drop_left]

theorem sgn_be8 {n : Int} (h : -9223372036854775808 ≤ n ∧ n ≤ 9223372036854775807) : sgn (rdn (be8 n)) = n := by
  rw [rdn_be8]
  unfold sgn
  split <;> omega

theorem intS_ok {n : Int} (h : -9223372036854775808 ≤ n ∧ n ≤ 9223372036854775807) (r : List UInt8) : intS (be8 n ++ r) false = (n, r, false) := by
  unfold intS
  rw [rawS_ok (be8 n) r 8 (by rw [be8_len]; rfl)]
  simp only [sgn_be8 h]

theorem bytesS_ok {l : List UInt8} (h : l.length ≤ 9223372036854775807) (r : List UInt8) : bytesS (be8 l.length ++ l ++ r) false = (l, r, false) := by
  unfold bytesS
  rw [List.append_assoc, intS_ok (by omega)]
  exact rawS_ok l r _ rfl

theorem be8s_drop (ns : List Int) (j : Nat) (h : j < ns.length) : be8s (ns.drop j) = be8 ns[j] ++ be8s (ns.drop (j + 1)) := by
  unfold be8s
  rw [List.drop_eq_getElem_cons h, List.flatMap_cons]

theorem txs_drop (ls : List (List UInt8)) (j : Nat) (h : j < ls.length) : txs (ls.drop j) = be8 ls[j].length ++ ls[j] ++ txs (ls.drop (j + 1)) := by
  unfold txs
  rw [List.drop_eq_getElem_cons h, List.flatMap_cons]

theorem total_drop (ls : List (List UInt8)) (j : Nat) : total (ls.drop j) ≤ total ls := by
  unfold total
  have e : ls = ls.take j ++ ls.drop j := (List.take_append_drop j ls).symm
  conv => rhs; rw [e]
  rw [List.map_append, List.sum_append]
  omega

theorem Sl.shape {w : World} {v : Value} {bs : List UInt8} (h : Sl w v (u8s bs)) : ∃ a c, v = .slice a bs.length c ∧ bs.length ≤ c := by
  obtain ⟨a, c, h1, h2, _⟩ := h
  rw [u8s_len] at h1 h2
  exact ⟨a, c, h1, h2⟩

theorem Sl.cut {w : World} {a : Option Addr} {n c k : Nat} {bs : List UInt8} (h : Sl w (.slice a n c) (u8s bs)) (hk : k ≤ bs.length) : Sl w (.slice a k c) (u8s (bs.take k)) := by
  obtain ⟨a', c', h1, h2, h3, h4, h5⟩ := h
  simp only [Value.slice.injEq] at h1
  obtain ⟨rfl, rfl, rfl⟩ := h1
  rw [u8s_len] at h2
  have hl : (bs.take k).length = k := by rw [List.length_take]; omega
  refine ⟨a, c, by rw [u8s_len, hl], by rw [u8s_len, hl]; omega, h3, h4, fun x hx j u hu => h5 x hx j u ?_⟩
  have hj : j < k := by
    have := (List.getElem?_eq_some_iff.1 hu).1
    rwa [u8s_len, hl] at this
  rw [← hu]
  simp [u8s, hj]

end Go.Proofs.Ytkipejhjpfakpaa
