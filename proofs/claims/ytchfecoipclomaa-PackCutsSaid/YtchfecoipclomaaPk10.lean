/- Plain laws on reading what is cut off. -/
import Derived.Test.YtchfecoipclomaaCu5
namespace Go.Proofs.Ytchfecoipclomaa

/-- What a cursor over the first k bytes has when as far as 'at' was wanted: all that is left, or nothing and it is bad. -/
def cutS (b : List UInt8) (k a : Nat) : List UInt8 × Bool := if a ≤ k then ((b.take k).drop a, false) else ([], true)

theorem cut_drop {b x r : List UInt8} {k a : Nat} (h : b.drop a = x ++ r) (hk : a + x.length ≤ k) : (b.take k).drop a = x ++ (b.take k).drop (a + x.length) := by
  have e1 : b.drop (a + x.length) = r := by
    rw [← List.drop_drop, h, List.drop_left]
  rw [List.drop_take, List.drop_take, h, e1, List.take_append, List.take_of_length_le (by omega)]
  congr 1
  congr 1
  omega

theorem cut_int {b r : List UInt8} {n : Int} {k a : Nat} (hb : -9223372036854775808 ≤ n ∧ n ≤ 9223372036854775807) (h : b.drop a = be8 n ++ r) :
    intS (cutS b k a).1 (cutS b k a).2 = (if a + 8 ≤ k then n else 0, (cutS b k (a + 8)).1, (cutS b k (a + 8)).2) := by
  by_cases h1 : a + 8 ≤ k
  · have e1 := cut_drop (k := k) h (by rw [be8_len]; exact h1)
    rw [be8_len] at e1
    simp only [cutS, if_pos h1, if_pos (show a ≤ k by omega)]
    rw [e1]
    exact intS_ok hb _
  · simp only [cutS, if_neg h1]
    by_cases h2 : a ≤ k
    · simp only [if_pos h2]
      have hl : ((b.take k).drop a).length < 8 := by simp only [List.length_drop, List.length_take]; omega
      have e : rawS ((b.take k).drop a) false 8 = ([], [], true) := by
        have : (((b.take k).drop a).length : Int) < 8 := by omega
        simp only [rawS, Bool.false_eq_true, if_false]
        rw [if_pos (.inr this)]
      unfold intS
      rw [e]; rfl
    · simp only [if_neg h2]
      rfl

theorem rawS_bad (rest : List UInt8) (n : Int) : rawS rest true n = ([], rest, true) := rfl

theorem cut_bytes {b r l : List UInt8} {k a : Nat} (hl : l.length ≤ 9223372036854775807) (h : b.drop a = be8 l.length ++ l ++ r) :
    bytesS (cutS b k a).1 (cutS b k a).2 = (if a + 8 + l.length ≤ k then l else [], (cutS b k (a + 8 + l.length)).1, (cutS b k (a + 8 + l.length)).2) := by
  unfold bytesS
  rw [cut_int (n := (l.length : Int)) (r := l ++ r) (by omega) (by rw [h, List.append_assoc])]
  simp only
  by_cases h1 : a + 8 ≤ k
  · have e1 : (cutS b k (a + 8)) = ((b.take k).drop (a + 8), false) := by simp only [cutS, if_pos h1]
    have hd : b.drop (a + 8) = l ++ r := by
      have := congrArg (List.drop 8) h
      rw [List.drop_drop, List.append_assoc, show (8 : Nat) = (be8 (l.length : Int)).length by rw [be8_len], List.drop_left] at this
      rwa [be8_len] at this
    rw [e1, if_pos h1]
    simp only
    by_cases h2 : a + 8 + l.length ≤ k
    · have e2 := cut_drop (k := k) hd h2
      rw [e2]
      simp only [cutS, if_pos h2]
      exact rawS_ok l _ _ rfl
    · simp only [cutS, if_neg h2]
      have h3 : ((((b.take k).drop (a + 8)).length : Nat) : Int) < (l.length : Int) := by simp only [List.length_drop, List.length_take]; omega
      simp only [rawS, Bool.false_eq_true, if_false]
      rw [if_pos (.inr h3)]
  · simp only [cutS, if_neg h1, if_neg (show ¬ a + 8 + l.length ≤ k by omega), rawS_bad]

theorem be8s_off (ns : List Int) (r : List UInt8) (j : Nat) (h : j < ns.length) : (be8s ns ++ r).drop (8 * j) = be8 ns[j] ++ (be8s (ns.drop (j + 1)) ++ r) := by
  have e : be8s ns = be8s (ns.take j) ++ be8s (ns.drop j) := by
    unfold be8s
    rw [← List.flatMap_append, List.take_append_drop]
  have hl : (be8s (ns.take j)).length = 8 * j := by rw [be8s_len, List.length_take]; omega
  rw [e, List.append_assoc, ← hl, List.drop_left, be8s_drop ns j h, List.append_assoc]

theorem txs_off (p : List UInt8) (ls : List (List UInt8)) (j : Nat) (h : j < ls.length) : (p ++ txs ls).drop (p.length + (txs (ls.take j)).length) = be8 ls[j].length ++ ls[j] ++ txs (ls.drop (j + 1)) := by
  have e : txs ls = txs (ls.take j) ++ txs (ls.drop j) := by
    unfold txs
    rw [← List.flatMap_append, List.take_append_drop]
  rw [e, ← List.append_assoc, ← List.length_append, List.drop_left, txs_drop ls j h]

end Go.Proofs.Ytchfecoipclomaa
