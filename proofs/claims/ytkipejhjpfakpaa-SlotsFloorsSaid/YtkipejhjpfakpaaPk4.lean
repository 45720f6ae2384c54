/- The reference's Int and One: numbers behind bytes. -/
import Derived.Test.YtkipejhjpfakpaaPk3
namespace Go.Proofs.Ytkipejhjpfakpaa
open Go.RowKit

/-- A store into one's own block: the cell holds it, the others are as they were. -/
theorem cell_set {w : World} {g o j : Nat} {u u0 : Value} (h : w.cell? ⟨g, o, none⟩ = some u0) : (w.setCell ⟨g, o, none⟩ u).cell? ⟨g, j, none⟩ = if j = o then some u else w.cell? ⟨g, j, none⟩ := by
  by_cases hj : j = o
  · subst hj; rw [if_pos rfl, World.cell?_setCell_same _ _ _ h]
  · rw [if_neg hj, World.cell?_setCell_other _ _ _ _ (fun e => hj (by cases e; rfl))]

theorem bits_and_255 (n : Int) : bits .and .i64 n 255 = n % 256 := by
  unfold bits
  simp only [BitVec.toNat_and]
  have e : (BitVec.ofInt IntKind.i64.bits 255).toNat = 255 := by decide
  rw [e]
  have e2 : (BitVec.ofInt IntKind.i64.bits n).toNat = (n % 18446744073709551616).toNat := by simp [IntKind.bits]
  rw [e2, show (255 : Nat) = 2 ^ 8 - 1 from rfl, Nat.and_two_pow_sub_one_eq_mod _ 8]
  have h0 : 0 ≤ n % 18446744073709551616 := by omega
  rw [IntWalk.i64_in _ (by omega)]
  omega

/-- The byte that is written into place 7 - k. -/
theorem be8_low (N : Int) (k : Nat) (hk : k < 8) : bits .and .i64 (N / 2 ^ (8 * k)) 255 % 256 = (((be8 N).getD (7 - k) 0).toNat : Int) := by
  rw [bits_and_255]
  have hl : 7 - k < (be8 N).length := by rw [be8_len]; omega
  have e : (be8 N).getD (7 - k) 0 = (be8 N)[7 - k] := by simp [List.getD, List.getElem?_eq_getElem hl]
  rw [e]
  simp only [be8, List.getElem_map, List.getElem_range]
  rw [show 7 - (7 - k) = k by omega]
  have h0 : 0 ≤ N % 18446744073709551616 := by omega
  have e3 : (UInt8.ofNat ((N % 18446744073709551616).toNat / 2 ^ (8 * k) % 256)).toNat = (N % 18446744073709551616).toNat / 2 ^ (8 * k) % 256 := by simp
  rw [e3]
  have hkk : k = 0 ∨ k = 1 ∨ k = 2 ∨ k = 3 ∨ k = 4 ∨ k = 5 ∨ k = 6 ∨ k = 7 := by omega
  rcases hkk with rfl | rfl | rfl | rfl | rfl | rfl | rfl | rfl <;> simp only [Nat.reduceMul, Nat.reducePow, Int.reducePow, Nat.mul_zero, Nat.pow_zero, Int.pow_zero] <;> omega

/-- The array of eight bytes when the last k are written. -/
def XAt (w : World) (g : Nat) (N : Int) (k : Nat) : Prop := ∀ m, m < 8 → w.cell? ⟨g, m, none⟩ = some (.int .u8 (if 8 - k ≤ m then (((be8 N).getD m 0).toNat : Int) else 0)) ∧ w.frozen? ⟨g, m, none⟩ = false

theorem XAt.start (w : World) (N : Int) : XAt (w.alloc (.cells #[.int .u8 0, .int .u8 0, .int .u8 0, .int .u8 0, .int .u8 0, .int .u8 0, .int .u8 0, .int .u8 0] 85)) w.heap.size N 0 := by
  intro m hm
  refine ⟨?_, World.frozen?_alloc_at _ _ _ _ rfl⟩
  rw [if_neg (by omega), World.cell?_alloc_at _ _ _ _ rfl]
  have hkk : m = 0 ∨ m = 1 ∨ m = 2 ∨ m = 3 ∨ m = 4 ∨ m = 5 ∨ m = 6 ∨ m = 7 := by omega
  rcases hkk with rfl | rfl | rfl | rfl | rfl | rfl | rfl | rfl <;> rfl

theorem XAt.step {w : World} {g : Nat} {N : Int} {k : Nat} (h : XAt w g N k) (hk : k < 8) :
    XAt (w.setCell ⟨g, 7 - k, none⟩ (.int .u8 (bits .and .i64 (N / 2 ^ (8 * k)) 255 % 256))) g N (k + 1) := by
  intro m hm
  obtain ⟨h1, h2⟩ := h (7 - k) (by omega)
  obtain ⟨h3, h4⟩ := h m hm
  refine ⟨?_, (World.frozen?_setCell _ _ _ _).trans h4⟩
  rw [cell_set h1]
  split
  · rename_i e
    subst e
    rw [if_pos (by omega), be8_low N k hk]
  · rename_i e
    rw [h3]
    by_cases h5 : 8 - k ≤ m
    · rw [if_pos h5, if_pos (by omega)]
    · rw [if_neg h5, if_neg (by omega)]

theorem XAt.done {w : World} {g : Nat} {N : Int} (h : XAt w g N 8) : Sl w (.slice (some ⟨g, 0, none⟩) 8 8) (u8s (be8 N)) := by
  refine ⟨some ⟨g, 0, none⟩, 8, by rw [u8s_len, be8_len], by rw [u8s_len, be8_len]; decide, by decide, fun h => (by cases h), fun x hx => ?_⟩
  cases hx
  intro j u hu
  have hj : j < 8 := by
    have := (List.getElem?_eq_some_iff.1 hu).1
    rwa [u8s_len, be8_len] at this
  have hl : j < (be8 N).length := by rw [be8_len]; exact hj
  have h1 := (h j hj).1
  rw [if_pos (by omega)] at h1
  rw [Addr.add_lit, Nat.zero_add, h1]
  rw [u8s_get _ _ hl] at hu
  simpa [List.getD, List.getElem?_eq_getElem hl] using hu

theorem shr8 (N : Int) (k : Nat) : N / 2 ^ (8 * k) / 256 = N / 2 ^ (8 * (k + 1)) := by
  rw [Int.ediv_ediv_of_nonneg (Int.pow_nonneg (by decide)), show 8 * (k + 1) = 8 * k + 8 by omega, Int.pow_add]
  rfl

set_option maxHeartbeats 1000000 in
set_option maxRecDepth 100000 in
theorem refInt_sl (vb : Value) (bs : List UInt8) (an : Option Addr) (cn : Nat) (ns : List Int) (w : World) (hb : Sl w vb (u8s bs)) (hn : Sl w (.slice an ns.length cn) (ns.map (.int .i64)))
    (hr : bs.length + 8 * ns.length ≤ 140737488355328) :
    Calls Try.prog 50 #[vb, .slice an ns.length cn] w fun e w' =>
      ∃ v, e = .returned v ∧ w'.ownsRow w.heap.size 5 1 v (bs ++ be8s ns).length (u8s (bs ++ be8s ns)) ∧ Below w.heap.size w w' := by
  obtain ⟨i, hi, hz0, hz1, hz2⟩ := info_parts info_u8
  have hn' := Lib.hid hn
  have hb' := Lib.hid hb
  have hr' := Lib.hid hr
  have hlen : ns.length ≤ 9223372036854775807 := by omega
  clear hn hb hr
  go_enter Try.func50, Try.ntmps50
  go_wp2_with (at_builtin; refine wpList_append_sl rfl _ _ 23 rfl w.heap.size 5 Try.underlying23 hi hz0 hz1 hz2 rfl _ 0 [] rfl (World.ownsRow_nil _ _ _ _) _ (u8s bs) rfl hb'.out (u8s_one _) ?c2 ?c3 (Nat.le_refl _) ?_)
  case c2 => have := hr'.out; unfold maxLen; rw [u8s_len]; omega
  case c3 => have := hr'.out; rw [u8s_len]; omega
  intro v1 w1 hown hg
  have hbel : Below w.heap.size w w1 := (Below.refl _ _).grown hg (Nat.le_refl _) (fun k hk => by simp [Value.ownBlock] at hk)
  have hown : w1.ownsRow w.heap.size 5 1 v1 bs.length (u8s bs) := by simpa [u8s_len] using hown
  clear hg
  go_wp2_with fail
  go_loopw [5, 6] (fun v kv wr => ∃ j : Nat, j ≤ ns.length ∧ kv = .int .i64 j ∧ Below w.heap.size w wr ∧ wr.ownsRow w.heap.size 5 1 v (bs ++ be8s (ns.take j)).length (u8s (bs ++ be8s (ns.take j)))) (fun _ kv _ => ns.length - (intOf kv).toNat)
  case atStart => exact ⟨0, Nat.zero_le _, rfl, hbel, by simpa [be8s] using hown⟩
  case round =>
    obtain ⟨j, hj, rfl, hbr, hor⟩ := hrel
    clear hbel hown
    by_cases hlt : j < ns.length
    · obtain ⟨b, o, rfl, -, -, hcap, hcs⟩ := (hn'.out.below hbr).at (by simp; omega)
      have hcell := hcs j (.int .i64 ns[j]) (by simp [List.getElem?_eq_getElem hlt])
      clear hcs
      obtain ⟨wo, rfl⟩ : ∃ wo : World, wo = wr := ⟨_, rfl⟩
      have hor' := Lib.hid hor
      clear hor
      go_wp2_with fail
      go_loopw [7, 9] (fun nv kv wr => ∃ k : Nat, k ≤ 8 ∧ kv = .int .i64 (7 - (k : Int)) ∧ nv = .int .i64 (ns[j] / 2 ^ (8 * k)) ∧ Below wo.heap.size wo wr ∧ wo.heap.size < wr.heap.size ∧ XAt wr wo.heap.size ns[j] k) (fun _ kv _ => (intOf kv + 1).toNat)
      case atStart => exact ⟨0, Nat.zero_le _, rfl, by simp, below_alloc _ _, by simp, XAt.start _ _⟩
      case round =>
        obtain ⟨k, hk, rfl, rfl, hbi, hsi, hx⟩ := hrel
        by_cases hk8 : k < 8
        · have h1 : (0 : Int) ≤ 7 - (k : Int) := by omega
          have hx7 := hx (7 - k) (by omega)
          rw [if_neg (by omega)] at hx7
          obtain ⟨hx1, hx2⟩ := hx7
          go_wp2_with fail
          refine ⟨⟨k + 1, by omega, by congr 1; omega, by rw [shr8], hbi.setCell (Nat.le_refl _) _, by simpa using hsi, hx.step hk8⟩, by simp [intOf]; omega⟩
        · have hk : k = 8 := by omega
          subst hk
          have hX := Lib.hid hx.done
          have hT1 : (bs ++ be8s (ns.take j)).length + 8 ≤ 140737488355328 := by
            have := hr'.out
            simp only [List.length_append, be8s_len, List.length_take]; omega
          have hT2 := Lib.hid hT1
          have hor2 := Lib.hid (own_below hor'.out hbi)
          have hsz : w.heap.size ≤ wr.heap.size := Nat.le_trans hbr.size hbi.size
          have hb3 : Below w.heap.size w wr := hbr.trans (hbi.mono hbr.size)
          clear hT1 hx hor' hbi
          go_wp2_with (at_builtin; refine wpList_append_sl rfl _ _ 23 rfl w.heap.size 5 Try.underlying23 hi hz0 hz1 hz2 rfl _ _ _ rfl hor2.out _ (u8s (be8 ns[j])) rfl hX.out (u8s_one _) ?c2 ?c3 hsz ?_)
          case c2 => have := hT2.out; unfold maxLen; simp [be8_len, u8s_len] at *; omega
          case c3 => have := hT2.out; simp [be8_len, u8s_len] at *; omega
          intro v' w4 hown4 hg4
          have hb4 := below_grown hb3 hor2.out hsz hg4
          clear hb3 hbr hg4
          go_wp2
          go_roundw
          case rel =>
            refine ⟨j + 1, by omega, by go_num, hb4, ?_⟩
            rw [be8s_at ns j hlt, ← List.append_assoc, u8s_append _ (be8 ns[j]), List.length_append]
            rw [u8s_len] at hown4
            simp only [List.length_append] at hown4 ⊢
            exact hown4
          case measure => simp [intOf]; omega
    · have hj' : j = ns.length := by omega
      subst hj'
      rw [List.take_of_length_le (Nat.le_refl _)] at hor
      go_wp2
      go_ret
      exact ⟨_, rfl, hor, hbr⟩

theorem refInt_any (vb vn : Value) (bs : List UInt8) (ns : List Int) (w : World) (hb : Sl w vb (u8s bs)) (hn : Sl w vn (ns.map (.int .i64)))
    (hr : bs.length + 8 * ns.length ≤ 140737488355328) :
    Calls Try.prog 50 #[vb, vn] w fun e w' =>
      ∃ v, e = .returned v ∧ w'.ownsRow w.heap.size 5 1 v (bs ++ be8s ns).length (u8s (bs ++ be8s ns)) ∧ Below w.heap.size w w' := by
  obtain ⟨a, cap, rfl, h⟩ := id hn
  rw [List.length_map] at *
  exact refInt_sl vb bs a cap ns w hb hn hr

theorem refOne_any (n : Int) (w : World) :
    Calls Try.prog 66 #[.int .i64 n] w fun e w' =>
      ∃ v, e = .returned v ∧ w'.ownsRow w.heap.size 5 1 v 8 (u8s (be8 n)) ∧ Below w.heap.size w w' := by
  go_enter Try.func66, Try.ntmps66
  go_wp2_with fail
  refine (refInt_any _ _ [] [n] _ (Sl.nil _) (Sl.new1 _ _ _) (by simp)).mono ?_
  rintro e w2 ⟨v2, rfl, hown2, hbel2⟩
  have hb3 : Below w.heap.size w w2 := (below_alloc _ _).trans (hbel2.mono (by simp))
  have hown3 : w2.ownsRow w.heap.size 5 1 v2 8 (u8s (be8 n)) := own_mono (by simpa [be8s, be8_len] using hown2) (by simp)
  clear hown2 hbel2
  go_wp2
  go_ret
  exact ⟨_, rfl, hown3, hb3⟩

end Go.Proofs.Ytkipejhjpfakpaa
