/- pack.Bytes: texts behind bytes, each behind its length. -/
import Derived.Test.YtkipejhjpfakpaaPk2
namespace Go.Proofs.Ytkipejhjpfakpaa
open Go.RowKit

/-- Texts, each behind its length. -/
def txs (ls : List (List UInt8)) : List UInt8 := ls.flatMap fun l => be8 l.length ++ l

theorem txs_at (ls : List (List UInt8)) (j : Nat) (h : j < ls.length) : txs (ls.take (j + 1)) = txs (ls.take j) ++ be8 ls[j].length ++ ls[j] := by
  unfold txs
  rw [List.take_add_one, List.getElem?_eq_getElem h, List.flatMap_append]
  simp only [Option.toList, List.flatMap_cons, List.flatMap_nil, List.append_nil, List.append_assoc]

/-- How long all lists are together. -/
def total (ls : List (List UInt8)) : Nat := (ls.map List.length).sum

theorem txs_len (ls : List (List UInt8)) : (txs ls).length = 8 * ls.length + total ls := by
  induction ls with
  | nil => rfl
  | cons l ls ih =>
    simp only [txs, total, List.flatMap_cons, List.length_append, be8_len, List.length_cons, List.map_cons, List.sum_cons] at *
    omega

theorem total_take_le (ls : List (List UInt8)) (j : Nat) (h : j < ls.length) : total (ls.take j) + ls[j].length ≤ total ls := by
  unfold total
  have e : ls = ls.take j ++ ls[j] :: ls.drop (j + 1) := by
    rw [← List.drop_eq_getElem_cons h, List.take_append_drop]
  conv => rhs; rw [e]
  rw [List.map_append, List.sum_append, List.map_cons, List.sum_cons]
  omega

set_option maxHeartbeats 1000000 in
set_option maxRecDepth 100000 in
theorem packBytes_sl (vb : Value) (bs : List UInt8) (al : Option Addr) (cl : Nat) (ls : List (List UInt8)) (w : World) (hb : Sl w vb (u8s bs)) (hls : Sls w (.slice al ls.length cl) ls)
    (hr : bs.length + 8 * ls.length + total ls ≤ 140737488355328) :
    Calls Try.prog 48 #[vb, .slice al ls.length cl] w fun e w' =>
      ∃ v, e = .returned v ∧ w'.ownsRow w.heap.size 5 1 v (bs ++ txs ls).length (u8s (bs ++ txs ls)) ∧ Below w.heap.size w w' := by
  obtain ⟨i, hi, hz0, hz1, hz2⟩ := info_parts info_u8
  have hls' := Lib.hid hls
  clear hls
  have hr' := Lib.hid hr
  have hlen : ls.length ≤ 9223372036854775807 := by omega
  go_enter Try.func48, Try.ntmps48
  go_wp2_with fail
  refine (clone_any vb bs w hb (by omega)).mono ?_
  rintro e w1 ⟨v1, rfl, hown, hbel, -⟩
  clear hb
  go_wp2_with fail
  go_loopw [5, 12] (fun v kv wr => ∃ j : Nat, j ≤ ls.length ∧ kv = .int .i64 j ∧ Below w.heap.size w wr ∧ wr.ownsRow w.heap.size 5 1 v (bs ++ txs (ls.take j)).length (u8s (bs ++ txs (ls.take j)))) (fun _ kv _ => ls.length - (intOf kv).toNat)
  case atStart => exact ⟨0, Nat.zero_le _, rfl, hbel, by simpa [txs] using hown⟩
  case round =>
    obtain ⟨j, hj, rfl, hbr, hor⟩ := hrel
    clear hbel hown
    by_cases hlt : j < ls.length
    · obtain ⟨b, o, x, c, rfl, hcell, hsl⟩ := (hls'.out.below hbr).at hlt
      have hsl' := Lib.hid hsl
      clear hsl
      have hsz : w.heap.size ≤ wr.heap.size := hbr.size
      have hT := total_take_le ls j hlt
      have hT1 : (bs ++ txs (ls.take j)).length + 8 + ls[j].length ≤ 140737488355328 := by
        have := hr'.out
        simp only [List.length_append, txs_len, List.length_take]; omega
      have hT2 := Lib.hid hT1
      have hor' := Lib.hid hor
      clear hT hT1 hr hor
      go_wp2_with fail
      refine (packInt_any u5 _ (bs ++ txs (ls.take j)) [(ls[j].length : Int)] _ ((Sl.of_own hor'.out).alloc _) (Sl.new1 _ _ _) (by have := hT2.out; simp only [List.length_cons, List.length_nil]; omega)).mono ?_
      rintro e w2 ⟨v2, rfl, hown2, hbel2⟩
      have hb3 : Below w.heap.size w w2 := (hbr.alloc hsz _).trans (hbel2.mono (by simp; omega))
      have hsl3 := Lib.hid ((hsl'.out.alloc _).below hbel2)
      have hown3 := Lib.hid (own_mono hown2 (show w.heap.size ≤ _ by simp; omega))
      have hsz3 : w.heap.size ≤ w2.heap.size := hb3.size
      clear hown2 hbel2 hcell hor' hsl'
      go_wp2_with (at_builtin; refine wpList_append_sl rfl _ _ 23 rfl w.heap.size 5 Try.underlying23 hi hz0 hz1 hz2 rfl _ _ _ rfl hown3.out _ (u8s ls[j]) rfl hsl3.out (u8s_one _) ?c2 ?c3 hsz3 ?_)
      case c2 => have := hT2.out; unfold maxLen; simp [be8s, be8_len, u8s_len] at *; omega
      case c3 => have := hT2.out; simp [be8s, be8_len, u8s_len] at *; omega
      intro v' w4 hown4 hg4
      have hb4 := below_grown hb3 hown3.out hsz3 hg4
      clear hb3
      go_wp2
      go_roundw
      case rel =>
        refine ⟨j + 1, by omega, by go_num, hb4, ?_⟩
        rw [txs_at ls j hlt]
        have e : bs ++ (txs (ls.take j) ++ be8 ls[j].length ++ ls[j]) = bs ++ txs (ls.take j) ++ be8s [(ls[j].length : Int)] ++ ls[j] := by simp [be8s]
        rw [e, u8s_append _ ls[j], List.length_append]
        rw [u8s_len ls[j]] at hown4
        have e2 := hown4
        simp only [List.append_assoc, List.length_append, Nat.add_assoc] at e2 ⊢
        exact e2
      case measure => simp [intOf]; omega
    · have hj' : j = ls.length := by omega
      subst hj'
      rw [List.take_of_length_le (Nat.le_refl _)] at hor
      go_wp2
      go_ret
      exact ⟨_, rfl, hor, hbr⟩

theorem packBytes_any (vb vl : Value) (bs : List UInt8) (ls : List (List UInt8)) (w : World) (hb : Sl w vb (u8s bs)) (hls : Sls w vl ls)
    (hr : bs.length + 8 * ls.length + total ls ≤ 140737488355328) :
    Calls Try.prog 48 #[vb, vl] w fun e w' =>
      ∃ v, e = .returned v ∧ w'.ownsRow w.heap.size 5 1 v (bs ++ txs ls).length (u8s (bs ++ txs ls)) ∧ Below w.heap.size w w' := by
  obtain ⟨vs, ⟨a, cap, rfl, h⟩, h2, h3⟩ := id hls
  rw [h2] at hls ⊢
  exact packBytes_sl vb bs a cap ls w hb hls hr

end Go.Proofs.Ytkipejhjpfakpaa
