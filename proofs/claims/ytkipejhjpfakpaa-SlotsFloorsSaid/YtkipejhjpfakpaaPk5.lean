/- The reference's Bytes: texts behind bytes, each behind its length. -/
import Derived.Test.YtkipejhjpfakpaaPk4
import Derived.Deep.RegionHeld3
namespace Go.Proofs.Ytkipejhjpfakpaa
open Go.RowKit

set_option maxHeartbeats 2000000 in
set_option maxRecDepth 100000 in
theorem refBytes_sl (vb : Value) (bs : List UInt8) (al : Option Addr) (cl : Nat) (ls : List (List UInt8)) (w : World) (hb : Sl w vb (u8s bs)) (hls : Sls w (.slice al ls.length cl) ls)
    (hr : bs.length + 8 * ls.length + total ls ≤ 140737488355328) :
    Calls Try.prog 51 #[vb, .slice al ls.length cl] w fun e w' =>
      ∃ v, e = .returned v ∧ w'.ownsRow w.heap.size 5 1 v (bs ++ txs ls).length (u8s (bs ++ txs ls)) ∧ Below w.heap.size w w' := by
  obtain ⟨i, hi, hz0, hz1, hz2⟩ := info_parts info_u8
  have hls' := Lib.hid hls
  have hb' := Lib.hid hb
  have hr' := Lib.hid hr
  have hlen : ls.length ≤ 9223372036854775807 := by omega
  clear hls hb hr
  go_enter Try.func51, Try.ntmps51
  go_wp2_with (at_builtin; refine wpList_append_sl rfl _ _ 23 rfl w.heap.size 5 Try.underlying23 hi hz0 hz1 hz2 rfl _ 0 [] rfl (World.ownsRow_nil _ _ _ _) _ (u8s bs) rfl hb'.out (u8s_one _) ?c2 ?c3 (Nat.le_refl _) ?_)
  case c2 => have := hr'.out; unfold maxLen; rw [u8s_len]; omega
  case c3 => have := hr'.out; rw [u8s_len]; omega
  intro v1 w1 hown hg
  have hbel : Below w.heap.size w w1 := (Below.refl _ _).grown hg (Nat.le_refl _) (fun k hk => by simp [Value.ownBlock] at hk)
  have hown : w1.ownsRow w.heap.size 5 1 v1 bs.length (u8s bs) := by simpa [u8s_len] using hown
  clear hg
  go_wp2_with fail
  go_loopw [5, 6] (fun v kv wr => ∃ j : Nat, j ≤ ls.length ∧ kv = .int .i64 j ∧ Below w.heap.size w wr ∧ wr.ownsRow w.heap.size 5 1 v (bs ++ txs (ls.take j)).length (u8s (bs ++ txs (ls.take j)))) (fun _ kv _ => ls.length - (intOf kv).toNat)
  case atStart => exact ⟨0, Nat.zero_le _, rfl, hbel, by simpa [txs] using hown⟩
  case round =>
    obtain ⟨j, hj, rfl, hbr, hor⟩ := hrel
    clear hbel hown
    by_cases hlt : j < ls.length
    · obtain ⟨b, o, x, c, rfl, hcell0, hsl0⟩ := hls'.out.at hlt
      have hblk0 : b < w.heap.size := World.block_lt_of_cell? w _ hcell0
      have hcell : wr.cell? ⟨b, o + j, none⟩ = some (.slice x ls[j].length c) := by rw [hbr.cell (p := ⟨b, o + j, none⟩) hblk0]; exact hcell0
      have hsl' := Lib.hid hsl0
      clear hsl0 hcell0
      have hsz : w.heap.size ≤ wr.heap.size := hbr.size
      have hblk : b < wr.heap.size := by omega
      have a1 : Hid ((bs ++ txs (ls.take j)).length + 8 ≤ maxLen) := by
        have := hr'.out; have := total_take_le ls j hlt
        show _ ≤ _
        unfold maxLen; simp only [List.length_append, txs_len, List.length_take]; omega
      have a2 : Hid (((bs ++ txs (ls.take j)).length + 8) * 1 ≤ 140737488355328) := by
        have := hr'.out; have := total_take_le ls j hlt
        show _ ≤ _
        simp only [List.length_append, txs_len, List.length_take]; omega
      have a3 : Hid ((bs ++ txs (ls.take j)).length + 8 + ls[j].length ≤ maxLen) := by
        have := hr'.out; have := total_take_le ls j hlt
        show _ ≤ _
        unfold maxLen; simp only [List.length_append, txs_len, List.length_take]; omega
      have a4 : Hid (((bs ++ txs (ls.take j)).length + 8 + ls[j].length) * 1 ≤ 140737488355328) := by
        have := hr'.out; have := total_take_le ls j hlt
        show _ ≤ _
        simp only [List.length_append, txs_len, List.length_take]; omega
      have hor' := Lib.hid hor
      have hbr' := Lib.hid hbr
      clear hor hbr
      have hj0 : (0 : Int) ≤ (j : Int) := by omega
      have hj1 : (j : Int) < (ls.length : Int) := by omega
      go_wp2_with fail
      have hne : some b ≠ u5.ownBlock := fun e => by have := own_block hor'.out b e.symm; omega
      go_region_held3 (fun w' => w'.cell? ⟨b, o + j, none⟩ = some (.slice x ls[j].length c))
        (first | go_keep | (rw [hbel2.cell (p := ⟨b, o + j, none⟩) hblk]; assumption) | (exact hg3.cell (by assumption) hne) | (exact hg4.cell (by assumption) (fun e => by have := own_block hown3 b e.symm; omega)))
        ((first | (go_at_call 66; refine (refOne_any _ _).mono ?_; rintro e w2 ⟨v2, rfl, hown2, hbel2⟩) | (refine step_append_sl (by rfl) (.tmp 15) (.tmp 21) 23 (by rfl) w.heap.size 5 Try.underlying23 hi hz0 hz1 hz2 rfl u5 _ _ (by rfl) (own_below (w := wr.drew) hor'.out hbel2) v2 (u8s (be8 ls[j].length)) (by rfl) (Sl.of_own hown2) (u8s_one _) (by rw [u8s_len, be8_len]; exact a1.out) (by rw [u8s_len, be8_len]; exact a2.out) (Nat.le_trans hsz hbel2.size) ?_; intro v3 w3 hown3 hg3) | (refine step_append_sl (by rfl) (.tmp 22) (.tmp 26) 23 (by rfl) w.heap.size 5 Try.underlying23 hi hz0 hz1 hz2 rfl v3 _ _ (by rfl) hown3 (.slice x ls[j].length c) (u8s ls[j]) (by rfl) (hsl'.out.below (((hbr'.out.drew.trans (hbel2.mono hsz)).grown hg3 (Nat.le_trans hsz hbel2.size) (own_block (own_below (w := wr.drew) hor'.out hbel2))))) (u8s_one _) (by rw [u8s_len, u8s_len, be8_len]; exact a3.out) (by rw [u8s_len, u8s_len, be8_len]; exact a4.out) (Nat.le_trans hsz (Nat.le_trans hbel2.size hg3.size)) ?_; intro v4 w4 hown4 hg4)))
      have hb3 : Below w.heap.size w w3 := below_grown (hbr'.out.drew.trans (hbel2.mono hsz)) (own_below (w := wr.drew) hor'.out hbel2) (Nat.le_trans hsz hbel2.size) hg3
      have hb4 : Below w.heap.size w w4 := below_grown hb3 hown3 (Nat.le_trans hsz (Nat.le_trans hbel2.size hg3.size)) hg4
      clear hb3 hg3 hg4 hown3 hbel2 hown2 hcell
      go_wp2
      go_roundw
      case rel =>
        refine ⟨j + 1, by omega, by go_num, hb4, ?_⟩
        rw [txs_at ls j hlt, ← List.append_assoc, ← List.append_assoc, u8s_append _ ls[j], u8s_append _ (be8 _)]
        simp only [u8s_len, be8_len] at hown4
        simp only [List.length_append, be8_len] at hown4 ⊢
        exact hown4
      case measure => simp [intOf]; omega
    · have hj' : j = ls.length := by omega
      subst hj'
      rw [List.take_of_length_le (Nat.le_refl _)] at hor
      go_wp2
      go_ret
      exact ⟨_, rfl, hor, hbr⟩

theorem refBytes_any (vb vl : Value) (bs : List UInt8) (ls : List (List UInt8)) (w : World) (hb : Sl w vb (u8s bs)) (hls : Sls w vl ls)
    (hr : bs.length + 8 * ls.length + total ls ≤ 140737488355328) :
    Calls Try.prog 51 #[vb, vl] w fun e w' =>
      ∃ v, e = .returned v ∧ w'.ownsRow w.heap.size 5 1 v (bs ++ txs ls).length (u8s (bs ++ txs ls)) ∧ Below w.heap.size w w' := by
  obtain ⟨vs, ⟨a, cap, rfl, h⟩, h2, h3⟩ := id hls
  rw [h2] at hls ⊢
  exact refBytes_sl vb bs a cap ls w hb hls hr

end Go.Proofs.Ytkipejhjpfakpaa
