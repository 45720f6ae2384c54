/- slots: the law SlotsReads, walked. -/
import Derived.Test.YtkipejhjpfakpaaSt18
namespace Go.Proofs.Ytkipejhjpfakpaa
open Go.RowKit

theorem readS_fit (b : List UInt8) : StFit (readS b).1 := by
  unfold readS
  split
  · rename_i h
    exact mayP_fit (pack_may h.2).1
  · exact ⟨Nat.zero_le _, Nat.zero_le _, Nat.zero_le _⟩

set_option maxHeartbeats 4000000 in
set_option maxRecDepth 100000 in
theorem slotsReads_walk (a : Option Addr) (cap : Nat) (b : List UInt8) (w : World) (h : Sl w (.slice a b.length cap) (u8s b)) :
    Calls Try.prog 5 #[.slice a b.length cap] w fun e w' => e = .returned (.bool true) ∧ Below w.heap.size w w' := by
  have hs := Lib.hid h
  clear h
  have hone : ∀ (B : Nat) (w : World) (S : Stt) (v : Sv), StOwn B w S v → ∀ u ∈ S.cs v, u.oneCell' = true := fun B w S v ho => ho.ok.one
  go_enter Try.func5, Try.ntmps5
  go_wp2_with fail
  refine (alive_any _).mono ?_
  rintro e w1 ⟨rfl, hb⟩
  have kb := hb
  clear hb
  by_cases hl : 3000 < b.length
  · have dl : decide ((3000 : Int) < (b.length : Int)) = true := decide_eq_true (by omega)
    go_wp2_with fail
    go_ret
    exact ⟨rfl, kb⟩
  · have dl : decide ((3000 : Int) < (b.length : Int)) = false := decide_eq_false (by omega)
    obtain ⟨ti, hti, htz0, htz1, htz2⟩ := info_parts info_u8
    have hs1 := Lib.hid (hs.out.below kb)
    have c2 : 0 + (u8s b).length ≤ maxLen := by rw [u8s_len]; unfold maxLen; omega
    have c3 : (0 + (u8s b).length) * 1 ≤ 140737488355328 := by rw [u8s_len]; omega
    have c2 := Lib.hid c2
    have c3 := Lib.hid c3
    go_wp2_with (at_builtin; refine wpList_append_sl rfl _ _ 23 rfl w1.heap.size 5 Try.underlying23 hti htz0 htz1 htz2 rfl _ 0 [] rfl (World.ownsRow_nil _ _ _ _) _ (u8s b) rfl hs1.out (u8s_one _) c2.out c3.out (Nat.le_refl _) ?_)
    intro v' w2 own hg
    have hb := below_nil hg
    rw [u8s_len] at own
    have sx := Lib.hid (Sl.of_own own)
    have kb := bel kb hb
    clear hb hg own hs1 c2 c3
    have hlr : Hid (b.length ≤ 100000) := Lib.hid (by omega)
    obtain ⟨⟨R, rc⟩, hR⟩ : ∃ p, readS b = p := ⟨_, rfl⟩
    have hf := readS_fit b
    rw [hR] at hf
    have hf := Lib.hid hf
    have hR := Lib.hid hR
    go_wp2_with fail
    refine (read_any _ b _ sx.out hlr.out).mono ?_
    rw [hR.out]
    rintro e w3 ⟨v3, rfl, o3, hb⟩
    have kb := bel kb hb
    have o3 := Lib.hid o3
    clear hb
    simp only at o3 ⊢
    go_upto_region 5 with (first | (refine wpl_storeG rfl _ _ _ rfl _ _ rfl rfl _ (Arr.new _ _ _) (by kernel_rfl) rfl o3.out.ok.one (fun W4 k4 hg hsz => ?_)))
    have hb := below_new hg
    have kb := bel kb hb
    have o4 := Lib.hid (o3.out.below hb)
    clear hg hsz hb o3
    obtain ⟨g4, hg4⟩ : ∃ g, w3.heap.size = g := ⟨_, rfl⟩
    rw [hg4] at k4 ⊢
    clear hg4
    go_wp2_with fail
    refine (readState_any _ b _ (hs.out.below kb) hlr.out).mono ?_
    rw [hR.out]
    rintro e w5 ⟨v5, rfl, o5, hb⟩
    have kb := bel kb hb
    have k4 := k4.below hb
    have o4 := Lib.hid (o4.out.below hb)
    have o5 := Lib.hid o5
    clear hb
    simp only at o5 ⊢
    go_upto_region 6 with (first | (refine wpl_storeG rfl _ _ _ rfl _ _ rfl rfl _ (Arr.new _ _ _) (by kernel_rfl) rfl o5.out.ok.one (fun W6 k6 hg hsz => ?_)))
    have hb := below_new hg
    have kb := bel kb hb
    have k4 := k4.below hb
    have o4 := Lib.hid (o4.out.below hb)
    have o5 := Lib.hid (o5.out.below hb)
    clear hg hsz hb
    obtain ⟨g6, hg6⟩ : ∃ g, w5.heap.size = g := ⟨_, rfl⟩
    rw [hg6] at k6 ⊢
    clear hg6
    go_wp2_with fail
    refine (num_any _ _).mono ?_
    rintro e w7 ⟨rfl, hw⟩
    rw [hw]
    clear hw w7
    go_wp2_with (first | (refine wpList_load_arr2 rfl _ _ rfl _ rfl (by decide +kernel) _ (by assumption) (by first | (rw [lims_len]; kernel_rfl) | (rw [el_rep]; kernel_rfl) | (rw [el_len]; kernel_rfl) | (rw [byts_len]; kernel_rfl) | (rw [us_len]; kernel_rfl) | (rw [bytn_len]; kernel_rfl) | (rw [ens_len, digs_len]; kernel_rfl) | kernel_rfl) ?_) | fail)
    refine (sameState_any R _ _ _ o4.out.ok o5.out.ok hf.out).mono ?_
    rintro e w8 ⟨rfl, hb⟩
    have kb := bel kb hb
    clear hb
    go_wp2_with fail
    go_ret
    exact ⟨rfl, kb⟩

end Go.Proofs.Ytkipejhjpfakpaa
