/- slots: the law SlotsPacks, walked. -/
import Derived.Test.YtkipejhjpfakpaaSt18
import Derived.Test.YtkipejhjpfakpaaInS
namespace Go.Proofs.Ytkipejhjpfakpaa
open Go.RowKit

theorem mayP_m {m : List UInt8} {d : Bool} {t : Int} (h : slotB m d t = true) : m.length ≤ 300 := by
  unfold slotB at h
  split at h
  · omega
  · simp only [Bool.and_eq_true, decide_eq_true_eq] at h
    omega
theorem packL_len {S : Stt} (h : mayP S) : (packL S).length ≤ 932 := by
  have h0 := mayP_m h.s0
  have h1 := mayP_m h.s1
  have h2 := h.len
  have e : ∀ m : List UInt8, (txs [m]).length = 8 + m.length := fun m => by simp [txs, be8_len]
  simp only [packL, List.length_append, be8s_len, e, List.length_cons, List.length_nil]
  have : hd4.length = 4 := rfl
  omega
theorem packS_cases (S : Stt) : (mayB S = true ∧ packS S = (packL S, 0) ∧ mayP S) ∨ (mayB S = false ∧ packS S = ([], 1)) := by
  unfold packS
  cases hm : mayB S with
  | false => exact .inr ⟨rfl, rfl⟩
  | true => exact .inl ⟨rfl, rfl, (mayB_iff S).1 hm⟩

set_option maxHeartbeats 4000000 in
set_option maxRecDepth 100000 in
theorem slotsPacks_walk (S : Stt) (v : Sv) (w : World) (h : StOk w S v) (_ : StWf S) :
    Calls Try.prog 4 #[.agg (S.cs v).toArray] w fun e w' => e = .returned (.bool true) ∧ Below w.heap.size w w' := by
  have ho := Lib.hid h
  clear h
  go_enter Try.func4, Try.ntmps4
  go_upto_region 1 with fail
  refine wp_new1 (fun W hsz k1 kb => ?_)
  have k1 : Arr W w.heap.size (S.cs v) := k1
  obtain ⟨G, hG⟩ : ∃ G, w.heap.size = G := ⟨_, rfl⟩
  rw [hG] at k1 hsz ⊢
  replace hG := Lib.hid hG
  clear hsz
  go_wp2_with fail
  refine (alive_any _).mono ?_
  rintro e w1 ⟨rfl, hb⟩
  have k1 := k1.below hb
  have kb := bel kb hb
  clear hb
  go_wp2_with (first | (refine wpList_load_arr2 rfl _ _ rfl _ rfl (by decide +kernel) _ (by assumption) (by first | (rw [lims_len]; kernel_rfl) | (rw [el_rep]; kernel_rfl) | (rw [el_len]; kernel_rfl) | (rw [byts_len]; kernel_rfl) | (rw [us_len]; kernel_rfl) | (rw [bytn_len]; kernel_rfl) | (rw [ens_len, digs_len]; kernel_rfl) | kernel_rfl) ?_) | fail)
  refine (big_any S v _ (ho.out.below kb)).mono ?_
  rintro e w2 ⟨he, hb⟩
  have k1 := k1.below hb
  have kb := bel kb hb
  clear hb
  cases hbg : bigB S with
  | true =>
    rw [hbg] at he
    subst he
    clear hbg
    go_wp2_with fail
    go_ret
    exact ⟨rfl, kb⟩
  | false =>
    rw [hbg] at he
    subst he
    have hfit := big_fit hbg
    have hfit : Hid (StFit S) := Lib.hid ⟨by omega, by omega, by omega⟩
    clear hbg
    have hcs := packS_cases S
    obtain ⟨⟨L, ee⟩, hL⟩ : ∃ p, packS S = p := ⟨_, rfl⟩
    rw [hL] at hcs
    have hcs := Lib.hid hcs
    go_wp2_with (first | (refine wpList_load_arr2 rfl _ _ rfl _ rfl (by decide +kernel) _ (by assumption) (by first | (rw [lims_len]; kernel_rfl) | (rw [el_rep]; kernel_rfl) | (rw [el_len]; kernel_rfl) | (rw [byts_len]; kernel_rfl) | (rw [us_len]; kernel_rfl) | (rw [bytn_len]; kernel_rfl) | (rw [ens_len, digs_len]; kernel_rfl) | kernel_rfl) ?_) | fail)
    refine (pack_any S v _ (ho.out.below kb)).mono ?_
    rw [hL]
    rintro e w3 ⟨v3, rfl, o3, hb⟩
    have k1 := k1.below hb
    have kb := bel kb hb
    have s3 := Lib.hid (Sl.of_own o3)
    clear hb o3
    simp only at s3
    go_wp2_with (first | (refine wpList_load_arr2 rfl _ _ rfl _ rfl (by decide +kernel) _ (by assumption) (by first | (rw [lims_len]; kernel_rfl) | (rw [el_rep]; kernel_rfl) | (rw [el_len]; kernel_rfl) | (rw [byts_len]; kernel_rfl) | (rw [us_len]; kernel_rfl) | (rw [bytn_len]; kernel_rfl) | (rw [ens_len, digs_len]; kernel_rfl) | kernel_rfl) ?_) | fail)
    refine (packState_any S v _ (ho.out.below kb)).mono ?_
    rw [hL]
    rintro e w4 ⟨v4, rfl, o4, hb⟩
    have k1 := k1.below hb
    have kb := bel kb hb
    have s3 := Lib.hid (s3.out.below hb)
    have s4 := Lib.hid (Sl.of_own o4)
    clear hb o4
    simp only at s4
    go_wp2_with fail
    refine (num_any _ _).mono ?_
    rintro e w5 ⟨rfl, hw⟩
    rw [hw]
    clear hw w5
    have t3 := str s3.out
    have t4 := str s4.out
    rcases hcs.out with ⟨hm, hp, hmp⟩ | ⟨hm, hp⟩
    · obtain ⟨rfl, rfl⟩ := Prod.mk.inj hp
      clear hcs hm hp
      have hl := packL_len hmp
      have hrd := Lib.hid (read_pack hmp)
      clear hmp
      obtain ⟨Q, hQ⟩ : ∃ Q, packL S = Q := ⟨_, rfl⟩
      rw [hQ] at hL s3 s4 hl hrd t3 t4
      clear hQ hL
      obtain ⟨a3, c3, rfl, -⟩ := s3.out.shape
      obtain ⟨a4, c4, rfl, -⟩ := s4.out.shape
      have hl2 : Hid (Q.length ≤ 100000) := Lib.hid (by omega)
      have dl : decide ((Q.length : Int) ≤ 4096) = true := decide_eq_true (by omega)
      go_wp2_with fail
      refine (read_any _ Q _ s3.out hl2.out).mono ?_
      rw [hrd.out]
      rintro e w6 ⟨v6, rfl, o6, hb⟩
      have k1 := k1.below hb
      have kb := bel kb hb
      have o6 := Lib.hid o6
      clear hb t3 t4 s3 s4
      simp only at o6 ⊢
      go_upto_region 12 with (first | (refine wpl_storeG rfl _ _ _ rfl _ _ rfl rfl _ (Arr.new _ _ _) (by kernel_rfl) rfl o6.out.ok.one (fun W7 k7 hg hsz => ?_)))
      have hb := below_new hg
      have k1 := k1.below hb
      have kb := bel kb hb
      have o7 := Lib.hid (o6.out.below hb)
      clear hg hsz hb o6
      obtain ⟨g7, hg7⟩ : ∃ g, w6.heap.size = g := ⟨_, rfl⟩
      rw [hg7] at k7 ⊢
      clear hg7
      go_wp2_with fail
      refine (num_any _ _).mono ?_
      rintro e w8 ⟨rfl, hw⟩
      rw [hw]
      clear hw w8
      go_wp2_with (first | (refine wpList_load_arr2 rfl _ _ rfl _ rfl (by decide +kernel) _ (by assumption) (by first | (rw [lims_len]; kernel_rfl) | (rw [el_rep]; kernel_rfl) | (rw [el_len]; kernel_rfl) | (rw [byts_len]; kernel_rfl) | (rw [us_len]; kernel_rfl) | (rw [bytn_len]; kernel_rfl) | (rw [ens_len, digs_len]; kernel_rfl) | kernel_rfl) ?_) | fail)
      refine (sameState_any S _ _ _ (ho.out.below kb) o7.out.ok hfit.out).mono ?_
      rintro e w9 ⟨rfl, hb⟩
      have kb := bel kb hb
      clear hb
      go_wp2_with fail
      go_ret
      exact ⟨rfl, kb⟩
    · obtain ⟨rfl, rfl⟩ := Prod.mk.inj hp
      clear hcs hm hp
      obtain ⟨Q, hQ⟩ : ∃ Q : List UInt8, [] = Q := ⟨_, rfl⟩
      have hql : Q.length = 0 := by rw [← hQ]; rfl
      rw [hQ] at hL s3 s4 t3 t4
      clear hQ hL
      obtain ⟨a3, c3, rfl, -⟩ := s3.out.shape
      obtain ⟨a4, c4, rfl, -⟩ := s4.out.shape
      have dl : ((Q.length : Int) == 0) = true := by rw [hql]; rfl
      clear hql
      go_wp2_with fail
      go_ret
      exact ⟨rfl, kb⟩

end Go.Proofs.Ytkipejhjpfakpaa
