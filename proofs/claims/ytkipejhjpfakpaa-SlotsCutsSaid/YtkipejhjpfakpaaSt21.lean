/- slots: the law SlotsCuts, walked. -/
import Derived.Test.YtkipejhjpfakpaaSt20
namespace Go.Proofs.Ytkipejhjpfakpaa
open Go.RowKit

theorem parse_pack2 {S : Stt} (h : mayP S) (r : List UInt8) : parse (packL S ++ r) = ⟨hd4, S, r, false⟩ := by
  have hf := mayP_fit h
  have ht := mayP_try h
  have hfl := h.floor
  rw [numB_iff] at hfl
  have hlen := h.len
  have hlo := h.lo
  have hhi := h.hi
  have hrv : ∀ n ∈ S.rev, -9223372036854775808 ≤ n ∧ n ≤ 9223372036854775807 := fun n hn => by
    obtain ⟨i, hi, rfl⟩ := List.getElem_of_mem hn
    have := (h.rev i hi hi).1
    rw [numB_iff] at this
    omega
  have e : packL S ++ r = hd4 ++ (be8 S.floor ++ (be8 (S.rev.length : Int) ++ (be8s S.rev ++ (be8 S.act ++ (be8 (S.m0.length : Int) ++ S.m0 ++ (be8 (bitI S.d0) ++ (be8 S.t0 ++ (be8 (S.m1.length : Int) ++ S.m1 ++ (be8 (bitI S.d1) ++ (be8 S.t1 ++ r)))))))))) := by
    simp [packL, be8s, txs]
  have hm0 := hf.m0
  have hm1 := hf.m1
  rw [e]
  unfold parse
  simp only [rawS_ok hd4 _ 4 rfl, intS_ok (show -9223372036854775808 ≤ S.floor ∧ S.floor ≤ 9223372036854775807 by omega), intS_ok (show -9223372036854775808 ≤ (S.rev.length : Int) ∧ (S.rev.length : Int) ≤ 9223372036854775807 by omega)]
  rw [show (min (S.rev.length : Int) 33).toNat = S.rev.length by omega, parseRev_pack S.rev hrv]
  simp only [intS_ok (show -9223372036854775808 ≤ S.act ∧ S.act ≤ 9223372036854775807 by omega), bytesS_ok (show S.m0.length ≤ 9223372036854775807 by omega), intS_ok (bit_fit S.d0), intS_ok (show -9223372036854775808 ≤ S.t0 ∧ S.t0 ≤ 9223372036854775807 by omega),
    bytesS_ok (show S.m1.length ≤ 9223372036854775807 by omega), intS_ok (bit_fit S.d1), intS_ok (show -9223372036854775808 ≤ S.t1 ∧ S.t1 ≤ 9223372036854775807 by omega), bit_one, List.nil_append]

/-- Bytes of a state that are cut short are none's. -/
theorem read_cut {S : Stt} (h : mayP S) {k : Nat} (hk : k < (packL S).length) : readS ((packL S).take k) = (zeroS, 4) := by
  by_cases hc : packS (parse ((packL S).take k)).st = ((packL S).take k, 0)
  · exfalso
    obtain ⟨h1, h2⟩ := pack_may hc
    have h3 := parse_pack2 h1 ((packL S).drop k)
    rw [h2, List.take_append_drop, parse_pack h] at h3
    simp only [Prs.mk.injEq] at h3
    obtain ⟨-, -, h4, -⟩ := h3
    have := congrArg List.length h4
    rw [List.length_drop, List.length_nil] at this
    omega
  · unfold readS
    rw [if_neg (fun h => hc h.2)]
/-- Bytes of a state with more behind them are none's. -/
theorem read_more {S : Stt} (h : mayP S) {r : List UInt8} (hr : r.length ≠ 0) : readS (packL S ++ r) = (zeroS, 4) := by
  have h3 := parse_pack2 h r
  unfold readS
  rw [if_neg]
  rintro ⟨-, h5⟩
  rw [h3] at h5
  have h6 : packL S = packL S ++ r := (pack_may h5).2
  have := congrArg List.length h6
  rw [List.length_append] at this
  omega

set_option maxHeartbeats 4000000 in
set_option maxRecDepth 100000 in
theorem slotsCuts_walk (S : Stt) (v : Sv) (cut : Int) (am : Option Addr) (cm : Nat) (m : List UInt8) (w : World) (h : StOk w S v) (_ : StWf S) (_ : (Lit.int .i64 cut).wf = true) (hm : Sl w (.slice am m.length cm) (u8s m)) :
    Calls Try.prog 6 #[.agg (S.cs v).toArray, .int .i64 cut, .slice am m.length cm] w fun e w' => e = .returned (.bool true) ∧ Below w.heap.size w w' := by
  have ho := Lib.hid h
  have hsm := Lib.hid hm
  clear h hm
  go_enter Try.func6, Try.ntmps6
  go_upto_region 1 with fail
  refine wp_new1 (fun W hsz k1 kb => ?_)
  have k1 : Arr W w.heap.size (S.cs v) := k1
  obtain ⟨G, hG⟩ : ∃ G, w.heap.size = G := ⟨_, rfl⟩
  rw [hG] at k1 hsz ⊢
  replace hG := Lib.hid hG
  clear hsz
  go_wp2_with fail
  refine (alive_any _).mono ?_
  rintro e w1 ⟨rfl, hb⟩
  have k1 := k1.below hb
  have kb := bel kb hb
  clear hb
  go_wp2_with (first | (refine wpList_load_arr2 rfl _ _ rfl _ rfl (by decide +kernel) _ (by assumption) (by first | (rw [lims_len]; kernel_rfl) | (rw [el_rep]; kernel_rfl) | (rw [el_len]; kernel_rfl) | (rw [byts_len]; kernel_rfl) | (rw [us_len]; kernel_rfl) | (rw [bytn_len]; kernel_rfl) | (rw [ens_len, digs_len]; kernel_rfl) | kernel_rfl) ?_) | fail)
  refine (big_any S v _ (ho.out.below kb)).mono ?_
  rintro e w2 ⟨he, hb⟩
  have k1 := k1.below hb
  have kb := bel kb hb
  clear hb
  subst he
  have hcs := packS_cases S
  obtain ⟨⟨L, ee⟩, hL⟩ : ∃ p, packS S = p := ⟨_, rfl⟩
  rw [hL] at hcs
  have hcs := Lib.hid hcs
  obtain ⟨bg, hbg⟩ : ∃ x, bigB S = x := ⟨_, rfl⟩
  rw [hbg]
  have hbg := Lib.hid hbg
  go_wp2_with (first | (refine wpList_load_arr2 rfl _ _ rfl _ rfl (by decide +kernel) _ (by assumption) (by first | (rw [lims_len]; kernel_rfl) | (rw [el_rep]; kernel_rfl) | (rw [el_len]; kernel_rfl) | (rw [byts_len]; kernel_rfl) | (rw [us_len]; kernel_rfl) | (rw [bytn_len]; kernel_rfl) | (rw [ens_len, digs_len]; kernel_rfl) | kernel_rfl) ?_) | fail)
  refine (packState_any S v _ (ho.out.below kb)).mono ?_
  rw [hL]
  rintro e w3 ⟨v3, rfl, o3, hb⟩
  have k1 := k1.below hb
  have kb := bel kb hb
  have s3 := Lib.hid (Sl.of_own o3)
  clear hb o3
  simp only at s3
  cases bg with
  | true =>
    go_wp2_with fail
    go_ret
    exact ⟨rfl, kb⟩
  | false =>
    have hfit := big_fit hbg.out
    have hfit : Hid (StFit S) := Lib.hid ⟨by omega, by omega, by omega⟩
    rcases hcs.out with ⟨hm, hp, hmp⟩ | ⟨hm, hp⟩
    rotate_left
    · obtain ⟨rfl, rfl⟩ := Prod.mk.inj hp
      clear hcs hm hp
      go_wp2_with fail
      go_ret
      exact ⟨rfl, kb⟩
    obtain ⟨rfl, rfl⟩ := Prod.mk.inj hp
    clear hcs hm hp hL
    by_cases hc0 : cut < 0
    · have d1 : decide (cut < 0) = true := decide_eq_true hc0
      go_wp2_with fail
      go_ret
      exact ⟨rfl, kb⟩
    have d1 : decide (cut < 0) = false := decide_eq_false hc0
    by_cases hm50 : 50 < m.length
    · have d2 : decide ((50 : Int) < (m.length : Int)) = true := decide_eq_true (by omega)
      go_wp2_with fail
      go_ret
      exact ⟨rfl, kb⟩
    have d2 : decide ((50 : Int) < (m.length : Int)) = false := decide_eq_false (by omega)
    have hlo : 4 ≤ (packL S).length := by simp only [packL, List.length_append]; have : hd4.length = 4 := rfl; omega
    have hl := packL_len hmp
    have hr1 : ∀ k, k < (packL S).length → readS ((packL S).take k) = (zeroS, 4) := fun k hk => read_cut hmp hk
    have hr2 : m.length ≠ 0 → readS (packL S ++ m) = (zeroS, 4) := read_more hmp
    have hr3 := read_pack hmp
    clear hmp
    obtain ⟨Q, hQ⟩ : ∃ Q, packL S = Q := ⟨_, rfl⟩
    rw [hQ] at s3 hl hlo hr1 hr2 hr3
    clear hQ
    obtain ⟨a3, c3, rfl, hcap⟩ := s3.out.shape
    obtain ⟨k, hk⟩ : ∃ k : Nat, cut % (Q.length : Int) = (k : Int) := ⟨(cut % (Q.length : Int)).toNat, by have := Int.emod_nonneg cut (show (Q.length : Int) ≠ 0 by omega); omega⟩
    have hkB : k < Q.length := by have := Int.emod_lt_of_pos cut (show (0 : Int) < (Q.length : Int) by omega); omega
    have hkc : (k : Int) ≤ (c3 : Int) := by omega
    have hcut := Lib.hid (s3.out.cut (Nat.le_of_lt hkB))
    have hr1 := Lib.hid (hr1 k hkB)
    replace hr2 := Lib.hid hr2
    replace hr3 := Lib.hid hr3
    have hQ0 : (Q.length : Int) ≠ 0 := by omega
    have hlk : Hid ((Q.take k).length ≤ 100000) := Lib.hid (by rw [List.length_take]; omega)
    go_wp2_with fail
    refine (read_any _ (Q.take k) _ hcut.out hlk.out).mono ?_
    rw [hr1.out]
    rintro e w6 ⟨v6, rfl, o6, hb⟩
    have k1 := k1.below hb
    have kb := bel kb hb
    have s3 := Lib.hid (s3.out.below hb)
    have o6 := Lib.hid o6
    clear hb hcut hr1 hlk hk hkc
    simp only at o6 ⊢
    go_upto_region 7 with (first | (refine wpl_storeG rfl _ _ _ rfl _ _ rfl rfl _ (Arr.new _ _ _) (by kernel_rfl) rfl o6.out.ok.one (fun W7 k7 hg hsz => ?_)))
    have hb := below_new hg
    have k1 := k1.below hb
    have kb := bel kb hb
    have s3 := Lib.hid (s3.out.below hb)
    clear hg hsz hb o6 k7
    have hlt7 := Lib.hid k1.lt
    obtain ⟨ti, hti, htz0, htz1, htz2⟩ := info_parts info_u8
    have c2 : Hid (0 + (u8s Q).length ≤ maxLen) := Lib.hid (by rw [u8s_len]; unfold maxLen; omega)
    have c3' : Hid ((0 + (u8s Q).length) * 1 ≤ 140737488355328) := Lib.hid (by rw [u8s_len]; omega)
    go_wp2_with (at_builtin; refine wpList_append_sl rfl _ _ 23 rfl W7.heap.size 5 Try.underlying23 hti htz0 htz1 htz2 rfl _ 0 [] rfl (World.ownsRow_nil _ _ _ _) _ (u8s Q) rfl s3.out (u8s_one _) c2.out c3'.out (Nat.le_refl _) ?_)
    intro x1 w8 own hg
    have hb := below_nil hg
    rw [u8s_len] at own
    have k1 := k1.below hb
    have kb := bel kb hb
    have hs8 : W7.heap.size ≤ w8.heap.size := hb.size
    have hG7 : G < W7.heap.size := hlt7.out
    have hsm8 := Lib.hid (hsm.out.below kb)
    clear hb hg c2 c3' s3
    have c2 : Hid (Q.length + (u8s m).length ≤ maxLen) := Lib.hid (by rw [u8s_len]; unfold maxLen; omega)
    have c3' : Hid ((Q.length + (u8s m).length) * 1 ≤ 140737488355328) := Lib.hid (by rw [u8s_len]; omega)
    obtain ⟨ax, cx, rfl⟩ := own_shape own
    have own := Lib.hid own
    go_wp2_with (at_builtin; refine wpList_append_sl rfl _ _ 23 rfl W7.heap.size 5 Try.underlying23 hti htz0 htz1 htz2 rfl _ Q.length (u8s Q) rfl own.out _ (u8s m) rfl hsm8.out (u8s_one _) c2.out c3'.out hs8 ?_)
    intro x2 w9 own9 hg
    have hne : ∀ k, Value.ownBlock (.slice ax Q.length cx) = some k → W7.heap.size ≤ k := fun k e => (own.out.lt k e).1
    have k1 := k1.keptO hg (fun e => by have := hne _ e; omega)
    have hs7 : w.heap.size ≤ W7.heap.size := by rw [hG.out]; omega
    have kb := below_grO kb hg (fun k hk => by have := hne k hk; omega) kb.size
    rw [← u8s_append] at own9
    have s9 := Lib.hid (Sl.of_own own9)
    clear own own9 hg hne hsm8 c2 c3' hs8
    have hlq : Hid ((Q ++ m).length ≤ 100000) := Lib.hid (by rw [List.length_append]; omega)
    obtain ⟨⟨R2, e2⟩, hR2⟩ : ∃ p, readS (Q ++ m) = p := ⟨_, rfl⟩
    have hR2 := Lib.hid hR2
    go_wp2_with fail
    refine (read_any _ (Q ++ m) _ s9.out hlq.out).mono ?_
    rw [hR2.out]
    rintro e w10 ⟨v10, rfl, o10, hb⟩
    have k1 := k1.below hb
    have kb := bel kb hb
    have o10 := Lib.hid o10
    clear hb s9 hlq
    simp only at o10 ⊢
    go_upto_region 8 with (first | (refine wpl_storeG rfl _ _ _ rfl _ _ rfl rfl _ (Arr.new _ _ _) (by kernel_rfl) rfl o10.out.ok.one (fun W11 k11 hg hsz => ?_)))
    have hb := below_new hg
    have k1 := k1.below hb
    have kb := bel kb hb
    have o11 := Lib.hid (o10.out.below hb)
    clear hg hsz hb o10
    obtain ⟨g11, hg11⟩ : ∃ g, w10.heap.size = g := ⟨_, rfl⟩
    rw [hg11] at k11 ⊢
    clear hg11
    go_wp2_with fail
    refine (num_any _ _).mono ?_
    rintro e w12 ⟨rfl, hw⟩
    rw [hw]
    clear hw w12
    go_wp2_with fail
    refine (num_any _ _).mono ?_
    rintro e w12 ⟨rfl, hw⟩
    rw [hw]
    clear hw w12
    by_cases hm0 : m.length = 0
    · have hmm : m = [] := List.eq_nil_of_length_eq_zero hm0
      have hR3 := hR2.out
      rw [hmm, List.append_nil, hr3.out] at hR3
      obtain ⟨rfl, rfl⟩ := Prod.mk.inj hR3
      have d3 : ((m.length : Int) == 0) = true := by rw [hm0]; rfl
      have d4 : decide (0 < (m.length : Int)) = false := decide_eq_false (by omega)
      clear hR3 hmm hR2 hr2 hr3
      go_wp2_with (first | (refine wpList_load_arr2 rfl _ _ rfl _ rfl (by decide +kernel) _ (by assumption) (by first | (rw [lims_len]; kernel_rfl) | (rw [el_rep]; kernel_rfl) | (rw [el_len]; kernel_rfl) | (rw [byts_len]; kernel_rfl) | (rw [us_len]; kernel_rfl) | (rw [bytn_len]; kernel_rfl) | (rw [ens_len, digs_len]; kernel_rfl) | kernel_rfl) ?_) | fail)
      refine (sameState_any S _ _ _ (ho.out.below kb) o11.out.ok hfit.out).mono ?_
      rintro e w13 ⟨rfl, hb⟩
      have kb := bel kb hb
      clear hb
      go_wp2_with fail
      go_ret
      exact ⟨rfl, kb⟩
    · have hR3 := hR2.out
      rw [hr2.out hm0] at hR3
      obtain ⟨rfl, rfl⟩ := Prod.mk.inj hR3
      have d3 : ((m.length : Int) == 0) = false := by simpa using hm0
      have d4 : decide (0 < (m.length : Int)) = true := decide_eq_true (by omega)
      clear hR3 hR2 hr2 hr3
      go_wp2_with (first | (refine wpList_load_arr2 rfl _ _ rfl _ rfl (by decide +kernel) _ (by assumption) (by first | (rw [lims_len]; kernel_rfl) | (rw [el_rep]; kernel_rfl) | (rw [el_len]; kernel_rfl) | (rw [byts_len]; kernel_rfl) | (rw [us_len]; kernel_rfl) | (rw [bytn_len]; kernel_rfl) | (rw [ens_len, digs_len]; kernel_rfl) | kernel_rfl) ?_) | fail)
      go_ret
      exact ⟨rfl, kb⟩

end Go.Proofs.Ytkipejhjpfakpaa
