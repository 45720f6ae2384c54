/- Field laws: the walk of FieldRoots. -/
import Derived.Test.YtdcbpilibaigmaaDoorRt
namespace Go.Proofs.YtdcbpilibaigmaaDoor
open Go.RowKit

theorem froot2_r {a c v : Nat} {b : Bool} (hc : Hid (a % pN = c)) (hb : Hid (Nt.rtok pN eN iN c = b)) (hv : Hid (Nt.rtv pN eN iN c = v)) (ha : a < 256 ^ 32) (w : World) :
    Calls Tryd.prog 16 #[.agg (byts a).toArray] w fun e w' => e = .returned (.tuple #[.agg (byts v).toArray, .bool b]) ∧ Below w.heap.size w w' := by
  have := froot_any a ha w
  rw [hc.out, hv.out, hb.out] at this
  exact this

/-- The root of a square: the number, or less it. -/
theorem root_of_sq {c t : Nat} (hc : c < pN) (ht : Nt.rtv pN eN iN (c * c % pN) = t) : t = c ∨ t = (pN - c) % pN := by
  have hok := Nt.rtok_sq pN_prime pN_odd hN_two eN_four iN_sq hc
  have h1 := Nt.rtv_sq hok pN_pos
  rw [ht] at h1
  have hl : t < pN := ht ▸ Nt.rtv_lt pN_pos _
  rcases Nt.sq_cases pN_prime hl hc h1 with h2 | h2
  · exact .inl h2
  · by_cases h0 : t = c
    · exact .inl h0
    · right
      rw [Nat.mod_eq_of_lt (by omega)]; omega

set_option maxHeartbeats 8000000 in
set_option maxRecDepth 100000 in
theorem froots_any (a : Nat) (w : World) (ha : a < 256 ^ 32) (kG : Arr w 1 (el (rep iN))) :
    Calls Tryd.prog 5 #[.agg (byts a).toArray] w fun e w' => e = .returned (.bool true) ∧ Below w.heap.size w w' := by
  have hG1 := kG.lt
  obtain ⟨c, hc⟩ : ∃ r, a % pN = r := ⟨_, rfl⟩
  have hcp : c < pN := hc ▸ Nat.mod_lt _ pN_pos
  have lc : c < 256 ^ 32 := hc ▸ p_lt32 _
  obtain ⟨B, hB⟩ : ∃ b, Nt.rtok pN eN iN c = b := ⟨_, rfl⟩
  obtain ⟨r, hr⟩ : ∃ v, Nt.rtv pN eN iN c = v := ⟨_, rfl⟩
  have lr : r < 256 ^ 32 := Nat.lt_trans (hr ▸ Nt.rtv_lt pN_pos c) (by decide)
  have hrr : B = true → r * r % pN = c := by rintro rfl; rw [← hr]; exact Nt.rtv_sq hB pN_pos
  have hev : r % 2 = 0 := hr ▸ Nt.rtv_even pN_odd c
  obtain ⟨m, hm⟩ : ∃ r, a * a % pN = r := ⟨_, rfl⟩
  have hmc : c * c % pN = m := by rw [← hc, ← Nat.mul_mod, hm]
  have hmm : m % pN = m := by rw [← hm, Nat.mod_mod]
  have lm : m < 256 ^ 32 := hm ▸ p_lt32 _
  have hB2 : Nt.rtok pN eN iN m = true := by rw [← hmc]; exact Nt.rtok_sq pN_prime pN_odd hN_two eN_four iN_sq hcp
  obtain ⟨t, ht⟩ : ∃ v, Nt.rtv pN eN iN m = v := ⟨_, rfl⟩
  have lt : t < 256 ^ 32 := Nat.lt_trans (ht ▸ Nt.rtv_lt pN_pos m) (by decide)
  obtain ⟨n, hn⟩ : ∃ r, (pN - a % pN) % pN = r := ⟨_, rfl⟩
  have ln : n < 256 ^ 32 := hn ▸ p_lt32 _
  have htn : t = c ∨ t = n := by
    rw [← hn, hc]
    exact root_of_sq hcp (by rw [hmc]; exact ht)
  have c0 := Lib.hid (fun w => alive3_any w)
  have c1 := Lib.hid (fun w => froot2_r (Lib.hid hc) (Lib.hid hB) (Lib.hid hr) ha w)
  have c2 := Lib.hid (fun w kG => rRoot_r (Lib.hid hc) (Lib.hid hB) (Lib.hid hr) ha w kG)
  have c3 := Lib.hid (fun w => fmul_r (Lib.hid hm) ha ha w)
  have c4 := Lib.hid (fun w => froot2_r (Lib.hid hmm) (Lib.hid hB2) (Lib.hid ht) lm w)
  have c5 := Lib.hid (fun w => fcanon_r (Lib.hid hc) ha w)
  have c6 := Lib.hid (fun w => fsub0_r (Lib.hid hn) ha w)
  have q1 := Lib.hid (eq_num (m := r) (n := r) (b := true) (decide_eq_true rfl) lr lr)
  have q2 := Lib.hid (eq_num (m := c) (n := c) (b := true) (decide_eq_true rfl) lc lc)
  have q3 := Lib.hid (fun b h => eq_num (m := t) (n := c) (b := b) h lt lc)
  have q4 := Lib.hid (fun b h => eq_num (m := t) (n := n) (b := b) h lt ln)
  obtain ⟨d, hd⟩ : ∃ d, r / 256 ^ 0 % 256 = d := ⟨_, rfl⟩
  have hdl : d < 256 := hd ▸ Nat.mod_lt _ (by decide)
  have hand := and_u8_one d hdl
  rw [show d % 2 = 0 by rw [← hd]; omega] at hand
  have gd := byts_get r 0 (by decide)
  rw [hd] at gd
  have c7 := Lib.hid (fun h w => fmul_r (Lib.hid (hrr h)) lr lr w)
  replace hand := Lib.hid hand
  replace gd := Lib.hid gd
  replace htn := Lib.hid htn
  clear hc hcp lc hB hr lr hrr hev hm hmc hmm lm hB2 ht lt hn ln ha hd hdl
  go_enter Tryd.func5, Tryd.ntmps5
  go_upto_region 1 with fail
  refine wp_new1 (fun W hsz k1 kb => ?_)
  have kG : Arr W _ (el (rep iN)) := kG.below kb
  clear hsz
  go_upto_region 1 with (first | (refine wpList_load_arr2 rfl _ _ rfl _ rfl (by kernel_rfl) _ (by assumption) (by first | (rw [lims_len]; kernel_rfl) | (rw [el_rep]; kernel_rfl) | (rw [el_len]; kernel_rfl) | (rw [byts_len]; kernel_rfl) | (rw [us_len]; kernel_rfl) | kernel_rfl) ?_) | (refine wpList_store_arr rfl _ _ _ rfl _ _ rfl rfl _ (by first | assumption | exact Arr.new _ _ _) (by first | (rw [lims_len]; kernel_rfl) | (rw [el_rep]; kernel_rfl) | (rw [el_len]; kernel_rfl) | (rw [byts_len]; kernel_rfl) | (rw [us_len]; kernel_rfl) | kernel_rfl) (by first | (rw [lims_len, lims_len]) | (rw [el_rep, el_rep]) | (rw [el_rep, el_len]; rfl) | (rw [el_len, el_rep]; rfl) | (rw [el_len, el_len]; rfl) | (rw [byts_len, byts_len]) | (rw [lims_len]; rfl) | (rw [byts_len]; rfl) | (rw [us_len, us_len]; rfl) | rfl) (by first | exact lims_one _ _ | exact el_one _ | exact byts_one _ | exact us_one _ | (intro v hv; simp at hv; rcases hv with rfl | rfl | rfl | rfl <;> rfl)) ?_))
  go_wp2_with (first | (refine wpList_load_arr2 rfl _ _ rfl _ rfl (by kernel_rfl) _ (by assumption) (by first | (rw [lims_len]; kernel_rfl) | (rw [el_rep]; kernel_rfl) | (rw [el_len]; kernel_rfl) | (rw [byts_len]; kernel_rfl) | (rw [us_len]; kernel_rfl) | kernel_rfl) ?_) | (refine wpList_store_arr rfl _ _ _ rfl _ _ rfl rfl _ (by first | assumption | exact Arr.new _ _ _) (by first | (rw [lims_len]; kernel_rfl) | (rw [el_rep]; kernel_rfl) | (rw [el_len]; kernel_rfl) | (rw [byts_len]; kernel_rfl) | (rw [us_len]; kernel_rfl) | kernel_rfl) (by first | (rw [lims_len, lims_len]) | (rw [el_rep, el_rep]) | (rw [el_rep, el_len]; rfl) | (rw [el_len, el_rep]; rfl) | (rw [el_len, el_len]; rfl) | (rw [byts_len, byts_len]) | (rw [lims_len]; rfl) | (rw [byts_len]; rfl) | (rw [us_len, us_len]; rfl) | rfl) (by first | exact lims_one _ _ | exact el_one _ | exact byts_one _ | exact us_one _ | (intro v hv; simp at hv; rcases hv with rfl | rfl | rfl | rfl <;> rfl)) ?_))
  refine (c0.out _).mono ?_
  rintro e w_1 ⟨rfl, hb_1⟩
  have k1 := k1.below hb_1
  have kG := kG.below hb_1
  have kb := bel kb hb_1
  clear hb_1
  go_upto_region 2 with (first | (refine wpList_load_arr2 rfl _ _ rfl _ rfl (by kernel_rfl) _ (by assumption) (by first | (rw [lims_len]; kernel_rfl) | (rw [el_rep]; kernel_rfl) | (rw [el_len]; kernel_rfl) | (rw [byts_len]; kernel_rfl) | (rw [us_len]; kernel_rfl) | kernel_rfl) ?_) | (refine wpList_store_arr rfl _ _ _ rfl _ _ rfl rfl _ (by first | assumption | exact Arr.new _ _ _) (by first | (rw [lims_len]; kernel_rfl) | (rw [el_rep]; kernel_rfl) | (rw [el_len]; kernel_rfl) | (rw [byts_len]; kernel_rfl) | (rw [us_len]; kernel_rfl) | kernel_rfl) (by first | (rw [lims_len, lims_len]) | (rw [el_rep, el_rep]) | (rw [el_rep, el_len]; rfl) | (rw [el_len, el_rep]; rfl) | (rw [el_len, el_len]; rfl) | (rw [byts_len, byts_len]) | (rw [lims_len]; rfl) | (rw [byts_len]; rfl) | (rw [us_len, us_len]; rfl) | rfl) (by first | exact lims_one _ _ | exact el_one _ | exact byts_one _ | exact us_one _ | (intro v hv; simp at hv; rcases hv with rfl | rfl | rfl | rfl <;> rfl)) ?_))
  go_wp2_with (first | (refine wpList_load_arr2 rfl _ _ rfl _ rfl (by kernel_rfl) _ (by assumption) (by first | (rw [lims_len]; kernel_rfl) | (rw [el_rep]; kernel_rfl) | (rw [el_len]; kernel_rfl) | (rw [byts_len]; kernel_rfl) | (rw [us_len]; kernel_rfl) | kernel_rfl) ?_) | (refine wpList_store_arr rfl _ _ _ rfl _ _ rfl rfl _ (by first | assumption | exact Arr.new _ _ _) (by first | (rw [lims_len]; kernel_rfl) | (rw [el_rep]; kernel_rfl) | (rw [el_len]; kernel_rfl) | (rw [byts_len]; kernel_rfl) | (rw [us_len]; kernel_rfl) | kernel_rfl) (by first | (rw [lims_len, lims_len]) | (rw [el_rep, el_rep]) | (rw [el_rep, el_len]; rfl) | (rw [el_len, el_rep]; rfl) | (rw [el_len, el_len]; rfl) | (rw [byts_len, byts_len]) | (rw [lims_len]; rfl) | (rw [byts_len]; rfl) | (rw [us_len, us_len]; rfl) | rfl) (by first | exact lims_one _ _ | exact el_one _ | exact byts_one _ | exact us_one _ | (intro v hv; simp at hv; rcases hv with rfl | rfl | rfl | rfl <;> rfl)) ?_))
  refine (c1.out _).mono ?_
  rintro e w_2 ⟨rfl, hb_2⟩
  have k1 := k1.below hb_2
  have kG := kG.below hb_2
  have kb := bel kb hb_2
  clear hb_2
  go_upto_region 3 with (first | (refine wpList_load_arr2 rfl _ _ rfl _ rfl (by kernel_rfl) _ (by assumption) (by first | (rw [lims_len]; kernel_rfl) | (rw [el_rep]; kernel_rfl) | (rw [el_len]; kernel_rfl) | (rw [byts_len]; kernel_rfl) | (rw [us_len]; kernel_rfl) | kernel_rfl) ?_) | (refine wpList_store_arr rfl _ _ _ rfl _ _ rfl rfl _ (by first | assumption | exact Arr.new _ _ _) (by first | (rw [lims_len]; kernel_rfl) | (rw [el_rep]; kernel_rfl) | (rw [el_len]; kernel_rfl) | (rw [byts_len]; kernel_rfl) | (rw [us_len]; kernel_rfl) | kernel_rfl) (by first | (rw [lims_len, lims_len]) | (rw [el_rep, el_rep]) | (rw [el_rep, el_len]; rfl) | (rw [el_len, el_rep]; rfl) | (rw [el_len, el_len]; rfl) | (rw [byts_len, byts_len]) | (rw [lims_len]; rfl) | (rw [byts_len]; rfl) | (rw [us_len, us_len]; rfl) | rfl) (by first | exact lims_one _ _ | exact el_one _ | exact byts_one _ | exact us_one _ | (intro v hv; simp at hv; rcases hv with rfl | rfl | rfl | rfl <;> rfl)) ?_))
  have hg_k4_k1 := k1.lt
  have hg_k4_kG := kG.lt
  refine code_new (fun w_3 k4 hnew => ?_)
  have k1 := k1.below hnew
  have kG := kG.below hnew
  have kb := bel kb hnew
  clear hnew
  generalize (w_2).heap.size = g_k4 at k4 hg_k4_k1 hg_k4_kG ⊢
  go_upto_region 3 with (first | (refine wpList_load_arr2 rfl _ _ rfl _ rfl (by kernel_rfl) _ (by assumption) (by first | (rw [lims_len]; kernel_rfl) | (rw [el_rep]; kernel_rfl) | (rw [el_len]; kernel_rfl) | (rw [byts_len]; kernel_rfl) | (rw [us_len]; kernel_rfl) | kernel_rfl) ?_) | (refine wpList_store_arr rfl _ _ _ rfl _ _ rfl rfl _ (by first | assumption | exact Arr.new _ _ _) (by first | (rw [lims_len]; kernel_rfl) | (rw [el_rep]; kernel_rfl) | (rw [el_len]; kernel_rfl) | (rw [byts_len]; kernel_rfl) | (rw [us_len]; kernel_rfl) | kernel_rfl) (by first | (rw [lims_len, lims_len]) | (rw [el_rep, el_rep]) | (rw [el_rep, el_len]; rfl) | (rw [el_len, el_rep]; rfl) | (rw [el_len, el_len]; rfl) | (rw [byts_len, byts_len]) | (rw [lims_len]; rfl) | (rw [byts_len]; rfl) | (rw [us_len, us_len]; rfl) | rfl) (by first | exact lims_one _ _ | exact el_one _ | exact byts_one _ | exact us_one _ | (intro v hv; simp at hv; rcases hv with rfl | rfl | rfl | rfl <;> rfl)) ?_))
  go_wp2_with (first | (refine wpList_load_arr2 rfl _ _ rfl _ rfl (by kernel_rfl) _ (by assumption) (by first | (rw [lims_len]; kernel_rfl) | (rw [el_rep]; kernel_rfl) | (rw [el_len]; kernel_rfl) | (rw [byts_len]; kernel_rfl) | (rw [us_len]; kernel_rfl) | kernel_rfl) ?_) | (refine wpList_store_arr rfl _ _ _ rfl _ _ rfl rfl _ (by first | assumption | exact Arr.new _ _ _) (by first | (rw [lims_len]; kernel_rfl) | (rw [el_rep]; kernel_rfl) | (rw [el_len]; kernel_rfl) | (rw [byts_len]; kernel_rfl) | (rw [us_len]; kernel_rfl) | kernel_rfl) (by first | (rw [lims_len, lims_len]) | (rw [el_rep, el_rep]) | (rw [el_rep, el_len]; rfl) | (rw [el_len, el_rep]; rfl) | (rw [el_len, el_len]; rfl) | (rw [byts_len, byts_len]) | (rw [lims_len]; rfl) | (rw [byts_len]; rfl) | (rw [us_len, us_len]; rfl) | rfl) (by first | exact lims_one _ _ | exact el_one _ | exact byts_one _ | exact us_one _ | (intro v hv; simp at hv; rcases hv with rfl | rfl | rfl | rfl <;> rfl)) ?_))
  refine (c2.out _ kG).mono ?_
  rintro e w_4 ⟨rfl, hb_4⟩
  have k1 := k1.below hb_4
  have k4 := k4.below hb_4
  have kG := kG.below hb_4
  have kb := bel kb hb_4
  clear hb_4
  go_upto_region 4 with (first | (refine wpList_load_arr2 rfl _ _ rfl _ rfl (by kernel_rfl) _ (by assumption) (by first | (rw [lims_len]; kernel_rfl) | (rw [el_rep]; kernel_rfl) | (rw [el_len]; kernel_rfl) | (rw [byts_len]; kernel_rfl) | (rw [us_len]; kernel_rfl) | kernel_rfl) ?_) | (refine wpList_store_arr rfl _ _ _ rfl _ _ rfl rfl _ (by first | assumption | exact Arr.new _ _ _) (by first | (rw [lims_len]; kernel_rfl) | (rw [el_rep]; kernel_rfl) | (rw [el_len]; kernel_rfl) | (rw [byts_len]; kernel_rfl) | (rw [us_len]; kernel_rfl) | kernel_rfl) (by first | (rw [lims_len, lims_len]) | (rw [el_rep, el_rep]) | (rw [el_rep, el_len]; rfl) | (rw [el_len, el_rep]; rfl) | (rw [el_len, el_len]; rfl) | (rw [byts_len, byts_len]) | (rw [lims_len]; rfl) | (rw [byts_len]; rfl) | (rw [us_len, us_len]; rfl) | rfl) (by first | exact lims_one _ _ | exact el_one _ | exact byts_one _ | exact us_one _ | (intro v hv; simp at hv; rcases hv with rfl | rfl | rfl | rfl <;> rfl)) ?_))
  have hg_k6_k1 := k1.lt
  have hg_k6_k4 := k4.lt
  refine code_new (fun w_5 k6 hnew => ?_)
  have k1 := k1.below hnew
  have k4 := k4.below hnew
  have kb := bel kb hnew
  clear hnew
  generalize (w_4).heap.size = g_k6 at k6 hg_k6_k1 hg_k6_k4 ⊢
  go_upto_region 4 with (first | (refine wpList_load_arr2 rfl _ _ rfl _ rfl (by kernel_rfl) _ (by assumption) (by first | (rw [lims_len]; kernel_rfl) | (rw [el_rep]; kernel_rfl) | (rw [el_len]; kernel_rfl) | (rw [byts_len]; kernel_rfl) | (rw [us_len]; kernel_rfl) | kernel_rfl) ?_) | (refine wpList_store_arr rfl _ _ _ rfl _ _ rfl rfl _ (by first | assumption | exact Arr.new _ _ _) (by first | (rw [lims_len]; kernel_rfl) | (rw [el_rep]; kernel_rfl) | (rw [el_len]; kernel_rfl) | (rw [byts_len]; kernel_rfl) | (rw [us_len]; kernel_rfl) | kernel_rfl) (by first | (rw [lims_len, lims_len]) | (rw [el_rep, el_rep]) | (rw [el_rep, el_len]; rfl) | (rw [el_len, el_rep]; rfl) | (rw [el_len, el_len]; rfl) | (rw [byts_len, byts_len]) | (rw [lims_len]; rfl) | (rw [byts_len]; rfl) | (rw [us_len, us_len]; rfl) | rfl) (by first | exact lims_one _ _ | exact el_one _ | exact byts_one _ | exact us_one _ | (intro v hv; simp at hv; rcases hv with rfl | rfl | rfl | rfl <;> rfl)) ?_))
  go_wp2_with (first | (refine wpList_load_arr2 rfl _ _ rfl _ rfl (by kernel_rfl) _ (by assumption) (by first | (rw [lims_len]; kernel_rfl) | (rw [el_rep]; kernel_rfl) | (rw [el_len]; kernel_rfl) | (rw [byts_len]; kernel_rfl) | (rw [us_len]; kernel_rfl) | kernel_rfl) ?_) | (refine wpList_store_arr rfl _ _ _ rfl _ _ rfl rfl _ (by first | assumption | exact Arr.new _ _ _) (by first | (rw [lims_len]; kernel_rfl) | (rw [el_rep]; kernel_rfl) | (rw [el_len]; kernel_rfl) | (rw [byts_len]; kernel_rfl) | (rw [us_len]; kernel_rfl) | kernel_rfl) (by first | (rw [lims_len, lims_len]) | (rw [el_rep, el_rep]) | (rw [el_rep, el_len]; rfl) | (rw [el_len, el_rep]; rfl) | (rw [el_len, el_len]; rfl) | (rw [byts_len, byts_len]) | (rw [lims_len]; rfl) | (rw [byts_len]; rfl) | (rw [us_len, us_len]; rfl) | rfl) (by first | exact lims_one _ _ | exact el_one _ | exact byts_one _ | exact us_one _ | (intro v hv; simp at hv; rcases hv with rfl | rfl | rfl | rfl <;> rfl)) ?_))
  refine (c3.out _).mono ?_
  rintro e w_6 ⟨rfl, hb_6⟩
  have k1 := k1.below hb_6
  have k4 := k4.below hb_6
  have k6 := k6.below hb_6
  have kb := bel kb hb_6
  clear hb_6
  go_wp2_with (first | (refine wpList_load_arr2 rfl _ _ rfl _ rfl (by kernel_rfl) _ (by assumption) (by first | (rw [lims_len]; kernel_rfl) | (rw [el_rep]; kernel_rfl) | (rw [el_len]; kernel_rfl) | (rw [byts_len]; kernel_rfl) | (rw [us_len]; kernel_rfl) | kernel_rfl) ?_) | (refine wpList_store_arr rfl _ _ _ rfl _ _ rfl rfl _ (by first | assumption | exact Arr.new _ _ _) (by first | (rw [lims_len]; kernel_rfl) | (rw [el_rep]; kernel_rfl) | (rw [el_len]; kernel_rfl) | (rw [byts_len]; kernel_rfl) | (rw [us_len]; kernel_rfl) | kernel_rfl) (by first | (rw [lims_len, lims_len]) | (rw [el_rep, el_rep]) | (rw [el_rep, el_len]; rfl) | (rw [el_len, el_rep]; rfl) | (rw [el_len, el_len]; rfl) | (rw [byts_len, byts_len]) | (rw [lims_len]; rfl) | (rw [byts_len]; rfl) | (rw [us_len, us_len]; rfl) | rfl) (by first | exact lims_one _ _ | exact el_one _ | exact byts_one _ | exact us_one _ | (intro v hv; simp at hv; rcases hv with rfl | rfl | rfl | rfl <;> rfl)) ?_))
  refine (c4.out _).mono ?_
  rintro e w_7 ⟨rfl, hb_7⟩
  have k1 := k1.below hb_7
  have k4 := k4.below hb_7
  have k6 := k6.below hb_7
  have kb := bel kb hb_7
  clear hb_7
  go_upto_region 5 with (first | (refine wpList_load_arr2 rfl _ _ rfl _ rfl (by kernel_rfl) _ (by assumption) (by first | (rw [lims_len]; kernel_rfl) | (rw [el_rep]; kernel_rfl) | (rw [el_len]; kernel_rfl) | (rw [byts_len]; kernel_rfl) | (rw [us_len]; kernel_rfl) | kernel_rfl) ?_) | (refine wpList_store_arr rfl _ _ _ rfl _ _ rfl rfl _ (by first | assumption | exact Arr.new _ _ _) (by first | (rw [lims_len]; kernel_rfl) | (rw [el_rep]; kernel_rfl) | (rw [el_len]; kernel_rfl) | (rw [byts_len]; kernel_rfl) | (rw [us_len]; kernel_rfl) | kernel_rfl) (by first | (rw [lims_len, lims_len]) | (rw [el_rep, el_rep]) | (rw [el_rep, el_len]; rfl) | (rw [el_len, el_rep]; rfl) | (rw [el_len, el_len]; rfl) | (rw [byts_len, byts_len]) | (rw [lims_len]; rfl) | (rw [byts_len]; rfl) | (rw [us_len, us_len]; rfl) | rfl) (by first | exact lims_one _ _ | exact el_one _ | exact byts_one _ | exact us_one _ | (intro v hv; simp at hv; rcases hv with rfl | rfl | rfl | rfl <;> rfl)) ?_))
  have hg_k8_k1 := k1.lt
  have hg_k8_k4 := k4.lt
  have hg_k8_k6 := k6.lt
  refine code_new (fun w_8 k8 hnew => ?_)
  have k1 := k1.below hnew
  have k4 := k4.below hnew
  have k6 := k6.below hnew
  have kb := bel kb hnew
  clear hnew
  generalize (w_7).heap.size = g_k8 at k8 hg_k8_k1 hg_k8_k4 hg_k8_k6 ⊢
  go_upto_region 5 with (first | (refine wpList_load_arr2 rfl _ _ rfl _ rfl (by kernel_rfl) _ (by assumption) (by first | (rw [lims_len]; kernel_rfl) | (rw [el_rep]; kernel_rfl) | (rw [el_len]; kernel_rfl) | (rw [byts_len]; kernel_rfl) | (rw [us_len]; kernel_rfl) | kernel_rfl) ?_) | (refine wpList_store_arr rfl _ _ _ rfl _ _ rfl rfl _ (by first | assumption | exact Arr.new _ _ _) (by first | (rw [lims_len]; kernel_rfl) | (rw [el_rep]; kernel_rfl) | (rw [el_len]; kernel_rfl) | (rw [byts_len]; kernel_rfl) | (rw [us_len]; kernel_rfl) | kernel_rfl) (by first | (rw [lims_len, lims_len]) | (rw [el_rep, el_rep]) | (rw [el_rep, el_len]; rfl) | (rw [el_len, el_rep]; rfl) | (rw [el_len, el_len]; rfl) | (rw [byts_len, byts_len]) | (rw [lims_len]; rfl) | (rw [byts_len]; rfl) | (rw [us_len, us_len]; rfl) | rfl) (by first | exact lims_one _ _ | exact el_one _ | exact byts_one _ | exact us_one _ | (intro v hv; simp at hv; rcases hv with rfl | rfl | rfl | rfl <;> rfl)) ?_))
  go_wp2_with (first | (refine wpList_load_arr2 rfl _ _ rfl _ rfl (by kernel_rfl) _ (by assumption) (by first | (rw [lims_len]; kernel_rfl) | (rw [el_rep]; kernel_rfl) | (rw [el_len]; kernel_rfl) | (rw [byts_len]; kernel_rfl) | (rw [us_len]; kernel_rfl) | kernel_rfl) ?_) | (refine wpList_store_arr rfl _ _ _ rfl _ _ rfl rfl _ (by first | assumption | exact Arr.new _ _ _) (by first | (rw [lims_len]; kernel_rfl) | (rw [el_rep]; kernel_rfl) | (rw [el_len]; kernel_rfl) | (rw [byts_len]; kernel_rfl) | (rw [us_len]; kernel_rfl) | kernel_rfl) (by first | (rw [lims_len, lims_len]) | (rw [el_rep, el_rep]) | (rw [el_rep, el_len]; rfl) | (rw [el_len, el_rep]; rfl) | (rw [el_len, el_len]; rfl) | (rw [byts_len, byts_len]) | (rw [lims_len]; rfl) | (rw [byts_len]; rfl) | (rw [us_len, us_len]; rfl) | rfl) (by first | exact lims_one _ _ | exact el_one _ | exact byts_one _ | exact us_one _ | (intro v hv; simp at hv; rcases hv with rfl | rfl | rfl | rfl <;> rfl)) ?_))
  refine (c5.out _).mono ?_
  rintro e w_9 ⟨rfl, hb_9⟩
  have k1 := k1.below hb_9
  have k4 := k4.below hb_9
  have k6 := k6.below hb_9
  have k8 := k8.below hb_9
  have kb := bel kb hb_9
  clear hb_9
  go_upto_region 6 with (first | (refine wpList_load_arr2 rfl _ _ rfl _ rfl (by kernel_rfl) _ (by assumption) (by first | (rw [lims_len]; kernel_rfl) | (rw [el_rep]; kernel_rfl) | (rw [el_len]; kernel_rfl) | (rw [byts_len]; kernel_rfl) | (rw [us_len]; kernel_rfl) | kernel_rfl) ?_) | (refine wpList_store_arr rfl _ _ _ rfl _ _ rfl rfl _ (by first | assumption | exact Arr.new _ _ _) (by first | (rw [lims_len]; kernel_rfl) | (rw [el_rep]; kernel_rfl) | (rw [el_len]; kernel_rfl) | (rw [byts_len]; kernel_rfl) | (rw [us_len]; kernel_rfl) | kernel_rfl) (by first | (rw [lims_len, lims_len]) | (rw [el_rep, el_rep]) | (rw [el_rep, el_len]; rfl) | (rw [el_len, el_rep]; rfl) | (rw [el_len, el_len]; rfl) | (rw [byts_len, byts_len]) | (rw [lims_len]; rfl) | (rw [byts_len]; rfl) | (rw [us_len, us_len]; rfl) | rfl) (by first | exact lims_one _ _ | exact el_one _ | exact byts_one _ | exact us_one _ | (intro v hv; simp at hv; rcases hv with rfl | rfl | rfl | rfl <;> rfl)) ?_))
  have hg_k10_k1 := k1.lt
  have hg_k10_k4 := k4.lt
  have hg_k10_k6 := k6.lt
  have hg_k10_k8 := k8.lt
  refine code_new (fun w_10 k10 hnew => ?_)
  have k1 := k1.below hnew
  have k4 := k4.below hnew
  have k6 := k6.below hnew
  have k8 := k8.below hnew
  have kb := bel kb hnew
  clear hnew
  generalize (w_9).heap.size = g_k10 at k10 hg_k10_k1 hg_k10_k4 hg_k10_k6 hg_k10_k8 ⊢
  go_upto_region 6 with (first | (refine wpList_load_arr2 rfl _ _ rfl _ rfl (by kernel_rfl) _ (by assumption) (by first | (rw [lims_len]; kernel_rfl) | (rw [el_rep]; kernel_rfl) | (rw [el_len]; kernel_rfl) | (rw [byts_len]; kernel_rfl) | (rw [us_len]; kernel_rfl) | kernel_rfl) ?_) | (refine wpList_store_arr rfl _ _ _ rfl _ _ rfl rfl _ (by first | assumption | exact Arr.new _ _ _) (by first | (rw [lims_len]; kernel_rfl) | (rw [el_rep]; kernel_rfl) | (rw [el_len]; kernel_rfl) | (rw [byts_len]; kernel_rfl) | (rw [us_len]; kernel_rfl) | kernel_rfl) (by first | (rw [lims_len, lims_len]) | (rw [el_rep, el_rep]) | (rw [el_rep, el_len]; rfl) | (rw [el_len, el_rep]; rfl) | (rw [el_len, el_len]; rfl) | (rw [byts_len, byts_len]) | (rw [lims_len]; rfl) | (rw [byts_len]; rfl) | (rw [us_len, us_len]; rfl) | rfl) (by first | exact lims_one _ _ | exact el_one _ | exact byts_one _ | exact us_one _ | (intro v hv; simp at hv; rcases hv with rfl | rfl | rfl | rfl <;> rfl)) ?_))
  go_wp2_with (first | (refine wpList_load_arr2 rfl _ _ rfl _ rfl (by kernel_rfl) _ (by assumption) (by first | (rw [lims_len]; kernel_rfl) | (rw [el_rep]; kernel_rfl) | (rw [el_len]; kernel_rfl) | (rw [byts_len]; kernel_rfl) | (rw [us_len]; kernel_rfl) | kernel_rfl) ?_) | (refine wpList_store_arr rfl _ _ _ rfl _ _ rfl rfl _ (by first | assumption | exact Arr.new _ _ _) (by first | (rw [lims_len]; kernel_rfl) | (rw [el_rep]; kernel_rfl) | (rw [el_len]; kernel_rfl) | (rw [byts_len]; kernel_rfl) | (rw [us_len]; kernel_rfl) | kernel_rfl) (by first | (rw [lims_len, lims_len]) | (rw [el_rep, el_rep]) | (rw [el_rep, el_len]; rfl) | (rw [el_len, el_rep]; rfl) | (rw [el_len, el_len]; rfl) | (rw [byts_len, byts_len]) | (rw [lims_len]; rfl) | (rw [byts_len]; rfl) | (rw [us_len, us_len]; rfl) | rfl) (by first | exact lims_one _ _ | exact el_one _ | exact byts_one _ | exact us_one _ | (intro v hv; simp at hv; rcases hv with rfl | rfl | rfl | rfl <;> rfl)) ?_))
  refine (c6.out _).mono ?_
  rintro e w_11 ⟨rfl, hb_11⟩
  have k1 := k1.below hb_11
  have k4 := k4.below hb_11
  have k6 := k6.below hb_11
  have k8 := k8.below hb_11
  have k10 := k10.below hb_11
  have kb := bel kb hb_11
  clear hb_11
  go_upto_region 7 with (first | (refine wpList_load_arr2 rfl _ _ rfl _ rfl (by kernel_rfl) _ (by assumption) (by first | (rw [lims_len]; kernel_rfl) | (rw [el_rep]; kernel_rfl) | (rw [el_len]; kernel_rfl) | (rw [byts_len]; kernel_rfl) | (rw [us_len]; kernel_rfl) | kernel_rfl) ?_) | (refine wpList_store_arr rfl _ _ _ rfl _ _ rfl rfl _ (by first | assumption | exact Arr.new _ _ _) (by first | (rw [lims_len]; kernel_rfl) | (rw [el_rep]; kernel_rfl) | (rw [el_len]; kernel_rfl) | (rw [byts_len]; kernel_rfl) | (rw [us_len]; kernel_rfl) | kernel_rfl) (by first | (rw [lims_len, lims_len]) | (rw [el_rep, el_rep]) | (rw [el_rep, el_len]; rfl) | (rw [el_len, el_rep]; rfl) | (rw [el_len, el_len]; rfl) | (rw [byts_len, byts_len]) | (rw [lims_len]; rfl) | (rw [byts_len]; rfl) | (rw [us_len, us_len]; rfl) | rfl) (by first | exact lims_one _ _ | exact el_one _ | exact byts_one _ | exact us_one _ | (intro v hv; simp at hv; rcases hv with rfl | rfl | rfl | rfl <;> rfl)) ?_))
  have hg_k11_k1 := k1.lt
  have hg_k11_k4 := k4.lt
  have hg_k11_k6 := k6.lt
  have hg_k11_k8 := k8.lt
  have hg_k11_k10 := k10.lt
  refine code_new (fun w_12 k11 hnew => ?_)
  have k1 := k1.below hnew
  have k4 := k4.below hnew
  have k6 := k6.below hnew
  have k8 := k8.below hnew
  have k10 := k10.below hnew
  have kb := bel kb hnew
  clear hnew
  generalize (w_11).heap.size = g_k11 at k11 hg_k11_k1 hg_k11_k4 hg_k11_k6 hg_k11_k8 hg_k11_k10 ⊢
  have hT : (decide (t = c) = true ∧ ∃ b, decide (t = n) = b) ∨ (decide (t = c) = false ∧ decide (t = n) = true) := by
    by_cases h : t = c
    · exact .inl ⟨decide_eq_true h, _, rfl⟩
    · exact .inr ⟨decide_eq_false h, decide_eq_true (htn.out.resolve_left h)⟩
  clear htn
  cases B
  · rcases hT with ⟨h1, b, h2⟩ | ⟨h1, h2⟩
    · have q3' := q3.out _ h1
      have q4' := q4.out _ h2
      clear h1 h2
      refine Tx.start (fun w' => Below (w_12).heap.size (w_12) w') 9999 42 rfl (by kernel_rfl) ?_
      have hS_13 : Below (w_12).heap.size (w_12) (World.drew w_12) := (Below.refl _ _).drew
      refine Tx.seg (A := ?_) 24 393215 (by kernel_rfl) (by exact hS_13) [0, 1, 2, 3, 4, 5, 6, 7, 8, 9, 10, 11, 12, 13, 14, 15, 16, 18] (by kernel_rfl) ?_ ?_
      rotate_left
      · intro w' hB
        have e4 := k4.below hB
        have e6 := k6.below hB
        have e10 := k10.below hB
        have eq1 := q1.out w'
        iterate 18 (first | (refine rd_skip rfl rfl ?_; simp only [Act.put, List.setIfInBounds_toArray, List.set_cons_zero, List.set_cons_succ]) | (refine rd_load_arr rfl rfl _ _ rfl _ rfl (by kernel_rfl) _ (by assumption) (by first | (rw [lims_len]; kernel_rfl) | (rw [el_rep]; kernel_rfl) | (rw [el_len]; kernel_rfl) | (rw [byts_len]; kernel_rfl) | (rw [us_len]; kernel_rfl) | kernel_rfl) ?_; simp only [Act.put, List.setIfInBounds_toArray, List.set_cons_zero, List.set_cons_succ]) | (refine rd_take (v := ?_) rfl rfl ?_ ?_; rotate_left; (focus (go_simp; try (with_reducible rfl))); simp only [Act.put, List.setIfInBounds_toArray, List.set_cons_zero, List.set_cons_succ]))
        exact rd_nil
      refine Tx.eff 17 524287 rfl (by decide +kernel) (fun K hK => ?_)
      go_simp
      refine hK (fun w' => Below (w_12).heap.size (w_12) w') _ _ hS_13 (fun _ h => h) ?_
      clear hK K
      try simp only [Act.put, List.setIfInBounds_toArray, List.set_cons_zero, List.set_cons_succ]
      refine Tx.seg (A := ?_) 0 4398046511103 (by kernel_rfl) (by exact hS_13) [19, 20, 21, 22, 23, 24, 25, 26, 27, 28, 29, 30, 31, 32, 33, 34, 35, 36, 37, 38, 39, 40, 41] (by kernel_rfl) ?_ ?_
      rotate_left
      · intro w' hB
        have e4 := (k4.below hB).cell gd.out
        have e8 := k8.below hB
        have e10 := k10.below hB
        have e11 := k11.below hB
        have eh := hand.out
        have eq2 := q2.out w'
        have eq3 := q3' w'
        have eq4 := q4' w'
        iterate 23 (first | (refine rd_skip rfl rfl ?_; simp only [Act.put, List.setIfInBounds_toArray, List.set_cons_zero, List.set_cons_succ]) | (refine rd_load_arr rfl rfl _ _ rfl _ rfl (by kernel_rfl) _ (by assumption) (by first | (rw [lims_len]; kernel_rfl) | (rw [el_rep]; kernel_rfl) | (rw [el_len]; kernel_rfl) | (rw [byts_len]; kernel_rfl) | (rw [us_len]; kernel_rfl) | kernel_rfl) ?_; simp only [Act.put, List.setIfInBounds_toArray, List.set_cons_zero, List.set_cons_succ]) | (refine rd_take (v := ?_) rfl rfl ?_ ?_; rotate_left; (focus (go_simp; try (with_reducible rfl))); simp only [Act.put, List.setIfInBounds_toArray, List.set_cons_zero, List.set_cons_succ]))
        exact rd_nil
      refine Tx.done (by kernel_rfl) ?_
      have kb := bel kb hS_13
      go_wp2_with fail
      go_ret
      exact ⟨rfl, kb⟩
    · have q3' := q3.out _ h1
      have q4' := q4.out _ h2
      clear h1 h2
      refine Tx.start (fun w' => Below (w_12).heap.size (w_12) w') 9999 42 rfl (by kernel_rfl) ?_
      have hS_14 : Below (w_12).heap.size (w_12) (World.drew w_12) := (Below.refl _ _).drew
      refine Tx.seg (A := ?_) 24 393215 (by kernel_rfl) (by exact hS_14) [0, 1, 2, 3, 4, 5, 6, 7, 8, 9, 10, 11, 12, 13, 14, 15, 16, 18] (by kernel_rfl) ?_ ?_
      rotate_left
      · intro w' hB
        have e4 := k4.below hB
        have e6 := k6.below hB
        have e10 := k10.below hB
        have eq1 := q1.out w'
        iterate 18 (first | (refine rd_skip rfl rfl ?_; simp only [Act.put, List.setIfInBounds_toArray, List.set_cons_zero, List.set_cons_succ]) | (refine rd_load_arr rfl rfl _ _ rfl _ rfl (by kernel_rfl) _ (by assumption) (by first | (rw [lims_len]; kernel_rfl) | (rw [el_rep]; kernel_rfl) | (rw [el_len]; kernel_rfl) | (rw [byts_len]; kernel_rfl) | (rw [us_len]; kernel_rfl) | kernel_rfl) ?_; simp only [Act.put, List.setIfInBounds_toArray, List.set_cons_zero, List.set_cons_succ]) | (refine rd_take (v := ?_) rfl rfl ?_ ?_; rotate_left; (focus (go_simp; try (with_reducible rfl))); simp only [Act.put, List.setIfInBounds_toArray, List.set_cons_zero, List.set_cons_succ]))
        exact rd_nil
      refine Tx.eff 17 524287 rfl (by decide +kernel) (fun K hK => ?_)
      go_simp
      refine hK (fun w' => Below (w_12).heap.size (w_12) w') _ _ hS_14 (fun _ h => h) ?_
      clear hK K
      try simp only [Act.put, List.setIfInBounds_toArray, List.set_cons_zero, List.set_cons_succ]
      refine Tx.seg (A := ?_) 0 4398046511103 (by kernel_rfl) (by exact hS_14) [19, 20, 21, 22, 23, 24, 25, 26, 27, 28, 29, 30, 31, 32, 33, 34, 35, 36, 37, 38, 39, 40, 41] (by kernel_rfl) ?_ ?_
      rotate_left
      · intro w' hB
        have e4 := (k4.below hB).cell gd.out
        have e8 := k8.below hB
        have e10 := k10.below hB
        have e11 := k11.below hB
        have eh := hand.out
        have eq2 := q2.out w'
        have eq3 := q3' w'
        have eq4 := q4' w'
        iterate 23 (first | (refine rd_skip rfl rfl ?_; simp only [Act.put, List.setIfInBounds_toArray, List.set_cons_zero, List.set_cons_succ]) | (refine rd_load_arr rfl rfl _ _ rfl _ rfl (by kernel_rfl) _ (by assumption) (by first | (rw [lims_len]; kernel_rfl) | (rw [el_rep]; kernel_rfl) | (rw [el_len]; kernel_rfl) | (rw [byts_len]; kernel_rfl) | (rw [us_len]; kernel_rfl) | kernel_rfl) ?_; simp only [Act.put, List.setIfInBounds_toArray, List.set_cons_zero, List.set_cons_succ]) | (refine rd_take (v := ?_) rfl rfl ?_ ?_; rotate_left; (focus (go_simp; try (with_reducible rfl))); simp only [Act.put, List.setIfInBounds_toArray, List.set_cons_zero, List.set_cons_succ]))
        exact rd_nil
      refine Tx.done (by kernel_rfl) ?_
      have kb := bel kb hS_14
      go_wp2_with fail
      go_ret
      exact ⟨rfl, kb⟩
  · have c7 := Lib.hid (fun w => c7.out rfl w)
    rcases hT with ⟨h1, b, h2⟩ | ⟨h1, h2⟩
    · have q3' := q3.out _ h1
      have q4' := q4.out _ h2
      clear h1 h2
      refine Tx.start (fun w' => Below (w_12).heap.size (w_12) w') 9999 42 rfl (by kernel_rfl) ?_
      have hS_15 : Below (w_12).heap.size (w_12) (World.drew w_12) := (Below.refl _ _).drew
      refine Tx.seg (A := ?_) 24 393215 (by kernel_rfl) (by exact hS_15) [0, 1, 2, 3, 4, 5, 6, 7, 8, 9, 10, 11, 12, 13, 14, 15, 16, 18] (by kernel_rfl) ?_ ?_
      rotate_left
      · intro w' hB
        have e4 := k4.below hB
        have e6 := k6.below hB
        have e10 := k10.below hB
        have eq1 := q1.out w'
        iterate 18 (first | (refine rd_skip rfl rfl ?_; simp only [Act.put, List.setIfInBounds_toArray, List.set_cons_zero, List.set_cons_succ]) | (refine rd_load_arr rfl rfl _ _ rfl _ rfl (by kernel_rfl) _ (by assumption) (by first | (rw [lims_len]; kernel_rfl) | (rw [el_rep]; kernel_rfl) | (rw [el_len]; kernel_rfl) | (rw [byts_len]; kernel_rfl) | (rw [us_len]; kernel_rfl) | kernel_rfl) ?_; simp only [Act.put, List.setIfInBounds_toArray, List.set_cons_zero, List.set_cons_succ]) | (refine rd_take (v := ?_) rfl rfl ?_ ?_; rotate_left; (focus (go_simp; try (with_reducible rfl))); simp only [Act.put, List.setIfInBounds_toArray, List.set_cons_zero, List.set_cons_succ]))
        exact rd_nil
      refine Tx.eff 17 524287 rfl (by decide +kernel) (fun K hK => ?_)
      go_simp
      refine (c7.out _).mono ?_
      rintro e w_16 ⟨rfl, hb_16⟩
      have hS_16 := ext_trans hS_15 (Nat.le_refl _) hb_16
      refine hK (fun w' => Below (w_12).heap.size (w_12) w') _ _ hS_16 (fun _ h => h) ?_
      clear hK K hb_16 hS_15
      try simp only [Act.put, List.setIfInBounds_toArray, List.set_cons_zero, List.set_cons_succ]
      refine Tx.seg (A := ?_) 0 4398046511103 (by kernel_rfl) (by exact hS_16) [19, 20, 21, 22, 23, 24, 25, 26, 27, 28, 29, 30, 31, 32, 33, 34, 35, 36, 37, 38, 39, 40, 41] (by kernel_rfl) ?_ ?_
      rotate_left
      · intro w' hB
        have e4 := (k4.below hB).cell gd.out
        have e8 := k8.below hB
        have e10 := k10.below hB
        have e11 := k11.below hB
        have eh := hand.out
        have eq2 := q2.out w'
        have eq3 := q3' w'
        have eq4 := q4' w'
        iterate 23 (first | (refine rd_skip rfl rfl ?_; simp only [Act.put, List.setIfInBounds_toArray, List.set_cons_zero, List.set_cons_succ]) | (refine rd_load_arr rfl rfl _ _ rfl _ rfl (by kernel_rfl) _ (by assumption) (by first | (rw [lims_len]; kernel_rfl) | (rw [el_rep]; kernel_rfl) | (rw [el_len]; kernel_rfl) | (rw [byts_len]; kernel_rfl) | (rw [us_len]; kernel_rfl) | kernel_rfl) ?_; simp only [Act.put, List.setIfInBounds_toArray, List.set_cons_zero, List.set_cons_succ]) | (refine rd_take (v := ?_) rfl rfl ?_ ?_; rotate_left; (focus (go_simp; try (with_reducible rfl))); simp only [Act.put, List.setIfInBounds_toArray, List.set_cons_zero, List.set_cons_succ]))
        exact rd_nil
      refine Tx.done (by kernel_rfl) ?_
      have kb := bel kb hS_16
      go_wp2_with fail
      go_ret
      exact ⟨rfl, kb⟩
    · have q3' := q3.out _ h1
      have q4' := q4.out _ h2
      clear h1 h2
      refine Tx.start (fun w' => Below (w_12).heap.size (w_12) w') 9999 42 rfl (by kernel_rfl) ?_
      have hS_17 : Below (w_12).heap.size (w_12) (World.drew w_12) := (Below.refl _ _).drew
      refine Tx.seg (A := ?_) 24 393215 (by kernel_rfl) (by exact hS_17) [0, 1, 2, 3, 4, 5, 6, 7, 8, 9, 10, 11, 12, 13, 14, 15, 16, 18] (by kernel_rfl) ?_ ?_
      rotate_left
      · intro w' hB
        have e4 := k4.below hB
        have e6 := k6.below hB
        have e10 := k10.below hB
        have eq1 := q1.out w'
        iterate 18 (first | (refine rd_skip rfl rfl ?_; simp only [Act.put, List.setIfInBounds_toArray, List.set_cons_zero, List.set_cons_succ]) | (refine rd_load_arr rfl rfl _ _ rfl _ rfl (by kernel_rfl) _ (by assumption) (by first | (rw [lims_len]; kernel_rfl) | (rw [el_rep]; kernel_rfl) | (rw [el_len]; kernel_rfl) | (rw [byts_len]; kernel_rfl) | (rw [us_len]; kernel_rfl) | kernel_rfl) ?_; simp only [Act.put, List.setIfInBounds_toArray, List.set_cons_zero, List.set_cons_succ]) | (refine rd_take (v := ?_) rfl rfl ?_ ?_; rotate_left; (focus (go_simp; try (with_reducible rfl))); simp only [Act.put, List.setIfInBounds_toArray, List.set_cons_zero, List.set_cons_succ]))
        exact rd_nil
      refine Tx.eff 17 524287 rfl (by decide +kernel) (fun K hK => ?_)
      go_simp
      refine (c7.out _).mono ?_
      rintro e w_18 ⟨rfl, hb_18⟩
      have hS_18 := ext_trans hS_17 (Nat.le_refl _) hb_18
      refine hK (fun w' => Below (w_12).heap.size (w_12) w') _ _ hS_18 (fun _ h => h) ?_
      clear hK K hb_18 hS_17
      try simp only [Act.put, List.setIfInBounds_toArray, List.set_cons_zero, List.set_cons_succ]
      refine Tx.seg (A := ?_) 0 4398046511103 (by kernel_rfl) (by exact hS_18) [19, 20, 21, 22, 23, 24, 25, 26, 27, 28, 29, 30, 31, 32, 33, 34, 35, 36, 37, 38, 39, 40, 41] (by kernel_rfl) ?_ ?_
      rotate_left
      · intro w' hB
        have e4 := (k4.below hB).cell gd.out
        have e8 := k8.below hB
        have e10 := k10.below hB
        have e11 := k11.below hB
        have eh := hand.out
        have eq2 := q2.out w'
        have eq3 := q3' w'
        have eq4 := q4' w'
        iterate 23 (first | (refine rd_skip rfl rfl ?_; simp only [Act.put, List.setIfInBounds_toArray, List.set_cons_zero, List.set_cons_succ]) | (refine rd_load_arr rfl rfl _ _ rfl _ rfl (by kernel_rfl) _ (by assumption) (by first | (rw [lims_len]; kernel_rfl) | (rw [el_rep]; kernel_rfl) | (rw [el_len]; kernel_rfl) | (rw [byts_len]; kernel_rfl) | (rw [us_len]; kernel_rfl) | kernel_rfl) ?_; simp only [Act.put, List.setIfInBounds_toArray, List.set_cons_zero, List.set_cons_succ]) | (refine rd_take (v := ?_) rfl rfl ?_ ?_; rotate_left; (focus (go_simp; try (with_reducible rfl))); simp only [Act.put, List.setIfInBounds_toArray, List.set_cons_zero, List.set_cons_succ]))
        exact rd_nil
      refine Tx.done (by kernel_rfl) ?_
      have kb := bel kb hS_18
      go_wp2_with fail
      go_ret
      exact ⟨rfl, kb⟩

end Go.Proofs.YtdcbpilibaigmaaDoor
