/- Reference of the ladder: the walk of Ladder. -/
import Derived.Test.YtpjkhedodlnloaaRl1
namespace Go.Proofs.Ytpjkhedodlnloaa
open Go.RowKit

/-- What carry leaves of a state's numbers. -/
def ES (v : St) (A B C D : Int) : Prop := EU v.a A ∧ EU v.b B ∧ EU v.c C ∧ EU v.d D

set_option maxHeartbeats 16000000 in
set_option maxRecDepth 100000 in
theorem rladder_any (k u : Nat) (hk : k < 256 ^ 32) (hu : u < 256 ^ 32) (w : World) :
    Calls Try.prog 11 #[.agg (byts k).toArray, .agg (byts u).toArray] w fun e w' => e = .returned (.agg (byts (lmulN k u)).toArray) ∧ Below w.heap.size w w' := by
  obtain ⟨d31, hd31⟩ : ∃ d, u / 256 ^ 31 % 256 = d := ⟨_, rfl⟩
  have l31 : d31 < 256 := hd31 ▸ Nat.mod_lt _ (by decide)
  have a1 := and_127 d31 l31
  obtain ⟨u1, hu1⟩ : ∃ v, u % 2 ^ 255 = v := ⟨_, rfl⟩
  have s1 : (byts u).set 31 (.int .u8 ((d31 % 128 : Nat) : Int)) = byts u1 := byts_set (by decide) hu (by omega) (by
    rw [hd31, ← hu1]
    have : u / 256 ^ 31 = d31 := by omega
    omega)
  have a1' : (((d31 % 128 : Nat) : Int)) = (d31 : Int) % 128 := by omega
  rw [a1'] at s1 a1
  have hu1l : u1 < 256 ^ 32 := by omega
  obtain ⟨n, hn⟩ : ∃ n, clampN k = n := ⟨_, rfl⟩
  have hnl : n < 256 ^ 32 := by
    have := clamp_lt k
    rw [hn] at this
    exact Nat.lt_trans this (by decide)
  obtain ⟨x, hx⟩ : ∃ x, u1 % pN = x := ⟨_, rfl⟩
  have hxp : x < pN := hx ▸ Nat.mod_lt _ pN_pos
  have hxE : EU x u1 := (EU.of hu1l).cong (by rw [← hx, Int.natCast_emod, Int.emod_emod])
  obtain ⟨L, hL⟩ : ∃ L : Nat → St, ladT x n = L := ⟨_, rfl⟩
  have hL0 : L 0 = ⟨1, 0, x, 1⟩ := by rw [← hL]; rfl
  have hLs : ∀ m, L (m + 1) = (stepN x ((L m).swp (n / 2 ^ (254 - m) % 2))).swp (n / 2 ^ (254 - m) % 2) := fun m => by rw [← hL]; rfl
  have hLl : ∀ m, (L m).low := fun m => by rw [← hL]; exact lad_low hxp n m
  obtain ⟨v, hv⟩ : ∃ v, ∀ m, m = 255 → L m = v := ⟨L 255, by rintro m rfl; rfl⟩
  obtain ⟨r, hr⟩ : ∃ r, v.a * (v.b ^ (pN - 2) % pN) % pN = r := ⟨_, rfl⟩
  have hres : lmulN k u = r := by rw [lmulN, hn, hu1, hx, hL, hv 255 rfl, hr]
  rw [hres]
  have hr' : ((v.a : Int) * (v.b : Int) ^ (pN - 2)) % pN = (r : Int) := by
    rw [← hr, Nat.mul_mod_mod, Int.natCast_emod, Int.natCast_mul, Int.natCast_pow]
  have c0 := fun w => rclamp_any k hk w
  rw [hn] at c0
  have c1 := Lib.hid (fun w => rin_any u1 hu1l w)
  have c2 := Lib.hid (fun w => rone_u w)
  have c3 := Lib.hid (fun w => rone_any 121665 w)
  have E1 : EU (1 : Nat) 1 := by unfold EU; rw [rep_one]; exact El.one
  have E0 : EU (0 : Nat) 0 := EU.of (n := 0) (by decide)
  have ES0 : ES (L 0) 1 0 u1 1 := by rw [hL0]; exact ⟨E1, E0, hxE, E1⟩
  have g31 := byts_get u 31 (by decide)
  rw [hd31] at g31
  replace c0 := Lib.hid c0
  replace g31 := Lib.hid g31
  replace s1 := Lib.hid s1
  replace hLs := Lib.hid hLs
  replace hLl := Lib.hid hLl
  replace hv := Lib.hid hv
  replace hr' := Lib.hid hr'
  replace ES0 := Lib.hid ES0
  replace hxE := Lib.hid hxE
  replace hnl := Lib.hid hnl
  clear E1 E0 hL0 hr hres hL hx hn hu1l a1' hu1 hd31 hk hu
  go_enter Try.func11, Try.ntmps11
  go_upto_region 1 with fail
  refine wp_new3 (fun W hsz k2 k3 k4 kb => ?_)
  have k4 : Arr W (w.heap.size + 1 + 1) (byts 0) := k4
  clear hsz
  go_upto_region 1 with (first | (refine wpList_load_arr2 rfl _ _ rfl _ rfl (by decide +kernel) _ (by assumption) (by first | (rw [lims_len]; kernel_rfl) | (rw [el_rep]; kernel_rfl) | (rw [el_len]; kernel_rfl) | (rw [byts_len]; kernel_rfl) | (rw [us_len]; kernel_rfl) | (rw [bytn_len]; kernel_rfl) | (rw [ens_len, digs_len]; kernel_rfl) | kernel_rfl) ?_) | (refine wpList_store_arr rfl _ _ _ rfl _ _ rfl rfl _ (by first | assumption | exact Arr.new _ _ _) (by first | (rw [lims_len]; kernel_rfl) | (rw [el_rep]; kernel_rfl) | (rw [el_len]; kernel_rfl) | (rw [byts_len]; kernel_rfl) | (rw [us_len]; kernel_rfl) | (rw [bytn_len]; kernel_rfl) | (rw [ens_len, digs_len]; kernel_rfl) | kernel_rfl) (by first | (rw [lims_len, lims_len]) | (rw [el_rep, el_rep]) | (rw [el_rep, el_len]; rfl) | (rw [el_len, el_rep]; rfl) | (rw [el_len, el_len]; rfl) | (rw [byts_len, byts_len]) | (rw [lims_len]; rfl) | (rw [byts_len]; rfl) | (rw [us_len, us_len]; rfl) | (rw [bytn_len, bytn_len]) | (rw [bytn_len]; rfl) | (rw [ens_len, ens_len, digs_len, digs_len]) | rfl) (by first | exact lims_one _ _ | exact el_one _ | exact byts_one _ | exact us_one _ | exact bytn_one _ _ | exact ens_one _ | (intro v hv; simp at hv; rcases hv with rfl | rfl | rfl | rfl <;> rfl)) ?_))
  go_wp2_with (first | (refine wpList_load_arr2 rfl _ _ rfl _ rfl (by decide +kernel) _ (by assumption) (by first | (rw [lims_len]; kernel_rfl) | (rw [el_rep]; kernel_rfl) | (rw [el_len]; kernel_rfl) | (rw [byts_len]; kernel_rfl) | (rw [us_len]; kernel_rfl) | (rw [bytn_len]; kernel_rfl) | (rw [ens_len, digs_len]; kernel_rfl) | kernel_rfl) ?_) | (refine wpList_store_arr rfl _ _ _ rfl _ _ rfl rfl _ (by first | assumption | exact Arr.new _ _ _) (by first | (rw [lims_len]; kernel_rfl) | (rw [el_rep]; kernel_rfl) | (rw [el_len]; kernel_rfl) | (rw [byts_len]; kernel_rfl) | (rw [us_len]; kernel_rfl) | (rw [bytn_len]; kernel_rfl) | (rw [ens_len, digs_len]; kernel_rfl) | kernel_rfl) (by first | (rw [lims_len, lims_len]) | (rw [el_rep, el_rep]) | (rw [el_rep, el_len]; rfl) | (rw [el_len, el_rep]; rfl) | (rw [el_len, el_len]; rfl) | (rw [byts_len, byts_len]) | (rw [lims_len]; rfl) | (rw [byts_len]; rfl) | (rw [us_len, us_len]; rfl) | (rw [bytn_len, bytn_len]) | (rw [bytn_len]; rfl) | (rw [ens_len, ens_len, digs_len, digs_len]) | rfl) (by first | exact lims_one _ _ | exact el_one _ | exact byts_one _ | exact us_one _ | exact bytn_one _ _ | exact ens_one _ | (intro v hv; simp at hv; rcases hv with rfl | rfl | rfl | rfl <;> rfl)) ?_))
  refine (c0.out _).mono ?_
  rintro e w_1 ⟨rfl, hb_1⟩
  have k2 := k2.below hb_1
  have k3 := k3.below hb_1
  have k4 := k4.below hb_1
  have kb := bel kb hb_1
  clear hb_1
  go_upto_region 2 with (first | (refine wpList_load_arr2 rfl _ _ rfl _ rfl (by decide +kernel) _ (by assumption) (by first | (rw [lims_len]; kernel_rfl) | (rw [el_rep]; kernel_rfl) | (rw [el_len]; kernel_rfl) | (rw [byts_len]; kernel_rfl) | (rw [us_len]; kernel_rfl) | (rw [bytn_len]; kernel_rfl) | (rw [ens_len, digs_len]; kernel_rfl) | kernel_rfl) ?_) | (refine wpList_store_arr rfl _ _ _ rfl _ _ rfl rfl _ (by first | assumption | exact Arr.new _ _ _) (by first | (rw [lims_len]; kernel_rfl) | (rw [el_rep]; kernel_rfl) | (rw [el_len]; kernel_rfl) | (rw [byts_len]; kernel_rfl) | (rw [us_len]; kernel_rfl) | (rw [bytn_len]; kernel_rfl) | (rw [ens_len, digs_len]; kernel_rfl) | kernel_rfl) (by first | (rw [lims_len, lims_len]) | (rw [el_rep, el_rep]) | (rw [el_rep, el_len]; rfl) | (rw [el_len, el_rep]; rfl) | (rw [el_len, el_len]; rfl) | (rw [byts_len, byts_len]) | (rw [lims_len]; rfl) | (rw [byts_len]; rfl) | (rw [us_len, us_len]; rfl) | (rw [bytn_len, bytn_len]) | (rw [bytn_len]; rfl) | (rw [ens_len, ens_len, digs_len, digs_len]) | rfl) (by first | exact lims_one _ _ | exact el_one _ | exact byts_one _ | exact us_one _ | exact bytn_one _ _ | exact ens_one _ | (intro v hv; simp at hv; rcases hv with rfl | rfl | rfl | rfl <;> rfl)) ?_))
  refine code_row k2 (fun w_2 k2 hoth hbel => ?_)
  have k3 := hoth _ _ (by omega) k3
  have k4 := hoth _ _ (by omega) k4
  have kb := hbel _ _ (by omega) kb
  clear hoth hbel
  have hcel := k3.cell g31.out
  have hfro := k3.frozen 31
  go_upto_region 3 with fail
  refine code_cell k3 (fun w_3 k3 hoth hbel => ?_)
  have k2 := hoth _ _ (by omega) k2
  have k4 := hoth _ _ (by omega) k4
  have kb := hbel _ _ (by omega) kb
  clear hoth hbel
  rw [s1.out] at k3
  clear hcel hfro a1
  go_upto_region 3 with (first | (refine wpList_load_arr2 rfl _ _ rfl _ rfl (by decide +kernel) _ (by assumption) (by first | (rw [lims_len]; kernel_rfl) | (rw [el_rep]; kernel_rfl) | (rw [el_len]; kernel_rfl) | (rw [byts_len]; kernel_rfl) | (rw [us_len]; kernel_rfl) | (rw [bytn_len]; kernel_rfl) | (rw [ens_len, digs_len]; kernel_rfl) | kernel_rfl) ?_) | (refine wpList_store_arr rfl _ _ _ rfl _ _ rfl rfl _ (by first | assumption | exact Arr.new _ _ _) (by first | (rw [lims_len]; kernel_rfl) | (rw [el_rep]; kernel_rfl) | (rw [el_len]; kernel_rfl) | (rw [byts_len]; kernel_rfl) | (rw [us_len]; kernel_rfl) | (rw [bytn_len]; kernel_rfl) | (rw [ens_len, digs_len]; kernel_rfl) | kernel_rfl) (by first | (rw [lims_len, lims_len]) | (rw [el_rep, el_rep]) | (rw [el_rep, el_len]; rfl) | (rw [el_len, el_rep]; rfl) | (rw [el_len, el_len]; rfl) | (rw [byts_len, byts_len]) | (rw [lims_len]; rfl) | (rw [byts_len]; rfl) | (rw [us_len, us_len]; rfl) | (rw [bytn_len, bytn_len]) | (rw [bytn_len]; rfl) | (rw [ens_len, ens_len, digs_len, digs_len]) | rfl) (by first | exact lims_one _ _ | exact el_one _ | exact byts_one _ | exact us_one _ | exact bytn_one _ _ | exact ens_one _ | (intro v hv; simp at hv; rcases hv with rfl | rfl | rfl | rfl <;> rfl)) ?_))
  go_wp2_with (first | (refine wpList_load_arr2 rfl _ _ rfl _ rfl (by decide +kernel) _ (by assumption) (by first | (rw [lims_len]; kernel_rfl) | (rw [el_rep]; kernel_rfl) | (rw [el_len]; kernel_rfl) | (rw [byts_len]; kernel_rfl) | (rw [us_len]; kernel_rfl) | (rw [bytn_len]; kernel_rfl) | (rw [ens_len, digs_len]; kernel_rfl) | kernel_rfl) ?_) | (refine wpList_store_arr rfl _ _ _ rfl _ _ rfl rfl _ (by first | assumption | exact Arr.new _ _ _) (by first | (rw [lims_len]; kernel_rfl) | (rw [el_rep]; kernel_rfl) | (rw [el_len]; kernel_rfl) | (rw [byts_len]; kernel_rfl) | (rw [us_len]; kernel_rfl) | (rw [bytn_len]; kernel_rfl) | (rw [ens_len, digs_len]; kernel_rfl) | kernel_rfl) (by first | (rw [lims_len, lims_len]) | (rw [el_rep, el_rep]) | (rw [el_rep, el_len]; rfl) | (rw [el_len, el_rep]; rfl) | (rw [el_len, el_len]; rfl) | (rw [byts_len, byts_len]) | (rw [lims_len]; rfl) | (rw [byts_len]; rfl) | (rw [us_len, us_len]; rfl) | (rw [bytn_len, bytn_len]) | (rw [bytn_len]; rfl) | (rw [ens_len, ens_len, digs_len, digs_len]) | rfl) (by first | exact lims_one _ _ | exact el_one _ | exact byts_one _ | exact us_one _ | exact bytn_one _ _ | exact ens_one _ | (intro v hv; simp at hv; rcases hv with rfl | rfl | rfl | rfl <;> rfl)) ?_))
  refine (c1.out _).mono ?_
  rintro e w_4 ⟨rfl, hb_4⟩
  have k2 := k2.below hb_4
  have k3 := k3.below hb_4
  have k4 := k4.below hb_4
  have kb := bel kb hb_4
  clear hb_4
  go_upto_region 4 with (first | (refine wpList_load_arr2 rfl _ _ rfl _ rfl (by decide +kernel) _ (by assumption) (by first | (rw [lims_len]; kernel_rfl) | (rw [el_rep]; kernel_rfl) | (rw [el_len]; kernel_rfl) | (rw [byts_len]; kernel_rfl) | (rw [us_len]; kernel_rfl) | (rw [bytn_len]; kernel_rfl) | (rw [ens_len, digs_len]; kernel_rfl) | kernel_rfl) ?_) | (refine wpList_store_arr rfl _ _ _ rfl _ _ rfl rfl _ (by first | assumption | exact Arr.new _ _ _) (by first | (rw [lims_len]; kernel_rfl) | (rw [el_rep]; kernel_rfl) | (rw [el_len]; kernel_rfl) | (rw [byts_len]; kernel_rfl) | (rw [us_len]; kernel_rfl) | (rw [bytn_len]; kernel_rfl) | (rw [ens_len, digs_len]; kernel_rfl) | kernel_rfl) (by first | (rw [lims_len, lims_len]) | (rw [el_rep, el_rep]) | (rw [el_rep, el_len]; rfl) | (rw [el_len, el_rep]; rfl) | (rw [el_len, el_len]; rfl) | (rw [byts_len, byts_len]) | (rw [lims_len]; rfl) | (rw [byts_len]; rfl) | (rw [us_len, us_len]; rfl) | (rw [bytn_len, bytn_len]) | (rw [bytn_len]; rfl) | (rw [ens_len, ens_len, digs_len, digs_len]) | rfl) (by first | exact lims_one _ _ | exact el_one _ | exact byts_one _ | exact us_one _ | exact bytn_one _ _ | exact ens_one _ | (intro v hv; simp at hv; rcases hv with rfl | rfl | rfl | rfl <;> rfl)) ?_))
  have hg_k5_k2 := k2.lt
  have hg_k5_k3 := k3.lt
  have hg_k5_k4 := k4.lt
  refine code_new (fun w_5 k5 hnew => ?_)
  have k2 := k2.below hnew
  have k3 := k3.below hnew
  have k4 := k4.below hnew
  have kb := bel kb hnew
  clear hnew
  generalize (w_4).heap.size = g_k5 at k5 hg_k5_k2 hg_k5_k3 hg_k5_k4 ⊢
  go_upto_region 4 with (first | (refine wpList_load_arr2 rfl _ _ rfl _ rfl (by decide +kernel) _ (by assumption) (by first | (rw [lims_len]; kernel_rfl) | (rw [el_rep]; kernel_rfl) | (rw [el_len]; kernel_rfl) | (rw [byts_len]; kernel_rfl) | (rw [us_len]; kernel_rfl) | (rw [bytn_len]; kernel_rfl) | (rw [ens_len, digs_len]; kernel_rfl) | kernel_rfl) ?_) | (refine wpList_store_arr rfl _ _ _ rfl _ _ rfl rfl _ (by first | assumption | exact Arr.new _ _ _) (by first | (rw [lims_len]; kernel_rfl) | (rw [el_rep]; kernel_rfl) | (rw [el_len]; kernel_rfl) | (rw [byts_len]; kernel_rfl) | (rw [us_len]; kernel_rfl) | (rw [bytn_len]; kernel_rfl) | (rw [ens_len, digs_len]; kernel_rfl) | kernel_rfl) (by first | (rw [lims_len, lims_len]) | (rw [el_rep, el_rep]) | (rw [el_rep, el_len]; rfl) | (rw [el_len, el_rep]; rfl) | (rw [el_len, el_len]; rfl) | (rw [byts_len, byts_len]) | (rw [lims_len]; rfl) | (rw [byts_len]; rfl) | (rw [us_len, us_len]; rfl) | (rw [bytn_len, bytn_len]) | (rw [bytn_len]; rfl) | (rw [ens_len, ens_len, digs_len, digs_len]) | rfl) (by first | exact lims_one _ _ | exact el_one _ | exact byts_one _ | exact us_one _ | exact bytn_one _ _ | exact ens_one _ | (intro v hv; simp at hv; rcases hv with rfl | rfl | rfl | rfl <;> rfl)) ?_))
  go_wp2_with (first | (refine wpList_load_arr2 rfl _ _ rfl _ rfl (by decide +kernel) _ (by assumption) (by first | (rw [lims_len]; kernel_rfl) | (rw [el_rep]; kernel_rfl) | (rw [el_len]; kernel_rfl) | (rw [byts_len]; kernel_rfl) | (rw [us_len]; kernel_rfl) | (rw [bytn_len]; kernel_rfl) | (rw [ens_len, digs_len]; kernel_rfl) | kernel_rfl) ?_) | (refine wpList_store_arr rfl _ _ _ rfl _ _ rfl rfl _ (by first | assumption | exact Arr.new _ _ _) (by first | (rw [lims_len]; kernel_rfl) | (rw [el_rep]; kernel_rfl) | (rw [el_len]; kernel_rfl) | (rw [byts_len]; kernel_rfl) | (rw [us_len]; kernel_rfl) | (rw [bytn_len]; kernel_rfl) | (rw [ens_len, digs_len]; kernel_rfl) | kernel_rfl) (by first | (rw [lims_len, lims_len]) | (rw [el_rep, el_rep]) | (rw [el_rep, el_len]; rfl) | (rw [el_len, el_rep]; rfl) | (rw [el_len, el_len]; rfl) | (rw [byts_len, byts_len]) | (rw [lims_len]; rfl) | (rw [byts_len]; rfl) | (rw [us_len, us_len]; rfl) | (rw [bytn_len, bytn_len]) | (rw [bytn_len]; rfl) | (rw [ens_len, ens_len, digs_len, digs_len]) | rfl) (by first | exact lims_one _ _ | exact el_one _ | exact byts_one _ | exact us_one _ | exact bytn_one _ _ | exact ens_one _ | (intro v hv; simp at hv; rcases hv with rfl | rfl | rfl | rfl <;> rfl)) ?_))
  refine (c2.out _).mono ?_
  rintro e w_6 ⟨rfl, hb_6⟩
  have k2 := k2.below hb_6
  have k3 := k3.below hb_6
  have k4 := k4.below hb_6
  have k5 := k5.below hb_6
  have kb := bel kb hb_6
  clear hb_6
  go_upto_region 5 with (first | (refine wpList_load_arr2 rfl _ _ rfl _ rfl (by decide +kernel) _ (by assumption) (by first | (rw [lims_len]; kernel_rfl) | (rw [el_rep]; kernel_rfl) | (rw [el_len]; kernel_rfl) | (rw [byts_len]; kernel_rfl) | (rw [us_len]; kernel_rfl) | (rw [bytn_len]; kernel_rfl) | (rw [ens_len, digs_len]; kernel_rfl) | kernel_rfl) ?_) | (refine wpList_store_arr rfl _ _ _ rfl _ _ rfl rfl _ (by first | assumption | exact Arr.new _ _ _) (by first | (rw [lims_len]; kernel_rfl) | (rw [el_rep]; kernel_rfl) | (rw [el_len]; kernel_rfl) | (rw [byts_len]; kernel_rfl) | (rw [us_len]; kernel_rfl) | (rw [bytn_len]; kernel_rfl) | (rw [ens_len, digs_len]; kernel_rfl) | kernel_rfl) (by first | (rw [lims_len, lims_len]) | (rw [el_rep, el_rep]) | (rw [el_rep, el_len]; rfl) | (rw [el_len, el_rep]; rfl) | (rw [el_len, el_len]; rfl) | (rw [byts_len, byts_len]) | (rw [lims_len]; rfl) | (rw [byts_len]; rfl) | (rw [us_len, us_len]; rfl) | (rw [bytn_len, bytn_len]) | (rw [bytn_len]; rfl) | (rw [ens_len, ens_len, digs_len, digs_len]) | rfl) (by first | exact lims_one _ _ | exact el_one _ | exact byts_one _ | exact us_one _ | exact bytn_one _ _ | exact ens_one _ | (intro v hv; simp at hv; rcases hv with rfl | rfl | rfl | rfl <;> rfl)) ?_))
  have hg_k6_k2 := k2.lt
  have hg_k6_k3 := k3.lt
  have hg_k6_k4 := k4.lt
  have hg_k6_k5 := k5.lt
  refine code_new (fun w_7 k6 hnew => ?_)
  have k2 := k2.below hnew
  have k3 := k3.below hnew
  have k4 := k4.below hnew
  have k5 := k5.below hnew
  have kb := bel kb hnew
  clear hnew
  generalize (w_6).heap.size = g_k6 at k6 hg_k6_k2 hg_k6_k3 hg_k6_k4 hg_k6_k5 ⊢
  go_upto_region 6 with (first | (refine wpList_load_arr2 rfl _ _ rfl _ rfl (by decide +kernel) _ (by assumption) (by first | (rw [lims_len]; kernel_rfl) | (rw [el_rep]; kernel_rfl) | (rw [el_len]; kernel_rfl) | (rw [byts_len]; kernel_rfl) | (rw [us_len]; kernel_rfl) | (rw [bytn_len]; kernel_rfl) | (rw [ens_len, digs_len]; kernel_rfl) | kernel_rfl) ?_) | (refine wpList_store_arr rfl _ _ _ rfl _ _ rfl rfl _ (by first | assumption | exact Arr.new _ _ _) (by first | (rw [lims_len]; kernel_rfl) | (rw [el_rep]; kernel_rfl) | (rw [el_len]; kernel_rfl) | (rw [byts_len]; kernel_rfl) | (rw [us_len]; kernel_rfl) | (rw [bytn_len]; kernel_rfl) | (rw [ens_len, digs_len]; kernel_rfl) | kernel_rfl) (by first | (rw [lims_len, lims_len]) | (rw [el_rep, el_rep]) | (rw [el_rep, el_len]; rfl) | (rw [el_len, el_rep]; rfl) | (rw [el_len, el_len]; rfl) | (rw [byts_len, byts_len]) | (rw [lims_len]; rfl) | (rw [byts_len]; rfl) | (rw [us_len, us_len]; rfl) | (rw [bytn_len, bytn_len]) | (rw [bytn_len]; rfl) | (rw [ens_len, ens_len, digs_len, digs_len]) | rfl) (by first | exact lims_one _ _ | exact el_one _ | exact byts_one _ | exact us_one _ | exact bytn_one _ _ | exact ens_one _ | (intro v hv; simp at hv; rcases hv with rfl | rfl | rfl | rfl <;> rfl)) ?_))
  have hg_k7_k2 := k2.lt
  have hg_k7_k3 := k3.lt
  have hg_k7_k4 := k4.lt
  have hg_k7_k5 := k5.lt
  have hg_k7_k6 := k6.lt
  refine code_new (fun w_8 k7 hnew => ?_)
  have k2 := k2.below hnew
  have k3 := k3.below hnew
  have k4 := k4.below hnew
  have k5 := k5.below hnew
  have k6 := k6.below hnew
  have kb := bel kb hnew
  clear hnew
  generalize (w_7).heap.size = g_k7 at k7 hg_k7_k2 hg_k7_k3 hg_k7_k4 hg_k7_k5 hg_k7_k6 ⊢
  have k7 : Arr w_8 g_k7 (el (rep 0)) := k7
  go_upto_region 7 with (first | (refine wpList_load_arr2 rfl _ _ rfl _ rfl (by decide +kernel) _ (by assumption) (by first | (rw [lims_len]; kernel_rfl) | (rw [el_rep]; kernel_rfl) | (rw [el_len]; kernel_rfl) | (rw [byts_len]; kernel_rfl) | (rw [us_len]; kernel_rfl) | (rw [bytn_len]; kernel_rfl) | (rw [ens_len, digs_len]; kernel_rfl) | kernel_rfl) ?_) | (refine wpList_store_arr rfl _ _ _ rfl _ _ rfl rfl _ (by first | assumption | exact Arr.new _ _ _) (by first | (rw [lims_len]; kernel_rfl) | (rw [el_rep]; kernel_rfl) | (rw [el_len]; kernel_rfl) | (rw [byts_len]; kernel_rfl) | (rw [us_len]; kernel_rfl) | (rw [bytn_len]; kernel_rfl) | (rw [ens_len, digs_len]; kernel_rfl) | kernel_rfl) (by first | (rw [lims_len, lims_len]) | (rw [el_rep, el_rep]) | (rw [el_rep, el_len]; rfl) | (rw [el_len, el_rep]; rfl) | (rw [el_len, el_len]; rfl) | (rw [byts_len, byts_len]) | (rw [lims_len]; rfl) | (rw [byts_len]; rfl) | (rw [us_len, us_len]; rfl) | (rw [bytn_len, bytn_len]) | (rw [bytn_len]; rfl) | (rw [ens_len, ens_len, digs_len, digs_len]) | rfl) (by first | exact lims_one _ _ | exact el_one _ | exact byts_one _ | exact us_one _ | exact bytn_one _ _ | exact ens_one _ | (intro v hv; simp at hv; rcases hv with rfl | rfl | rfl | rfl <;> rfl)) ?_))
  have hg_k8_k2 := k2.lt
  have hg_k8_k3 := k3.lt
  have hg_k8_k4 := k4.lt
  have hg_k8_k5 := k5.lt
  have hg_k8_k6 := k6.lt
  have hg_k8_k7 := k7.lt
  refine code_new (fun w_9 k8 hnew => ?_)
  have k2 := k2.below hnew
  have k3 := k3.below hnew
  have k4 := k4.below hnew
  have k5 := k5.below hnew
  have k6 := k6.below hnew
  have k7 := k7.below hnew
  have kb := bel kb hnew
  clear hnew
  generalize (w_8).heap.size = g_k8 at k8 hg_k8_k2 hg_k8_k3 hg_k8_k4 hg_k8_k5 hg_k8_k6 hg_k8_k7 ⊢
  go_upto_region 7 with (first | (refine wpList_load_arr2 rfl _ _ rfl _ rfl (by decide +kernel) _ (by assumption) (by first | (rw [lims_len]; kernel_rfl) | (rw [el_rep]; kernel_rfl) | (rw [el_len]; kernel_rfl) | (rw [byts_len]; kernel_rfl) | (rw [us_len]; kernel_rfl) | (rw [bytn_len]; kernel_rfl) | (rw [ens_len, digs_len]; kernel_rfl) | kernel_rfl) ?_) | (refine wpList_store_arr rfl _ _ _ rfl _ _ rfl rfl _ (by first | assumption | exact Arr.new _ _ _) (by first | (rw [lims_len]; kernel_rfl) | (rw [el_rep]; kernel_rfl) | (rw [el_len]; kernel_rfl) | (rw [byts_len]; kernel_rfl) | (rw [us_len]; kernel_rfl) | (rw [bytn_len]; kernel_rfl) | (rw [ens_len, digs_len]; kernel_rfl) | kernel_rfl) (by first | (rw [lims_len, lims_len]) | (rw [el_rep, el_rep]) | (rw [el_rep, el_len]; rfl) | (rw [el_len, el_rep]; rfl) | (rw [el_len, el_len]; rfl) | (rw [byts_len, byts_len]) | (rw [lims_len]; rfl) | (rw [byts_len]; rfl) | (rw [us_len, us_len]; rfl) | (rw [bytn_len, bytn_len]) | (rw [bytn_len]; rfl) | (rw [ens_len, ens_len, digs_len, digs_len]) | rfl) (by first | exact lims_one _ _ | exact el_one _ | exact byts_one _ | exact us_one _ | exact bytn_one _ _ | exact ens_one _ | (intro v hv; simp at hv; rcases hv with rfl | rfl | rfl | rfl <;> rfl)) ?_))
  go_wp2_with (first | (refine wpList_load_arr2 rfl _ _ rfl _ rfl (by decide +kernel) _ (by assumption) (by first | (rw [lims_len]; kernel_rfl) | (rw [el_rep]; kernel_rfl) | (rw [el_len]; kernel_rfl) | (rw [byts_len]; kernel_rfl) | (rw [us_len]; kernel_rfl) | (rw [bytn_len]; kernel_rfl) | (rw [ens_len, digs_len]; kernel_rfl) | kernel_rfl) ?_) | (refine wpList_store_arr rfl _ _ _ rfl _ _ rfl rfl _ (by first | assumption | exact Arr.new _ _ _) (by first | (rw [lims_len]; kernel_rfl) | (rw [el_rep]; kernel_rfl) | (rw [el_len]; kernel_rfl) | (rw [byts_len]; kernel_rfl) | (rw [us_len]; kernel_rfl) | (rw [bytn_len]; kernel_rfl) | (rw [ens_len, digs_len]; kernel_rfl) | kernel_rfl) (by first | (rw [lims_len, lims_len]) | (rw [el_rep, el_rep]) | (rw [el_rep, el_len]; rfl) | (rw [el_len, el_rep]; rfl) | (rw [el_len, el_len]; rfl) | (rw [byts_len, byts_len]) | (rw [lims_len]; rfl) | (rw [byts_len]; rfl) | (rw [us_len, us_len]; rfl) | (rw [bytn_len, bytn_len]) | (rw [bytn_len]; rfl) | (rw [ens_len, ens_len, digs_len, digs_len]) | rfl) (by first | exact lims_one _ _ | exact el_one _ | exact byts_one _ | exact us_one _ | exact bytn_one _ _ | exact ens_one _ | (intro v hv; simp at hv; rcases hv with rfl | rfl | rfl | rfl <;> rfl)) ?_))
  refine (c2.out _).mono ?_
  rintro e w_10 ⟨rfl, hb_10⟩
  have k2 := k2.below hb_10
  have k3 := k3.below hb_10
  have k4 := k4.below hb_10
  have k5 := k5.below hb_10
  have k6 := k6.below hb_10
  have k7 := k7.below hb_10
  have k8 := k8.below hb_10
  have kb := bel kb hb_10
  clear hb_10
  go_upto_region 8 with (first | (refine wpList_load_arr2 rfl _ _ rfl _ rfl (by decide +kernel) _ (by assumption) (by first | (rw [lims_len]; kernel_rfl) | (rw [el_rep]; kernel_rfl) | (rw [el_len]; kernel_rfl) | (rw [byts_len]; kernel_rfl) | (rw [us_len]; kernel_rfl) | (rw [bytn_len]; kernel_rfl) | (rw [ens_len, digs_len]; kernel_rfl) | kernel_rfl) ?_) | (refine wpList_store_arr rfl _ _ _ rfl _ _ rfl rfl _ (by first | assumption | exact Arr.new _ _ _) (by first | (rw [lims_len]; kernel_rfl) | (rw [el_rep]; kernel_rfl) | (rw [el_len]; kernel_rfl) | (rw [byts_len]; kernel_rfl) | (rw [us_len]; kernel_rfl) | (rw [bytn_len]; kernel_rfl) | (rw [ens_len, digs_len]; kernel_rfl) | kernel_rfl) (by first | (rw [lims_len, lims_len]) | (rw [el_rep, el_rep]) | (rw [el_rep, el_len]; rfl) | (rw [el_len, el_rep]; rfl) | (rw [el_len, el_len]; rfl) | (rw [byts_len, byts_len]) | (rw [lims_len]; rfl) | (rw [byts_len]; rfl) | (rw [us_len, us_len]; rfl) | (rw [bytn_len, bytn_len]) | (rw [bytn_len]; rfl) | (rw [ens_len, ens_len, digs_len, digs_len]) | rfl) (by first | exact lims_one _ _ | exact el_one _ | exact byts_one _ | exact us_one _ | exact bytn_one _ _ | exact ens_one _ | (intro v hv; simp at hv; rcases hv with rfl | rfl | rfl | rfl <;> rfl)) ?_))
  have hg_k9_k2 := k2.lt
  have hg_k9_k3 := k3.lt
  have hg_k9_k4 := k4.lt
  have hg_k9_k5 := k5.lt
  have hg_k9_k6 := k6.lt
  have hg_k9_k7 := k7.lt
  have hg_k9_k8 := k8.lt
  refine code_new (fun w_11 k9 hnew => ?_)
  have k2 := k2.below hnew
  have k3 := k3.below hnew
  have k4 := k4.below hnew
  have k5 := k5.below hnew
  have k6 := k6.below hnew
  have k7 := k7.below hnew
  have k8 := k8.below hnew
  have kb := bel kb hnew
  clear hnew
  generalize (w_10).heap.size = g_k9 at k9 hg_k9_k2 hg_k9_k3 hg_k9_k4 hg_k9_k5 hg_k9_k6 hg_k9_k7 hg_k9_k8 ⊢
  go_wp2_with fail
  go_loopw [10] (fun kv wr => ∃ (j : Nat) (A B C D : Int), j ≤ 255 ∧ kv = .int .i64 ((j : Int) - 1) ∧ ES (L (255 - j)) A B C D ∧ Arr wr w.heap.size (byts n) ∧ Arr wr (w.heap.size + 1 + 1) (byts 0) ∧ Arr wr g_k5 (el (rep u1)) ∧ Arr wr g_k6 (el (rep A)) ∧ Arr wr g_k7 (el (rep B)) ∧ Arr wr g_k8 (el (rep C)) ∧ Arr wr g_k9 (el (rep D)) ∧ Below w.heap.size w wr) (fun kv _ => (intOf kv + 1).toNat)
  case atStart => exact ⟨255, 1, 0, u1, 1, Nat.le_refl _, rfl, ES0.out, k2, k4, k5, k6, k7, k8, k9, kb⟩
  case round =>
    clear k2 k3 k4 k5 k6 k7 k8 k9 kb
    obtain ⟨j, A, B, C, D, hj, rfl, hES, k2, k4, k5, k6, k7, k8, k9, kb⟩ := hrel
    rcases Nat.eq_zero_or_pos j with rfl | hj0
    · have e : ((0 : Nat) : Int) - 1 = -1 := rfl
      rw [e]
      clear e
      rw [hv.out (255 - 0) rfl] at hES
      obtain ⟨E1, E2, -, -⟩ := hES
      obtain ⟨I, hI⟩ : ∃ I, powU B (pN - 2) 256 = I := ⟨_, rfl⟩
      have E3 := EU.pow E2 (e := pN - 2) (by decide)
      rw [hI] at E3
      obtain ⟨M, hM⟩ : ∃ M, mulU A I = M := ⟨_, rfl⟩
      have E4 := EU.mul E1 E3
      rw [hM] at E4
      have d1 := Lib.hid (fun w => rinv_u E2 (Lib.hid hI) w)
      have d2 := Lib.hid (fun w => rmul_u E1 E3 (Lib.hid hM) w)
      have d3 := Lib.hid (fun w => rout_el E4 hr'.out w)
      clear E1 E2 E3 E4 hI hM hLs hLl hv
      go_upto_region 31 with fail
      go_upto_region 31 with (first | (refine wpList_load_arr2 rfl _ _ rfl _ rfl (by decide +kernel) _ (by assumption) (by first | (rw [lims_len]; kernel_rfl) | (rw [el_rep]; kernel_rfl) | (rw [el_len]; kernel_rfl) | (rw [byts_len]; kernel_rfl) | (rw [us_len]; kernel_rfl) | (rw [bytn_len]; kernel_rfl) | (rw [ens_len, digs_len]; kernel_rfl) | kernel_rfl) ?_) | (refine wpList_store_arr rfl _ _ _ rfl _ _ rfl rfl _ (by first | assumption | exact Arr.new _ _ _) (by first | (rw [lims_len]; kernel_rfl) | (rw [el_rep]; kernel_rfl) | (rw [el_len]; kernel_rfl) | (rw [byts_len]; kernel_rfl) | (rw [us_len]; kernel_rfl) | (rw [bytn_len]; kernel_rfl) | (rw [ens_len, digs_len]; kernel_rfl) | kernel_rfl) (by first | (rw [lims_len, lims_len]) | (rw [el_rep, el_rep]) | (rw [el_rep, el_len]; rfl) | (rw [el_len, el_rep]; rfl) | (rw [el_len, el_len]; rfl) | (rw [byts_len, byts_len]) | (rw [lims_len]; rfl) | (rw [byts_len]; rfl) | (rw [us_len, us_len]; rfl) | (rw [bytn_len, bytn_len]) | (rw [bytn_len]; rfl) | (rw [ens_len, ens_len, digs_len, digs_len]) | rfl) (by first | exact lims_one _ _ | exact el_one _ | exact byts_one _ | exact us_one _ | exact bytn_one _ _ | exact ens_one _ | (intro v hv; simp at hv; rcases hv with rfl | rfl | rfl | rfl <;> rfl)) ?_))
      refine Tx.start (fun w' => Below (wr).heap.size (wr) w') 5 6 rfl (by kernel_rfl) ?_
      have hS_12 : Below (wr).heap.size (wr) (World.drew wr) := (Below.refl _ _).drew
      refine Tx.seg (A := ?_) 4 3 (by kernel_rfl) (by exact hS_12) [0, 1] (by kernel_rfl) ?_ ?_
      rotate_left
      · intro w' hB
        have e0 := k4.below hB
        have e1 := k6.below hB
        have e2 := k7.below hB
        iterate 2 (first | (refine rd_skip rfl rfl ?_; simp only [Act.put, List.setIfInBounds_toArray, List.set_cons_zero, List.set_cons_succ]) | (refine rd_load_arr rfl rfl _ _ rfl _ rfl (by decide +kernel) _ (by assumption) (by first | (rw [lims_len]; kernel_rfl) | (rw [el_rep]; kernel_rfl) | (rw [el_len]; kernel_rfl) | (rw [byts_len]; kernel_rfl) | (rw [us_len]; kernel_rfl) | (rw [bytn_len]; kernel_rfl) | (rw [ens_len, digs_len]; kernel_rfl) | kernel_rfl) ?_; simp only [Act.put, List.setIfInBounds_toArray, List.set_cons_zero, List.set_cons_succ]) | (refine rd_take (v := ?_) rfl rfl ?_ ?_; rotate_left; (focus (go_simp; try (with_reducible rfl))); simp only [Act.put, List.setIfInBounds_toArray, List.set_cons_zero, List.set_cons_succ]) | (refine rd_take (v := ?_) rfl rfl ?_ ?_; rotate_left; (focus (try go_simp); fail)))
        exact rd_nil
      refine Tx.eff 2 7 rfl (by decide +kernel) (fun K hK => ?_)
      go_simp
      refine (d1.out _).mono ?_
      rintro e w_13 ⟨rfl, hb_13⟩
      have hS_13 := ext_trans hS_12 (Nat.le_refl _) hb_13
      refine hK (fun w' => Below (wr).heap.size (wr) w') _ _ hS_13 (fun _ h => h) ?_
      clear hK K hb_13 hS_12
      try simp only [Act.put, List.setIfInBounds_toArray, List.set_cons_zero, List.set_cons_succ]
      refine Tx.eff 3 15 rfl (by decide +kernel) (fun K hK => ?_)
      go_simp
      refine (d2.out _).mono ?_
      rintro e w_14 ⟨rfl, hb_14⟩
      have hS_14 := ext_trans hS_13 (Nat.le_refl _) hb_14
      refine hK (fun w' => Below (wr).heap.size (wr) w') _ _ hS_14 (fun _ h => h) ?_
      clear hK K hb_14 hS_13
      try simp only [Act.put, List.setIfInBounds_toArray, List.set_cons_zero, List.set_cons_succ]
      refine Tx.eff 4 31 rfl (by decide +kernel) (fun K hK => ?_)
      go_simp
      refine (d3.out _).mono ?_
      rintro e w_15 ⟨rfl, hb_15⟩
      have hS_15 := ext_trans hS_14 (Nat.le_refl _) hb_15
      refine hK (fun w' => Below (wr).heap.size (wr) w') _ _ hS_15 (fun _ h => h) ?_
      clear hK K hb_15 hS_14
      try simp only [Act.put, List.setIfInBounds_toArray, List.set_cons_zero, List.set_cons_succ]
      have k4 := k4.below hS_15
      have k6 := k6.below hS_15
      have k7 := k7.below hS_15
      have kb := bel kb hS_15
      refine Tx.bar 63 rfl (by decide +kernel) (fun K hK => ?_)
      refine step_store_arr rfl _ _ _ rfl _ _ rfl rfl _ (by assumption) (by first | (rw [lims_len]; kernel_rfl) | (rw [el_rep]; kernel_rfl) | (rw [el_len]; kernel_rfl) | (rw [byts_len]; kernel_rfl) | (rw [us_len]; kernel_rfl) | (rw [bytn_len]; kernel_rfl) | (rw [ens_len, digs_len]; kernel_rfl) | kernel_rfl) (by first | (rw [lims_len, lims_len]) | (rw [el_rep, el_rep]) | (rw [el_rep, el_len]; rfl) | (rw [el_len, el_rep]; rfl) | (rw [el_len, el_len]; rfl) | (rw [byts_len, byts_len]) | (rw [lims_len]; rfl) | (rw [byts_len]; rfl) | (rw [us_len, us_len]; rfl) | (rw [bytn_len, bytn_len]) | (rw [bytn_len]; rfl) | (rw [ens_len, ens_len, digs_len, digs_len]) | rfl) (by first | exact lims_one _ _ | exact el_one _ | exact byts_one _ | exact us_one _ | exact bytn_one _ _ | exact ens_one _ | (intro v hv; simp at hv; rcases hv with rfl | rfl | rfl | rfl <;> rfl)) ?_
      refine hK (fun _ => True) 9999 _ _ ?_
      clear hK K
      try simp only [Act.put]
      try simp only [List.setIfInBounds_toArray, List.set_cons_zero, List.set_cons_succ]
      refine Tx.done (by kernel_rfl) ?_
      refine then_row k4 (fun w_16 k4 hoth hbel => ?_)
      have k6 := hoth _ _ (by omega) k6
      have k7 := hoth _ _ (by omega) k7
      have kb := hbel _ _ (by omega) kb
      clear hoth hbel
      go_wp2_with (first | (refine wpList_load_arr2 rfl _ _ rfl _ rfl (by decide +kernel) _ (by assumption) (by first | (rw [lims_len]; kernel_rfl) | (rw [el_rep]; kernel_rfl) | (rw [el_len]; kernel_rfl) | (rw [byts_len]; kernel_rfl) | (rw [us_len]; kernel_rfl) | (rw [bytn_len]; kernel_rfl) | (rw [ens_len, digs_len]; kernel_rfl) | kernel_rfl) ?_) | (refine wpList_store_arr rfl _ _ _ rfl _ _ rfl rfl _ (by first | assumption | exact Arr.new _ _ _) (by first | (rw [lims_len]; kernel_rfl) | (rw [el_rep]; kernel_rfl) | (rw [el_len]; kernel_rfl) | (rw [byts_len]; kernel_rfl) | (rw [us_len]; kernel_rfl) | (rw [bytn_len]; kernel_rfl) | (rw [ens_len, digs_len]; kernel_rfl) | kernel_rfl) (by first | (rw [lims_len, lims_len]) | (rw [el_rep, el_rep]) | (rw [el_rep, el_len]; rfl) | (rw [el_len, el_rep]; rfl) | (rw [el_len, el_len]; rfl) | (rw [byts_len, byts_len]) | (rw [lims_len]; rfl) | (rw [byts_len]; rfl) | (rw [us_len, us_len]; rfl) | (rw [bytn_len, bytn_len]) | (rw [bytn_len]; rfl) | (rw [ens_len, ens_len, digs_len, digs_len]) | rfl) (by first | exact lims_one _ _ | exact el_one _ | exact byts_one _ | exact us_one _ | exact bytn_one _ _ | exact ens_one _ | (intro v hv; simp at hv; rcases hv with rfl | rfl | rfl | rfl <;> rfl)) ?_))
      exact bodyPost_ret (results_arr2 Try.results11 _ _ _ rfl (by kernel_rfl) _ (by first | assumption | exact Arr.setRow (by assumption) _) (by first | (rw [lims_len]; kernel_rfl) | (rw [el_rep]; kernel_rfl) | (rw [el_len]; kernel_rfl) | (rw [byts_len]; kernel_rfl) | (rw [us_len]; kernel_rfl) | (rw [bytn_len]; kernel_rfl) | (rw [ens_len, digs_len]; kernel_rfl) | kernel_rfl)) rfl ⟨rfl, kb⟩
    · obtain ⟨m, rfl⟩ : ∃ m, j = m + 1 := ⟨j - 1, by omega⟩
      have e : ((m + 1 : Nat) : Int) - 1 = (m : Int) := by omega
      rw [e]
      clear e
      obtain ⟨t, ht⟩ : ∃ t, n / 2 ^ m % 2 = t := ⟨_, rfl⟩
      have ht1 : t ≤ 1 := by omega
      have hnext := hLs.out (255 - (m + 1))
      rw [show 255 - (m + 1) + 1 = 255 - m by omega, show 254 - (255 - (m + 1)) = m by omega, ht] at hnext
      have hal := hLl.out (255 - (m + 1))
      obtain ⟨q, hq⟩ : ∃ q, L (255 - (m + 1)) = q := ⟨_, rfl⟩
      rw [hq] at hES hnext hal
      have hbb := byte_bit n m
      rw [ht] at hbb
      obtain ⟨b, hb⟩ : ∃ b, n / 256 ^ (m / 8) % 256 = b := ⟨_, rfl⟩
      have hbl : b < 256 := hb ▸ Nat.mod_lt _ (by decide)
      rw [hb] at hbb
      have gb := byts_get n (m / 8) (by omega)
      rw [hb] at gb
      have hand : bits BinOp.and IntKind.u8 ((b : Int) / 2 ^ (m % 8)) 1 = (t : Int) := by
        have h1 := and_u8_one (b / 2 ^ (m % 8)) (by have := Nat.div_le_self b (2 ^ (m % 8)); omega)
        rw [hbb] at h1
        rw [← h1]
        simp
      have im0 : (0 : Int) ≤ (m : Int) / 8 := by omega
      have im1 : (m : Int) / 8 < 32 := by omega
      have im3 : ((m : Int) / 8).toNat = m / 8 := by omega
      have im6 : (0 : Int) ≤ (m : Int) % 8 := by omega
      have im8 : (m : Int) % 8 < 8 := by omega
      have im7 : ((m : Int) % 8).toNat = m % 8 := by omega
      have hcel := k2.cell gb
      replace gb := Lib.hid gb
      replace hb := Lib.hid hb
      replace hq := Lib.hid hq
      replace hnext := Lib.hid hnext
      clear hbb ht
      by_cases h1 : t = 1
      · subst h1
        obtain ⟨E3, E4, E1, E2⟩ := hES
        obtain ⟨lc, ld, la, lb⟩ := hal
        go_upto_region 15 with (first | (refine wpList_load_arr2 rfl _ _ rfl _ rfl (by decide +kernel) _ (by assumption) (by first | (rw [lims_len]; kernel_rfl) | (rw [el_rep]; kernel_rfl) | (rw [el_len]; kernel_rfl) | (rw [byts_len]; kernel_rfl) | (rw [us_len]; kernel_rfl) | (rw [bytn_len]; kernel_rfl) | (rw [ens_len, digs_len]; kernel_rfl) | kernel_rfl) ?_) | (refine wpl_store rfl _ _ _ rfl _ _ rfl rfl _ k6 (by first | (rw [lims_len]; kernel_rfl) | (rw [el_rep]; kernel_rfl) | (rw [el_len]; kernel_rfl) | (rw [byts_len]; kernel_rfl) | (rw [us_len]; kernel_rfl) | (rw [bytn_len]; kernel_rfl) | (rw [ens_len, digs_len]; kernel_rfl) | kernel_rfl) (by first | (rw [lims_len, lims_len]) | (rw [el_rep, el_rep]) | (rw [el_rep, el_len]; rfl) | (rw [el_len, el_rep]; rfl) | (rw [el_len, el_len]; rfl) | (rw [byts_len, byts_len]) | (rw [lims_len]; rfl) | (rw [byts_len]; rfl) | (rw [us_len, us_len]; rfl) | (rw [bytn_len, bytn_len]) | (rw [bytn_len]; rfl) | (rw [ens_len, ens_len, digs_len, digs_len]) | rfl) (by first | exact lims_one _ _ | exact el_one _ | exact byts_one _ | exact us_one _ | exact bytn_one _ _ | exact ens_one _ | (intro v hv; simp at hv; rcases hv with rfl | rfl | rfl | rfl <;> rfl)) (fun w_17 k6 hoth hbel => ?_); have k8 := hoth _ _ (by omega) k8; have k7 := hoth _ _ (by omega) k7; have k9 := hoth _ _ (by omega) k9; have k2 := hoth _ _ (by omega) k2; have k4 := hoth _ _ (by omega) k4; have k5 := hoth _ _ (by omega) k5; have kb := hbel _ _ (by omega) kb; clear hoth hbel) | (refine wpl_store rfl _ _ _ rfl _ _ rfl rfl _ k8 (by first | (rw [lims_len]; kernel_rfl) | (rw [el_rep]; kernel_rfl) | (rw [el_len]; kernel_rfl) | (rw [byts_len]; kernel_rfl) | (rw [us_len]; kernel_rfl) | (rw [bytn_len]; kernel_rfl) | (rw [ens_len, digs_len]; kernel_rfl) | kernel_rfl) (by first | (rw [lims_len, lims_len]) | (rw [el_rep, el_rep]) | (rw [el_rep, el_len]; rfl) | (rw [el_len, el_rep]; rfl) | (rw [el_len, el_len]; rfl) | (rw [byts_len, byts_len]) | (rw [lims_len]; rfl) | (rw [byts_len]; rfl) | (rw [us_len, us_len]; rfl) | (rw [bytn_len, bytn_len]) | (rw [bytn_len]; rfl) | (rw [ens_len, ens_len, digs_len, digs_len]) | rfl) (by first | exact lims_one _ _ | exact el_one _ | exact byts_one _ | exact us_one _ | exact bytn_one _ _ | exact ens_one _ | (intro v hv; simp at hv; rcases hv with rfl | rfl | rfl | rfl <;> rfl)) (fun w_17 k8 hoth hbel => ?_); have k6 := hoth _ _ (by omega) k6; have k7 := hoth _ _ (by omega) k7; have k9 := hoth _ _ (by omega) k9; have k2 := hoth _ _ (by omega) k2; have k4 := hoth _ _ (by omega) k4; have k5 := hoth _ _ (by omega) k5; have kb := hbel _ _ (by omega) kb; clear hoth hbel) | (refine wpl_store rfl _ _ _ rfl _ _ rfl rfl _ k7 (by first | (rw [lims_len]; kernel_rfl) | (rw [el_rep]; kernel_rfl) | (rw [el_len]; kernel_rfl) | (rw [byts_len]; kernel_rfl) | (rw [us_len]; kernel_rfl) | (rw [bytn_len]; kernel_rfl) | (rw [ens_len, digs_len]; kernel_rfl) | kernel_rfl) (by first | (rw [lims_len, lims_len]) | (rw [el_rep, el_rep]) | (rw [el_rep, el_len]; rfl) | (rw [el_len, el_rep]; rfl) | (rw [el_len, el_len]; rfl) | (rw [byts_len, byts_len]) | (rw [lims_len]; rfl) | (rw [byts_len]; rfl) | (rw [us_len, us_len]; rfl) | (rw [bytn_len, bytn_len]) | (rw [bytn_len]; rfl) | (rw [ens_len, ens_len, digs_len, digs_len]) | rfl) (by first | exact lims_one _ _ | exact el_one _ | exact byts_one _ | exact us_one _ | exact bytn_one _ _ | exact ens_one _ | (intro v hv; simp at hv; rcases hv with rfl | rfl | rfl | rfl <;> rfl)) (fun w_17 k7 hoth hbel => ?_); have k6 := hoth _ _ (by omega) k6; have k8 := hoth _ _ (by omega) k8; have k9 := hoth _ _ (by omega) k9; have k2 := hoth _ _ (by omega) k2; have k4 := hoth _ _ (by omega) k4; have k5 := hoth _ _ (by omega) k5; have kb := hbel _ _ (by omega) kb; clear hoth hbel) | (refine wpl_store rfl _ _ _ rfl _ _ rfl rfl _ k9 (by first | (rw [lims_len]; kernel_rfl) | (rw [el_rep]; kernel_rfl) | (rw [el_len]; kernel_rfl) | (rw [byts_len]; kernel_rfl) | (rw [us_len]; kernel_rfl) | (rw [bytn_len]; kernel_rfl) | (rw [ens_len, digs_len]; kernel_rfl) | kernel_rfl) (by first | (rw [lims_len, lims_len]) | (rw [el_rep, el_rep]) | (rw [el_rep, el_len]; rfl) | (rw [el_len, el_rep]; rfl) | (rw [el_len, el_len]; rfl) | (rw [byts_len, byts_len]) | (rw [lims_len]; rfl) | (rw [byts_len]; rfl) | (rw [us_len, us_len]; rfl) | (rw [bytn_len, bytn_len]) | (rw [bytn_len]; rfl) | (rw [ens_len, ens_len, digs_len, digs_len]) | rfl) (by first | exact lims_one _ _ | exact el_one _ | exact byts_one _ | exact us_one _ | exact bytn_one _ _ | exact ens_one _ | (intro v hv; simp at hv; rcases hv with rfl | rfl | rfl | rfl <;> rfl)) (fun w_17 k9 hoth hbel => ?_); have k6 := hoth _ _ (by omega) k6; have k8 := hoth _ _ (by omega) k8; have k7 := hoth _ _ (by omega) k7; have k2 := hoth _ _ (by omega) k2; have k4 := hoth _ _ (by omega) k4; have k5 := hoth _ _ (by omega) k5; have kb := hbel _ _ (by omega) kb; clear hoth hbel))
        obtain ⟨R1, h1, F1⟩ := EU.addX E1 E2
        obtain ⟨R2, h2, F2⟩ := EU.mulX F1 F1
        obtain ⟨R3, h3, F3⟩ := EU.subX la lb E1 E2
        obtain ⟨R4, h4, F4⟩ := EU.mulX F3 F3
        obtain ⟨R5, h5, F5⟩ := EU.subX (modp_lt _) (modp_lt _) F2 F4
        obtain ⟨R6, h6, F6⟩ := EU.subX lc ld E3 E4
        obtain ⟨R7, h7, F7⟩ := EU.mulX F6 F1
        obtain ⟨R8, h8, F8⟩ := EU.addX E3 E4
        obtain ⟨R9, h9, F9⟩ := EU.mulX F8 F3
        obtain ⟨R10, h10, F10⟩ := EU.addX F7 F9
        obtain ⟨R11, h11, F11⟩ := EU.subX (modp_lt _) (modp_lt _) F7 F9
        obtain ⟨R12, h12, F12⟩ := EU.mulX F10 F10
        obtain ⟨R13, h13, F13⟩ := EU.mulX F11 F11
        obtain ⟨R14, h14, F14⟩ := EU.mulX hxE.out F13
        obtain ⟨R15, h15, F15⟩ := EU.mulX F2 F4
        obtain ⟨R16, h16, F16⟩ := small_mulX F5
        obtain ⟨R17, h17, F17⟩ := EU.addX F2 F16
        obtain ⟨R18, h18, F18⟩ := EU.mulX F5 F17
        have d1 := Lib.hid (fun w => radd_u E1 E2 h1 w)
        have d2 := Lib.hid (fun w => rmul_u F1 F1 h2 w)
        have d3 := Lib.hid (fun w => rsub_u E1 E2 h3 w)
        have d4 := Lib.hid (fun w => rmul_u F3 F3 h4 w)
        have d5 := Lib.hid (fun w => rsub_u F2 F4 h5 w)
        have d6 := Lib.hid (fun w => rsub_u E3 E4 h6 w)
        have d7 := Lib.hid (fun w => rmul_u F6 F1 h7 w)
        have d8 := Lib.hid (fun w => radd_u E3 E4 h8 w)
        have d9 := Lib.hid (fun w => rmul_u F8 F3 h9 w)
        have d10 := Lib.hid (fun w => radd_u F7 F9 h10 w)
        have d11 := Lib.hid (fun w => rsub_u F7 F9 h11 w)
        have d12 := Lib.hid (fun w => rmul_u F10 F10 h12 w)
        have d13 := Lib.hid (fun w => rmul_u F11 F11 h13 w)
        have d14 := Lib.hid (fun w => rmul_u hxE.out F13 h14 w)
        have d15 := Lib.hid (fun w => rmul_u F2 F4 h15 w)
        have d16 := Lib.hid h16
        have d17 := Lib.hid (fun w => radd_u F2 F16 h17 w)
        have d18 := Lib.hid (fun w => rmul_u F5 F17 h18 w)
        have hst := Lib.hid (show ES (stepN x ⟨_, _, _, _⟩) R15 R18 R12 R14 from ⟨F15, F18, F12, F14⟩)
        clear h1 h2 h3 h4 h5 h6 h7 h8 h9 h10 h11 h12 h13 h14 h15 h16 h17 h18 F1 F2 F3 F4 F5 F6 F7 F8 F9 F10 F11 F12 F13 F14 F15 F16 F17 F18 E1 E2 E3 E4 la lb lc ld
        go_upto_region 15 with (first | (refine wpList_load_arr2 rfl _ _ rfl _ rfl (by decide +kernel) _ (by assumption) (by first | (rw [lims_len]; kernel_rfl) | (rw [el_rep]; kernel_rfl) | (rw [el_len]; kernel_rfl) | (rw [byts_len]; kernel_rfl) | (rw [us_len]; kernel_rfl) | (rw [bytn_len]; kernel_rfl) | (rw [ens_len, digs_len]; kernel_rfl) | kernel_rfl) ?_) | (refine wpList_store_arr rfl _ _ _ rfl _ _ rfl rfl _ (by first | assumption | exact Arr.new _ _ _) (by first | (rw [lims_len]; kernel_rfl) | (rw [el_rep]; kernel_rfl) | (rw [el_len]; kernel_rfl) | (rw [byts_len]; kernel_rfl) | (rw [us_len]; kernel_rfl) | (rw [bytn_len]; kernel_rfl) | (rw [ens_len, digs_len]; kernel_rfl) | kernel_rfl) (by first | (rw [lims_len, lims_len]) | (rw [el_rep, el_rep]) | (rw [el_rep, el_len]; rfl) | (rw [el_len, el_rep]; rfl) | (rw [el_len, el_len]; rfl) | (rw [byts_len, byts_len]) | (rw [lims_len]; rfl) | (rw [byts_len]; rfl) | (rw [us_len, us_len]; rfl) | (rw [bytn_len, bytn_len]) | (rw [bytn_len]; rfl) | (rw [ens_len, ens_len, digs_len, digs_len]) | rfl) (by first | exact lims_one _ _ | exact el_one _ | exact byts_one _ | exact us_one _ | exact bytn_one _ _ | exact ens_one _ | (intro v hv; simp at hv; rcases hv with rfl | rfl | rfl | rfl <;> rfl)) ?_))
        go_wp2_with (first | (refine wpList_load_arr2 rfl _ _ rfl _ rfl (by decide +kernel) _ (by assumption) (by first | (rw [lims_len]; kernel_rfl) | (rw [el_rep]; kernel_rfl) | (rw [el_len]; kernel_rfl) | (rw [byts_len]; kernel_rfl) | (rw [us_len]; kernel_rfl) | (rw [bytn_len]; kernel_rfl) | (rw [ens_len, digs_len]; kernel_rfl) | kernel_rfl) ?_) | (refine wpList_store_arr rfl _ _ _ rfl _ _ rfl rfl _ (by first | assumption | exact Arr.new _ _ _) (by first | (rw [lims_len]; kernel_rfl) | (rw [el_rep]; kernel_rfl) | (rw [el_len]; kernel_rfl) | (rw [byts_len]; kernel_rfl) | (rw [us_len]; kernel_rfl) | (rw [bytn_len]; kernel_rfl) | (rw [ens_len, digs_len]; kernel_rfl) | kernel_rfl) (by first | (rw [lims_len, lims_len]) | (rw [el_rep, el_rep]) | (rw [el_rep, el_len]; rfl) | (rw [el_len, el_rep]; rfl) | (rw [el_len, el_len]; rfl) | (rw [byts_len, byts_len]) | (rw [lims_len]; rfl) | (rw [byts_len]; rfl) | (rw [us_len, us_len]; rfl) | (rw [bytn_len, bytn_len]) | (rw [bytn_len]; rfl) | (rw [ens_len, ens_len, digs_len, digs_len]) | rfl) (by first | exact lims_one _ _ | exact el_one _ | exact byts_one _ | exact us_one _ | exact bytn_one _ _ | exact ens_one _ | (intro v hv; simp at hv; rcases hv with rfl | rfl | rfl | rfl <;> rfl)) ?_))
        refine (d1.out _).mono ?_
        rintro e w_18 ⟨rfl, hb_18⟩
        have k2 := k2.below hb_18
        have k4 := k4.below hb_18
        have k5 := k5.below hb_18
        have k6 := k6.below hb_18
        have k7 := k7.below hb_18
        have k8 := k8.below hb_18
        have k9 := k9.below hb_18
        have kb := bel kb hb_18
        clear hb_18
        go_upto_region 16 with (first | (refine wpList_load_arr2 rfl _ _ rfl _ rfl (by decide +kernel) _ (by assumption) (by first | (rw [lims_len]; kernel_rfl) | (rw [el_rep]; kernel_rfl) | (rw [el_len]; kernel_rfl) | (rw [byts_len]; kernel_rfl) | (rw [us_len]; kernel_rfl) | (rw [bytn_len]; kernel_rfl) | (rw [ens_len, digs_len]; kernel_rfl) | kernel_rfl) ?_) | (refine wpList_store_arr rfl _ _ _ rfl _ _ rfl rfl _ (by first | assumption | exact Arr.new _ _ _) (by first | (rw [lims_len]; kernel_rfl) | (rw [el_rep]; kernel_rfl) | (rw [el_len]; kernel_rfl) | (rw [byts_len]; kernel_rfl) | (rw [us_len]; kernel_rfl) | (rw [bytn_len]; kernel_rfl) | (rw [ens_len, digs_len]; kernel_rfl) | kernel_rfl) (by first | (rw [lims_len, lims_len]) | (rw [el_rep, el_rep]) | (rw [el_rep, el_len]; rfl) | (rw [el_len, el_rep]; rfl) | (rw [el_len, el_len]; rfl) | (rw [byts_len, byts_len]) | (rw [lims_len]; rfl) | (rw [byts_len]; rfl) | (rw [us_len, us_len]; rfl) | (rw [bytn_len, bytn_len]) | (rw [bytn_len]; rfl) | (rw [ens_len, ens_len, digs_len, digs_len]) | rfl) (by first | exact lims_one _ _ | exact el_one _ | exact byts_one _ | exact us_one _ | exact bytn_one _ _ | exact ens_one _ | (intro v hv; simp at hv; rcases hv with rfl | rfl | rfl | rfl <;> rfl)) ?_))
        have hg_k12_k2 := k2.lt
        have hg_k12_k4 := k4.lt
        have hg_k12_k5 := k5.lt
        have hg_k12_k6 := k6.lt
        have hg_k12_k7 := k7.lt
        have hg_k12_k8 := k8.lt
        have hg_k12_k9 := k9.lt
        refine code_new (fun w_19 k12 hnew => ?_)
        have k2 := k2.below hnew
        have k4 := k4.below hnew
        have k5 := k5.below hnew
        have k6 := k6.below hnew
        have k7 := k7.below hnew
        have k8 := k8.below hnew
        have k9 := k9.below hnew
        have kb := bel kb hnew
        clear hnew
        generalize (w_18).heap.size = g_k12 at k12 hg_k12_k2 hg_k12_k4 hg_k12_k5 hg_k12_k6 hg_k12_k7 hg_k12_k8 hg_k12_k9 ⊢
        go_upto_region 16 with (first | (refine wpList_load_arr2 rfl _ _ rfl _ rfl (by decide +kernel) _ (by assumption) (by first | (rw [lims_len]; kernel_rfl) | (rw [el_rep]; kernel_rfl) | (rw [el_len]; kernel_rfl) | (rw [byts_len]; kernel_rfl) | (rw [us_len]; kernel_rfl) | (rw [bytn_len]; kernel_rfl) | (rw [ens_len, digs_len]; kernel_rfl) | kernel_rfl) ?_) | (refine wpList_store_arr rfl _ _ _ rfl _ _ rfl rfl _ (by first | assumption | exact Arr.new _ _ _) (by first | (rw [lims_len]; kernel_rfl) | (rw [el_rep]; kernel_rfl) | (rw [el_len]; kernel_rfl) | (rw [byts_len]; kernel_rfl) | (rw [us_len]; kernel_rfl) | (rw [bytn_len]; kernel_rfl) | (rw [ens_len, digs_len]; kernel_rfl) | kernel_rfl) (by first | (rw [lims_len, lims_len]) | (rw [el_rep, el_rep]) | (rw [el_rep, el_len]; rfl) | (rw [el_len, el_rep]; rfl) | (rw [el_len, el_len]; rfl) | (rw [byts_len, byts_len]) | (rw [lims_len]; rfl) | (rw [byts_len]; rfl) | (rw [us_len, us_len]; rfl) | (rw [bytn_len, bytn_len]) | (rw [bytn_len]; rfl) | (rw [ens_len, ens_len, digs_len, digs_len]) | rfl) (by first | exact lims_one _ _ | exact el_one _ | exact byts_one _ | exact us_one _ | exact bytn_one _ _ | exact ens_one _ | (intro v hv; simp at hv; rcases hv with rfl | rfl | rfl | rfl <;> rfl)) ?_))
        go_wp2_with (first | (refine wpList_load_arr2 rfl _ _ rfl _ rfl (by decide +kernel) _ (by assumption) (by first | (rw [lims_len]; kernel_rfl) | (rw [el_rep]; kernel_rfl) | (rw [el_len]; kernel_rfl) | (rw [byts_len]; kernel_rfl) | (rw [us_len]; kernel_rfl) | (rw [bytn_len]; kernel_rfl) | (rw [ens_len, digs_len]; kernel_rfl) | kernel_rfl) ?_) | (refine wpList_store_arr rfl _ _ _ rfl _ _ rfl rfl _ (by first | assumption | exact Arr.new _ _ _) (by first | (rw [lims_len]; kernel_rfl) | (rw [el_rep]; kernel_rfl) | (rw [el_len]; kernel_rfl) | (rw [byts_len]; kernel_rfl) | (rw [us_len]; kernel_rfl) | (rw [bytn_len]; kernel_rfl) | (rw [ens_len, digs_len]; kernel_rfl) | kernel_rfl) (by first | (rw [lims_len, lims_len]) | (rw [el_rep, el_rep]) | (rw [el_rep, el_len]; rfl) | (rw [el_len, el_rep]; rfl) | (rw [el_len, el_len]; rfl) | (rw [byts_len, byts_len]) | (rw [lims_len]; rfl) | (rw [byts_len]; rfl) | (rw [us_len, us_len]; rfl) | (rw [bytn_len, bytn_len]) | (rw [bytn_len]; rfl) | (rw [ens_len, ens_len, digs_len, digs_len]) | rfl) (by first | exact lims_one _ _ | exact el_one _ | exact byts_one _ | exact us_one _ | exact bytn_one _ _ | exact ens_one _ | (intro v hv; simp at hv; rcases hv with rfl | rfl | rfl | rfl <;> rfl)) ?_))
        refine (d2.out _).mono ?_
        rintro e w_20 ⟨rfl, hb_20⟩
        have k2 := k2.below hb_20
        have k4 := k4.below hb_20
        have k5 := k5.below hb_20
        have k6 := k6.below hb_20
        have k7 := k7.below hb_20
        have k8 := k8.below hb_20
        have k9 := k9.below hb_20
        have k12 := k12.below hb_20
        have kb := bel kb hb_20
        clear hb_20
        go_upto_region 17 with (first | (refine wpList_load_arr2 rfl _ _ rfl _ rfl (by decide +kernel) _ (by assumption) (by first | (rw [lims_len]; kernel_rfl) | (rw [el_rep]; kernel_rfl) | (rw [el_len]; kernel_rfl) | (rw [byts_len]; kernel_rfl) | (rw [us_len]; kernel_rfl) | (rw [bytn_len]; kernel_rfl) | (rw [ens_len, digs_len]; kernel_rfl) | kernel_rfl) ?_) | (refine wpList_store_arr rfl _ _ _ rfl _ _ rfl rfl _ (by first | assumption | exact Arr.new _ _ _) (by first | (rw [lims_len]; kernel_rfl) | (rw [el_rep]; kernel_rfl) | (rw [el_len]; kernel_rfl) | (rw [byts_len]; kernel_rfl) | (rw [us_len]; kernel_rfl) | (rw [bytn_len]; kernel_rfl) | (rw [ens_len, digs_len]; kernel_rfl) | kernel_rfl) (by first | (rw [lims_len, lims_len]) | (rw [el_rep, el_rep]) | (rw [el_rep, el_len]; rfl) | (rw [el_len, el_rep]; rfl) | (rw [el_len, el_len]; rfl) | (rw [byts_len, byts_len]) | (rw [lims_len]; rfl) | (rw [byts_len]; rfl) | (rw [us_len, us_len]; rfl) | (rw [bytn_len, bytn_len]) | (rw [bytn_len]; rfl) | (rw [ens_len, ens_len, digs_len, digs_len]) | rfl) (by first | exact lims_one _ _ | exact el_one _ | exact byts_one _ | exact us_one _ | exact bytn_one _ _ | exact ens_one _ | (intro v hv; simp at hv; rcases hv with rfl | rfl | rfl | rfl <;> rfl)) ?_))
        have hg_k13_k2 := k2.lt
        have hg_k13_k4 := k4.lt
        have hg_k13_k5 := k5.lt
        have hg_k13_k6 := k6.lt
        have hg_k13_k7 := k7.lt
        have hg_k13_k8 := k8.lt
        have hg_k13_k9 := k9.lt
        have hg_k13_k12 := k12.lt
        refine code_new (fun w_21 k13 hnew => ?_)
        have k2 := k2.below hnew
        have k4 := k4.below hnew
        have k5 := k5.below hnew
        have k6 := k6.below hnew
        have k7 := k7.below hnew
        have k8 := k8.below hnew
        have k9 := k9.below hnew
        have k12 := k12.below hnew
        have kb := bel kb hnew
        clear hnew
        generalize (w_20).heap.size = g_k13 at k13 hg_k13_k2 hg_k13_k4 hg_k13_k5 hg_k13_k6 hg_k13_k7 hg_k13_k8 hg_k13_k9 hg_k13_k12 ⊢
        go_upto_region 17 with (first | (refine wpList_load_arr2 rfl _ _ rfl _ rfl (by decide +kernel) _ (by assumption) (by first | (rw [lims_len]; kernel_rfl) | (rw [el_rep]; kernel_rfl) | (rw [el_len]; kernel_rfl) | (rw [byts_len]; kernel_rfl) | (rw [us_len]; kernel_rfl) | (rw [bytn_len]; kernel_rfl) | (rw [ens_len, digs_len]; kernel_rfl) | kernel_rfl) ?_) | (refine wpList_store_arr rfl _ _ _ rfl _ _ rfl rfl _ (by first | assumption | exact Arr.new _ _ _) (by first | (rw [lims_len]; kernel_rfl) | (rw [el_rep]; kernel_rfl) | (rw [el_len]; kernel_rfl) | (rw [byts_len]; kernel_rfl) | (rw [us_len]; kernel_rfl) | (rw [bytn_len]; kernel_rfl) | (rw [ens_len, digs_len]; kernel_rfl) | kernel_rfl) (by first | (rw [lims_len, lims_len]) | (rw [el_rep, el_rep]) | (rw [el_rep, el_len]; rfl) | (rw [el_len, el_rep]; rfl) | (rw [el_len, el_len]; rfl) | (rw [byts_len, byts_len]) | (rw [lims_len]; rfl) | (rw [byts_len]; rfl) | (rw [us_len, us_len]; rfl) | (rw [bytn_len, bytn_len]) | (rw [bytn_len]; rfl) | (rw [ens_len, ens_len, digs_len, digs_len]) | rfl) (by first | exact lims_one _ _ | exact el_one _ | exact byts_one _ | exact us_one _ | exact bytn_one _ _ | exact ens_one _ | (intro v hv; simp at hv; rcases hv with rfl | rfl | rfl | rfl <;> rfl)) ?_))
        go_wp2_with (first | (refine wpList_load_arr2 rfl _ _ rfl _ rfl (by decide +kernel) _ (by assumption) (by first | (rw [lims_len]; kernel_rfl) | (rw [el_rep]; kernel_rfl) | (rw [el_len]; kernel_rfl) | (rw [byts_len]; kernel_rfl) | (rw [us_len]; kernel_rfl) | (rw [bytn_len]; kernel_rfl) | (rw [ens_len, digs_len]; kernel_rfl) | kernel_rfl) ?_) | (refine wpList_store_arr rfl _ _ _ rfl _ _ rfl rfl _ (by first | assumption | exact Arr.new _ _ _) (by first | (rw [lims_len]; kernel_rfl) | (rw [el_rep]; kernel_rfl) | (rw [el_len]; kernel_rfl) | (rw [byts_len]; kernel_rfl) | (rw [us_len]; kernel_rfl) | (rw [bytn_len]; kernel_rfl) | (rw [ens_len, digs_len]; kernel_rfl) | kernel_rfl) (by first | (rw [lims_len, lims_len]) | (rw [el_rep, el_rep]) | (rw [el_rep, el_len]; rfl) | (rw [el_len, el_rep]; rfl) | (rw [el_len, el_len]; rfl) | (rw [byts_len, byts_len]) | (rw [lims_len]; rfl) | (rw [byts_len]; rfl) | (rw [us_len, us_len]; rfl) | (rw [bytn_len, bytn_len]) | (rw [bytn_len]; rfl) | (rw [ens_len, ens_len, digs_len, digs_len]) | rfl) (by first | exact lims_one _ _ | exact el_one _ | exact byts_one _ | exact us_one _ | exact bytn_one _ _ | exact ens_one _ | (intro v hv; simp at hv; rcases hv with rfl | rfl | rfl | rfl <;> rfl)) ?_))
        refine (d3.out _).mono ?_
        rintro e w_22 ⟨rfl, hb_22⟩
        have k2 := k2.below hb_22
        have k4 := k4.below hb_22
        have k5 := k5.below hb_22
        have k6 := k6.below hb_22
        have k7 := k7.below hb_22
        have k8 := k8.below hb_22
        have k9 := k9.below hb_22
        have k12 := k12.below hb_22
        have k13 := k13.below hb_22
        have kb := bel kb hb_22
        clear hb_22
        go_upto_region 18 with (first | (refine wpList_load_arr2 rfl _ _ rfl _ rfl (by decide +kernel) _ (by assumption) (by first | (rw [lims_len]; kernel_rfl) | (rw [el_rep]; kernel_rfl) | (rw [el_len]; kernel_rfl) | (rw [byts_len]; kernel_rfl) | (rw [us_len]; kernel_rfl) | (rw [bytn_len]; kernel_rfl) | (rw [ens_len, digs_len]; kernel_rfl) | kernel_rfl) ?_) | (refine wpList_store_arr rfl _ _ _ rfl _ _ rfl rfl _ (by first | assumption | exact Arr.new _ _ _) (by first | (rw [lims_len]; kernel_rfl) | (rw [el_rep]; kernel_rfl) | (rw [el_len]; kernel_rfl) | (rw [byts_len]; kernel_rfl) | (rw [us_len]; kernel_rfl) | (rw [bytn_len]; kernel_rfl) | (rw [ens_len, digs_len]; kernel_rfl) | kernel_rfl) (by first | (rw [lims_len, lims_len]) | (rw [el_rep, el_rep]) | (rw [el_rep, el_len]; rfl) | (rw [el_len, el_rep]; rfl) | (rw [el_len, el_len]; rfl) | (rw [byts_len, byts_len]) | (rw [lims_len]; rfl) | (rw [byts_len]; rfl) | (rw [us_len, us_len]; rfl) | (rw [bytn_len, bytn_len]) | (rw [bytn_len]; rfl) | (rw [ens_len, ens_len, digs_len, digs_len]) | rfl) (by first | exact lims_one _ _ | exact el_one _ | exact byts_one _ | exact us_one _ | exact bytn_one _ _ | exact ens_one _ | (intro v hv; simp at hv; rcases hv with rfl | rfl | rfl | rfl <;> rfl)) ?_))
        have hg_k14_k2 := k2.lt
        have hg_k14_k4 := k4.lt
        have hg_k14_k5 := k5.lt
        have hg_k14_k6 := k6.lt
        have hg_k14_k7 := k7.lt
        have hg_k14_k8 := k8.lt
        have hg_k14_k9 := k9.lt
        have hg_k14_k12 := k12.lt
        have hg_k14_k13 := k13.lt
        refine code_new (fun w_23 k14 hnew => ?_)
        have k2 := k2.below hnew
        have k4 := k4.below hnew
        have k5 := k5.below hnew
        have k6 := k6.below hnew
        have k7 := k7.below hnew
        have k8 := k8.below hnew
        have k9 := k9.below hnew
        have k12 := k12.below hnew
        have k13 := k13.below hnew
        have kb := bel kb hnew
        clear hnew
        generalize (w_22).heap.size = g_k14 at k14 hg_k14_k2 hg_k14_k4 hg_k14_k5 hg_k14_k6 hg_k14_k7 hg_k14_k8 hg_k14_k9 hg_k14_k12 hg_k14_k13 ⊢
        go_upto_region 18 with (first | (refine wpList_load_arr2 rfl _ _ rfl _ rfl (by decide +kernel) _ (by assumption) (by first | (rw [lims_len]; kernel_rfl) | (rw [el_rep]; kernel_rfl) | (rw [el_len]; kernel_rfl) | (rw [byts_len]; kernel_rfl) | (rw [us_len]; kernel_rfl) | (rw [bytn_len]; kernel_rfl) | (rw [ens_len, digs_len]; kernel_rfl) | kernel_rfl) ?_) | (refine wpList_store_arr rfl _ _ _ rfl _ _ rfl rfl _ (by first | assumption | exact Arr.new _ _ _) (by first | (rw [lims_len]; kernel_rfl) | (rw [el_rep]; kernel_rfl) | (rw [el_len]; kernel_rfl) | (rw [byts_len]; kernel_rfl) | (rw [us_len]; kernel_rfl) | (rw [bytn_len]; kernel_rfl) | (rw [ens_len, digs_len]; kernel_rfl) | kernel_rfl) (by first | (rw [lims_len, lims_len]) | (rw [el_rep, el_rep]) | (rw [el_rep, el_len]; rfl) | (rw [el_len, el_rep]; rfl) | (rw [el_len, el_len]; rfl) | (rw [byts_len, byts_len]) | (rw [lims_len]; rfl) | (rw [byts_len]; rfl) | (rw [us_len, us_len]; rfl) | (rw [bytn_len, bytn_len]) | (rw [bytn_len]; rfl) | (rw [ens_len, ens_len, digs_len, digs_len]) | rfl) (by first | exact lims_one _ _ | exact el_one _ | exact byts_one _ | exact us_one _ | exact bytn_one _ _ | exact ens_one _ | (intro v hv; simp at hv; rcases hv with rfl | rfl | rfl | rfl <;> rfl)) ?_))
        go_wp2_with (first | (refine wpList_load_arr2 rfl _ _ rfl _ rfl (by decide +kernel) _ (by assumption) (by first | (rw [lims_len]; kernel_rfl) | (rw [el_rep]; kernel_rfl) | (rw [el_len]; kernel_rfl) | (rw [byts_len]; kernel_rfl) | (rw [us_len]; kernel_rfl) | (rw [bytn_len]; kernel_rfl) | (rw [ens_len, digs_len]; kernel_rfl) | kernel_rfl) ?_) | (refine wpList_store_arr rfl _ _ _ rfl _ _ rfl rfl _ (by first | assumption | exact Arr.new _ _ _) (by first | (rw [lims_len]; kernel_rfl) | (rw [el_rep]; kernel_rfl) | (rw [el_len]; kernel_rfl) | (rw [byts_len]; kernel_rfl) | (rw [us_len]; kernel_rfl) | (rw [bytn_len]; kernel_rfl) | (rw [ens_len, digs_len]; kernel_rfl) | kernel_rfl) (by first | (rw [lims_len, lims_len]) | (rw [el_rep, el_rep]) | (rw [el_rep, el_len]; rfl) | (rw [el_len, el_rep]; rfl) | (rw [el_len, el_len]; rfl) | (rw [byts_len, byts_len]) | (rw [lims_len]; rfl) | (rw [byts_len]; rfl) | (rw [us_len, us_len]; rfl) | (rw [bytn_len, bytn_len]) | (rw [bytn_len]; rfl) | (rw [ens_len, ens_len, digs_len, digs_len]) | rfl) (by first | exact lims_one _ _ | exact el_one _ | exact byts_one _ | exact us_one _ | exact bytn_one _ _ | exact ens_one _ | (intro v hv; simp at hv; rcases hv with rfl | rfl | rfl | rfl <;> rfl)) ?_))
        refine (d4.out _).mono ?_
        rintro e w_24 ⟨rfl, hb_24⟩
        have k2 := k2.below hb_24
        have k4 := k4.below hb_24
        have k5 := k5.below hb_24
        have k6 := k6.below hb_24
        have k7 := k7.below hb_24
        have k8 := k8.below hb_24
        have k9 := k9.below hb_24
        have k12 := k12.below hb_24
        have k13 := k13.below hb_24
        have k14 := k14.below hb_24
        have kb := bel kb hb_24
        clear hb_24
        go_upto_region 19 with (first | (refine wpList_load_arr2 rfl _ _ rfl _ rfl (by decide +kernel) _ (by assumption) (by first | (rw [lims_len]; kernel_rfl) | (rw [el_rep]; kernel_rfl) | (rw [el_len]; kernel_rfl) | (rw [byts_len]; kernel_rfl) | (rw [us_len]; kernel_rfl) | (rw [bytn_len]; kernel_rfl) | (rw [ens_len, digs_len]; kernel_rfl) | kernel_rfl) ?_) | (refine wpList_store_arr rfl _ _ _ rfl _ _ rfl rfl _ (by first | assumption | exact Arr.new _ _ _) (by first | (rw [lims_len]; kernel_rfl) | (rw [el_rep]; kernel_rfl) | (rw [el_len]; kernel_rfl) | (rw [byts_len]; kernel_rfl) | (rw [us_len]; kernel_rfl) | (rw [bytn_len]; kernel_rfl) | (rw [ens_len, digs_len]; kernel_rfl) | kernel_rfl) (by first | (rw [lims_len, lims_len]) | (rw [el_rep, el_rep]) | (rw [el_rep, el_len]; rfl) | (rw [el_len, el_rep]; rfl) | (rw [el_len, el_len]; rfl) | (rw [byts_len, byts_len]) | (rw [lims_len]; rfl) | (rw [byts_len]; rfl) | (rw [us_len, us_len]; rfl) | (rw [bytn_len, bytn_len]) | (rw [bytn_len]; rfl) | (rw [ens_len, ens_len, digs_len, digs_len]) | rfl) (by first | exact lims_one _ _ | exact el_one _ | exact byts_one _ | exact us_one _ | exact bytn_one _ _ | exact ens_one _ | (intro v hv; simp at hv; rcases hv with rfl | rfl | rfl | rfl <;> rfl)) ?_))
        have hg_k15_k2 := k2.lt
        have hg_k15_k4 := k4.lt
        have hg_k15_k5 := k5.lt
        have hg_k15_k6 := k6.lt
        have hg_k15_k7 := k7.lt
        have hg_k15_k8 := k8.lt
        have hg_k15_k9 := k9.lt
        have hg_k15_k12 := k12.lt
        have hg_k15_k13 := k13.lt
        have hg_k15_k14 := k14.lt
        refine code_new (fun w_25 k15 hnew => ?_)
        have k2 := k2.below hnew
        have k4 := k4.below hnew
        have k5 := k5.below hnew
        have k6 := k6.below hnew
        have k7 := k7.below hnew
        have k8 := k8.below hnew
        have k9 := k9.below hnew
        have k12 := k12.below hnew
        have k13 := k13.below hnew
        have k14 := k14.below hnew
        have kb := bel kb hnew
        clear hnew
        generalize (w_24).heap.size = g_k15 at k15 hg_k15_k2 hg_k15_k4 hg_k15_k5 hg_k15_k6 hg_k15_k7 hg_k15_k8 hg_k15_k9 hg_k15_k12 hg_k15_k13 hg_k15_k14 ⊢
        go_upto_region 19 with (first | (refine wpList_load_arr2 rfl _ _ rfl _ rfl (by decide +kernel) _ (by assumption) (by first | (rw [lims_len]; kernel_rfl) | (rw [el_rep]; kernel_rfl) | (rw [el_len]; kernel_rfl) | (rw [byts_len]; kernel_rfl) | (rw [us_len]; kernel_rfl) | (rw [bytn_len]; kernel_rfl) | (rw [ens_len, digs_len]; kernel_rfl) | kernel_rfl) ?_) | (refine wpList_store_arr rfl _ _ _ rfl _ _ rfl rfl _ (by first | assumption | exact Arr.new _ _ _) (by first | (rw [lims_len]; kernel_rfl) | (rw [el_rep]; kernel_rfl) | (rw [el_len]; kernel_rfl) | (rw [byts_len]; kernel_rfl) | (rw [us_len]; kernel_rfl) | (rw [bytn_len]; kernel_rfl) | (rw [ens_len, digs_len]; kernel_rfl) | kernel_rfl) (by first | (rw [lims_len, lims_len]) | (rw [el_rep, el_rep]) | (rw [el_rep, el_len]; rfl) | (rw [el_len, el_rep]; rfl) | (rw [el_len, el_len]; rfl) | (rw [byts_len, byts_len]) | (rw [lims_len]; rfl) | (rw [byts_len]; rfl) | (rw [us_len, us_len]; rfl) | (rw [bytn_len, bytn_len]) | (rw [bytn_len]; rfl) | (rw [ens_len, ens_len, digs_len, digs_len]) | rfl) (by first | exact lims_one _ _ | exact el_one _ | exact byts_one _ | exact us_one _ | exact bytn_one _ _ | exact ens_one _ | (intro v hv; simp at hv; rcases hv with rfl | rfl | rfl | rfl <;> rfl)) ?_))
        go_wp2_with (first | (refine wpList_load_arr2 rfl _ _ rfl _ rfl (by decide +kernel) _ (by assumption) (by first | (rw [lims_len]; kernel_rfl) | (rw [el_rep]; kernel_rfl) | (rw [el_len]; kernel_rfl) | (rw [byts_len]; kernel_rfl) | (rw [us_len]; kernel_rfl) | (rw [bytn_len]; kernel_rfl) | (rw [ens_len, digs_len]; kernel_rfl) | kernel_rfl) ?_) | (refine wpList_store_arr rfl _ _ _ rfl _ _ rfl rfl _ (by first | assumption | exact Arr.new _ _ _) (by first | (rw [lims_len]; kernel_rfl) | (rw [el_rep]; kernel_rfl) | (rw [el_len]; kernel_rfl) | (rw [byts_len]; kernel_rfl) | (rw [us_len]; kernel_rfl) | (rw [bytn_len]; kernel_rfl) | (rw [ens_len, digs_len]; kernel_rfl) | kernel_rfl) (by first | (rw [lims_len, lims_len]) | (rw [el_rep, el_rep]) | (rw [el_rep, el_len]; rfl) | (rw [el_len, el_rep]; rfl) | (rw [el_len, el_len]; rfl) | (rw [byts_len, byts_len]) | (rw [lims_len]; rfl) | (rw [byts_len]; rfl) | (rw [us_len, us_len]; rfl) | (rw [bytn_len, bytn_len]) | (rw [bytn_len]; rfl) | (rw [ens_len, ens_len, digs_len, digs_len]) | rfl) (by first | exact lims_one _ _ | exact el_one _ | exact byts_one _ | exact us_one _ | exact bytn_one _ _ | exact ens_one _ | (intro v hv; simp at hv; rcases hv with rfl | rfl | rfl | rfl <;> rfl)) ?_))
        refine (d5.out _).mono ?_
        rintro e w_26 ⟨rfl, hb_26⟩
        have k2 := k2.below hb_26
        have k4 := k4.below hb_26
        have k5 := k5.below hb_26
        have k6 := k6.below hb_26
        have k7 := k7.below hb_26
        have k8 := k8.below hb_26
        have k9 := k9.below hb_26
        have k12 := k12.below hb_26
        have k13 := k13.below hb_26
        have k14 := k14.below hb_26
        have k15 := k15.below hb_26
        have kb := bel kb hb_26
        clear hb_26
        go_upto_region 20 with (first | (refine wpList_load_arr2 rfl _ _ rfl _ rfl (by decide +kernel) _ (by assumption) (by first | (rw [lims_len]; kernel_rfl) | (rw [el_rep]; kernel_rfl) | (rw [el_len]; kernel_rfl) | (rw [byts_len]; kernel_rfl) | (rw [us_len]; kernel_rfl) | (rw [bytn_len]; kernel_rfl) | (rw [ens_len, digs_len]; kernel_rfl) | kernel_rfl) ?_) | (refine wpList_store_arr rfl _ _ _ rfl _ _ rfl rfl _ (by first | assumption | exact Arr.new _ _ _) (by first | (rw [lims_len]; kernel_rfl) | (rw [el_rep]; kernel_rfl) | (rw [el_len]; kernel_rfl) | (rw [byts_len]; kernel_rfl) | (rw [us_len]; kernel_rfl) | (rw [bytn_len]; kernel_rfl) | (rw [ens_len, digs_len]; kernel_rfl) | kernel_rfl) (by first | (rw [lims_len, lims_len]) | (rw [el_rep, el_rep]) | (rw [el_rep, el_len]; rfl) | (rw [el_len, el_rep]; rfl) | (rw [el_len, el_len]; rfl) | (rw [byts_len, byts_len]) | (rw [lims_len]; rfl) | (rw [byts_len]; rfl) | (rw [us_len, us_len]; rfl) | (rw [bytn_len, bytn_len]) | (rw [bytn_len]; rfl) | (rw [ens_len, ens_len, digs_len, digs_len]) | rfl) (by first | exact lims_one _ _ | exact el_one _ | exact byts_one _ | exact us_one _ | exact bytn_one _ _ | exact ens_one _ | (intro v hv; simp at hv; rcases hv with rfl | rfl | rfl | rfl <;> rfl)) ?_))
        have hg_k16_k2 := k2.lt
        have hg_k16_k4 := k4.lt
        have hg_k16_k5 := k5.lt
        have hg_k16_k6 := k6.lt
        have hg_k16_k7 := k7.lt
        have hg_k16_k8 := k8.lt
        have hg_k16_k9 := k9.lt
        have hg_k16_k12 := k12.lt
        have hg_k16_k13 := k13.lt
        have hg_k16_k14 := k14.lt
        have hg_k16_k15 := k15.lt
        refine code_new (fun w_27 k16 hnew => ?_)
        have k2 := k2.below hnew
        have k4 := k4.below hnew
        have k5 := k5.below hnew
        have k6 := k6.below hnew
        have k7 := k7.below hnew
        have k8 := k8.below hnew
        have k9 := k9.below hnew
        have k12 := k12.below hnew
        have k13 := k13.below hnew
        have k14 := k14.below hnew
        have k15 := k15.below hnew
        have kb := bel kb hnew
        clear hnew
        generalize (w_26).heap.size = g_k16 at k16 hg_k16_k2 hg_k16_k4 hg_k16_k5 hg_k16_k6 hg_k16_k7 hg_k16_k8 hg_k16_k9 hg_k16_k12 hg_k16_k13 hg_k16_k14 hg_k16_k15 ⊢
        go_upto_region 20 with (first | (refine wpList_load_arr2 rfl _ _ rfl _ rfl (by decide +kernel) _ (by assumption) (by first | (rw [lims_len]; kernel_rfl) | (rw [el_rep]; kernel_rfl) | (rw [el_len]; kernel_rfl) | (rw [byts_len]; kernel_rfl) | (rw [us_len]; kernel_rfl) | (rw [bytn_len]; kernel_rfl) | (rw [ens_len, digs_len]; kernel_rfl) | kernel_rfl) ?_) | (refine wpList_store_arr rfl _ _ _ rfl _ _ rfl rfl _ (by first | assumption | exact Arr.new _ _ _) (by first | (rw [lims_len]; kernel_rfl) | (rw [el_rep]; kernel_rfl) | (rw [el_len]; kernel_rfl) | (rw [byts_len]; kernel_rfl) | (rw [us_len]; kernel_rfl) | (rw [bytn_len]; kernel_rfl) | (rw [ens_len, digs_len]; kernel_rfl) | kernel_rfl) (by first | (rw [lims_len, lims_len]) | (rw [el_rep, el_rep]) | (rw [el_rep, el_len]; rfl) | (rw [el_len, el_rep]; rfl) | (rw [el_len, el_len]; rfl) | (rw [byts_len, byts_len]) | (rw [lims_len]; rfl) | (rw [byts_len]; rfl) | (rw [us_len, us_len]; rfl) | (rw [bytn_len, bytn_len]) | (rw [bytn_len]; rfl) | (rw [ens_len, ens_len, digs_len, digs_len]) | rfl) (by first | exact lims_one _ _ | exact el_one _ | exact byts_one _ | exact us_one _ | exact bytn_one _ _ | exact ens_one _ | (intro v hv; simp at hv; rcases hv with rfl | rfl | rfl | rfl <;> rfl)) ?_))
        refine Tx.start (fun w' => Below (w_27).heap.size (w_27) w') 6 7 rfl (by kernel_rfl) ?_
        have hS_28 : Below (w_27).heap.size (w_27) (World.drew w_27) := (Below.refl _ _).drew
        refine Tx.seg (A := ?_) 4 11 (by kernel_rfl) (by exact hS_28) [0, 1, 3] (by kernel_rfl) ?_ ?_
        rotate_left
        · intro w' hB
          have e0 := k2.below hB
          have e1 := k4.below hB
          have e2 := k5.below hB
          have e3 := k6.below hB
          have e4 := k7.below hB
          have e5 := k8.below hB
          have e6 := k9.below hB
          have e7 := k12.below hB
          have e8 := k13.below hB
          have e9 := k14.below hB
          have e10 := k15.below hB
          have e11 := k16.below hB
          iterate 3 (first | (refine rd_skip rfl rfl ?_; simp only [Act.put, List.setIfInBounds_toArray, List.set_cons_zero, List.set_cons_succ]) | (refine rd_load_arr rfl rfl _ _ rfl _ rfl (by decide +kernel) _ (by assumption) (by first | (rw [lims_len]; kernel_rfl) | (rw [el_rep]; kernel_rfl) | (rw [el_len]; kernel_rfl) | (rw [byts_len]; kernel_rfl) | (rw [us_len]; kernel_rfl) | (rw [bytn_len]; kernel_rfl) | (rw [ens_len, digs_len]; kernel_rfl) | kernel_rfl) ?_; simp only [Act.put, List.setIfInBounds_toArray, List.set_cons_zero, List.set_cons_succ]) | (refine rd_take (v := ?_) rfl rfl ?_ ?_; rotate_left; (focus (go_simp; try (with_reducible rfl))); simp only [Act.put, List.setIfInBounds_toArray, List.set_cons_zero, List.set_cons_succ]) | (refine rd_take (v := ?_) rfl rfl ?_ ?_; rotate_left; (focus (try go_simp); fail)))
          exact rd_nil
        refine Tx.poolB 1 63 [(2, 69), (4, 71), (5, 17)] [(false, []), (false, [(2, 69)]), (false, [])] [(2, Ph.is (.agg (el (rep R6)).toArray)), (4, Ph.is (.agg (el (rep R7)).toArray)), (5, Ph.arr (w_27).heap.size (el (List.replicate 16 0)))] (by kernel_rfl) (by kernel_rfl) (by first | assumption | exact (Below.refl _ _).drew) ?_ ?_
        · refine ⟨⟨_, rfl, ?_⟩, ⟨_, rfl, ?_⟩, ⟨_, rfl, ?_⟩, trivial⟩
          · intro vs w1 hS hE hD K hK
            clear hD
            simp only [fillL, Act.put, List.setIfInBounds_toArray, List.set_cons_zero, List.set_cons_succ] at hK ⊢
            go_simp
            refine (d6.out _).mono ?_
            rintro e w2 ⟨rfl, hb2⟩
            exact hK _ _ rfl hb2 nofun
          · intro vs w1 hS hE hD K hK
            obtain ⟨q2, -⟩ := hD
            simp only [fillL, Act.put, List.setIfInBounds_toArray, List.set_cons_zero, List.set_cons_succ] at hK ⊢
            rw [show vs 2 = _ from q2] at hK ⊢
            clear q2
            go_simp
            refine (d7.out _).mono ?_
            rintro e w2 ⟨rfl, hb2⟩
            exact hK _ _ rfl hb2 nofun
          · intro vs w1 hS hE hD K hK
            clear hD
            simp only [fillL, Act.put, List.setIfInBounds_toArray, List.set_cons_zero, List.set_cons_succ] at hK ⊢
            go_simp
            exact hK _ _ ⟨_, rfl, Nat.le_trans (by first | exact Nat.le_refl _ | omega | (simp; omega)) hE.size, Arr.new _ _ _⟩ (below_alloc _ _) (fun _ => ⟨_, rfl, Nat.le_refl _⟩)
        intro vs w_p20_4644 hS_p20_4644 hE_p20_4644 hP hD
        obtain ⟨q2, q4, q5, -⟩ := hP
        simp only [fillL, Act.put, List.setIfInBounds_toArray, List.set_cons_zero, List.set_cons_succ]
        rw [show vs 2 = _ from q2]
        clear q2
        rw [show vs 4 = _ from q4]
        clear q4
        obtain ⟨g5, e5, hg5, ha5⟩ := q5
        rw [e5]
        clear e5 hD vs
        have lt_k17_k2 := Nat.lt_of_lt_of_le k2.lt hg5
        have lt_k17_k4 := Nat.lt_of_lt_of_le k4.lt hg5
        have lt_k17_k5 := Nat.lt_of_lt_of_le k5.lt hg5
        have lt_k17_k6 := Nat.lt_of_lt_of_le k6.lt hg5
        have lt_k17_k7 := Nat.lt_of_lt_of_le k7.lt hg5
        have lt_k17_k8 := Nat.lt_of_lt_of_le k8.lt hg5
        have lt_k17_k9 := Nat.lt_of_lt_of_le k9.lt hg5
        have lt_k17_k12 := Nat.lt_of_lt_of_le k12.lt hg5
        have lt_k17_k13 := Nat.lt_of_lt_of_le k13.lt hg5
        have lt_k17_k14 := Nat.lt_of_lt_of_le k14.lt hg5
        have lt_k17_k15 := Nat.lt_of_lt_of_le k15.lt hg5
        have lt_k17_k16 := Nat.lt_of_lt_of_le k16.lt hg5
        have k2 := k2.below hS_p20_4644
        have k4 := k4.below hS_p20_4644
        have k5 := k5.below hS_p20_4644
        have k6 := k6.below hS_p20_4644
        have k7 := k7.below hS_p20_4644
        have k8 := k8.below hS_p20_4644
        have k9 := k9.below hS_p20_4644
        have k12 := k12.below hS_p20_4644
        have k13 := k13.below hS_p20_4644
        have k14 := k14.below hS_p20_4644
        have k15 := k15.below hS_p20_4644
        have k16 := k16.below hS_p20_4644
        have kb := bel kb hS_p20_4644
        refine Tx.bar 127 rfl (by decide +kernel) (fun K hK => ?_)
        refine step_store_arr rfl _ _ _ rfl _ _ rfl rfl _ (by assumption) (by first | (rw [lims_len]; kernel_rfl) | (rw [el_rep]; kernel_rfl) | (rw [el_len]; kernel_rfl) | (rw [byts_len]; kernel_rfl) | (rw [us_len]; kernel_rfl) | (rw [bytn_len]; kernel_rfl) | (rw [ens_len, digs_len]; kernel_rfl) | kernel_rfl) (by first | (rw [lims_len, lims_len]) | (rw [el_rep, el_rep]) | (rw [el_rep, el_len]; rfl) | (rw [el_len, el_rep]; rfl) | (rw [el_len, el_len]; rfl) | (rw [byts_len, byts_len]) | (rw [lims_len]; rfl) | (rw [byts_len]; rfl) | (rw [us_len, us_len]; rfl) | (rw [bytn_len, bytn_len]) | (rw [bytn_len]; rfl) | (rw [ens_len, ens_len, digs_len, digs_len]) | rfl) (by first | exact lims_one _ _ | exact el_one _ | exact byts_one _ | exact us_one _ | exact bytn_one _ _ | exact ens_one _ | (intro v hv; simp at hv; rcases hv with rfl | rfl | rfl | rfl <;> rfl)) ?_
        refine hK (fun _ => True) 9999 _ _ ?_
        clear hK K
        try simp only [Act.put]
        try simp only [List.setIfInBounds_toArray, List.set_cons_zero, List.set_cons_succ]
        refine Tx.done (by kernel_rfl) ?_
        refine then_row ha5 (fun w_29 ha5 hoth hbel => ?_)
        have k2 := hoth _ _ (by omega) k2
        have k4 := hoth _ _ (by omega) k4
        have k5 := hoth _ _ (by omega) k5
        have k6 := hoth _ _ (by omega) k6
        have k7 := hoth _ _ (by omega) k7
        have k8 := hoth _ _ (by omega) k8
        have k9 := hoth _ _ (by omega) k9
        have k12 := hoth _ _ (by omega) k12
        have k13 := hoth _ _ (by omega) k13
        have k14 := hoth _ _ (by omega) k14
        have k15 := hoth _ _ (by omega) k15
        have k16 := hoth _ _ (by omega) k16
        have kb := hbel _ _ (by omega) kb
        clear hoth hbel
        have k17 := ha5
        clear ha5
        generalize g5 = g_k17 at *
        go_upto_region 21 with (first | (refine wpList_load_arr2 rfl _ _ rfl _ rfl (by decide +kernel) _ (by assumption) (by first | (rw [lims_len]; kernel_rfl) | (rw [el_rep]; kernel_rfl) | (rw [el_len]; kernel_rfl) | (rw [byts_len]; kernel_rfl) | (rw [us_len]; kernel_rfl) | (rw [bytn_len]; kernel_rfl) | (rw [ens_len, digs_len]; kernel_rfl) | kernel_rfl) ?_) | (refine wpList_store_arr rfl _ _ _ rfl _ _ rfl rfl _ (by first | assumption | exact Arr.new _ _ _) (by first | (rw [lims_len]; kernel_rfl) | (rw [el_rep]; kernel_rfl) | (rw [el_len]; kernel_rfl) | (rw [byts_len]; kernel_rfl) | (rw [us_len]; kernel_rfl) | (rw [bytn_len]; kernel_rfl) | (rw [ens_len, digs_len]; kernel_rfl) | kernel_rfl) (by first | (rw [lims_len, lims_len]) | (rw [el_rep, el_rep]) | (rw [el_rep, el_len]; rfl) | (rw [el_len, el_rep]; rfl) | (rw [el_len, el_len]; rfl) | (rw [byts_len, byts_len]) | (rw [lims_len]; rfl) | (rw [byts_len]; rfl) | (rw [us_len, us_len]; rfl) | (rw [bytn_len, bytn_len]) | (rw [bytn_len]; rfl) | (rw [ens_len, ens_len, digs_len, digs_len]) | rfl) (by first | exact lims_one _ _ | exact el_one _ | exact byts_one _ | exact us_one _ | exact bytn_one _ _ | exact ens_one _ | (intro v hv; simp at hv; rcases hv with rfl | rfl | rfl | rfl <;> rfl)) ?_))
        refine Tx.start (fun w' => Below (w_29).heap.size (w_29) w') 6 7 rfl (by kernel_rfl) ?_
        have hS_30 : Below (w_29).heap.size (w_29) (World.drew w_29) := (Below.refl _ _).drew
        refine Tx.seg (A := ?_) 4 11 (by kernel_rfl) (by exact hS_30) [0, 1, 3] (by kernel_rfl) ?_ ?_
        rotate_left
        · intro w' hB
          have e0 := k2.below hB
          have e1 := k4.below hB
          have e2 := k5.below hB
          have e3 := k6.below hB
          have e4 := k7.below hB
          have e5 := k8.below hB
          have e6 := k9.below hB
          have e7 := k13.below hB
          have e8 := k14.below hB
          have e9 := k15.below hB
          have e10 := k16.below hB
          have e11 := k17.below hB
          iterate 3 (first | (refine rd_skip rfl rfl ?_; simp only [Act.put, List.setIfInBounds_toArray, List.set_cons_zero, List.set_cons_succ]) | (refine rd_load_arr rfl rfl _ _ rfl _ rfl (by decide +kernel) _ (by assumption) (by first | (rw [lims_len]; kernel_rfl) | (rw [el_rep]; kernel_rfl) | (rw [el_len]; kernel_rfl) | (rw [byts_len]; kernel_rfl) | (rw [us_len]; kernel_rfl) | (rw [bytn_len]; kernel_rfl) | (rw [ens_len, digs_len]; kernel_rfl) | kernel_rfl) ?_; simp only [Act.put, List.setIfInBounds_toArray, List.set_cons_zero, List.set_cons_succ]) | (refine rd_take (v := ?_) rfl rfl ?_ ?_; rotate_left; (focus (go_simp; try (with_reducible rfl))); simp only [Act.put, List.setIfInBounds_toArray, List.set_cons_zero, List.set_cons_succ]) | (refine rd_take (v := ?_) rfl rfl ?_ ?_; rotate_left; (focus (try go_simp); fail)))
          exact rd_nil
        refine Tx.poolB 1 63 [(2, 74), (4, 76), (5, 18)] [(false, []), (false, [(2, 74)]), (false, [])] [(2, Ph.is (.agg (el (rep R8)).toArray)), (4, Ph.is (.agg (el (rep R9)).toArray)), (5, Ph.arr (w_29).heap.size (el (List.replicate 16 0)))] (by kernel_rfl) (by kernel_rfl) (by first | assumption | exact (Below.refl _ _).drew) ?_ ?_
        · refine ⟨⟨_, rfl, ?_⟩, ⟨_, rfl, ?_⟩, ⟨_, rfl, ?_⟩, trivial⟩
          · intro vs w1 hS hE hD K hK
            clear hD
            simp only [fillL, Act.put, List.setIfInBounds_toArray, List.set_cons_zero, List.set_cons_succ] at hK ⊢
            go_simp
            refine (d8.out _).mono ?_
            rintro e w2 ⟨rfl, hb2⟩
            exact hK _ _ rfl hb2 nofun
          · intro vs w1 hS hE hD K hK
            obtain ⟨q2, -⟩ := hD
            simp only [fillL, Act.put, List.setIfInBounds_toArray, List.set_cons_zero, List.set_cons_succ] at hK ⊢
            rw [show vs 2 = _ from q2] at hK ⊢
            clear q2
            go_simp
            refine (d9.out _).mono ?_
            rintro e w2 ⟨rfl, hb2⟩
            exact hK _ _ rfl hb2 nofun
          · intro vs w1 hS hE hD K hK
            clear hD
            simp only [fillL, Act.put, List.setIfInBounds_toArray, List.set_cons_zero, List.set_cons_succ] at hK ⊢
            go_simp
            exact hK _ _ ⟨_, rfl, Nat.le_trans (by first | exact Nat.le_refl _ | omega | (simp; omega)) hE.size, Arr.new _ _ _⟩ (below_alloc _ _) (fun _ => ⟨_, rfl, Nat.le_refl _⟩)
        intro vs w_p21_8857 hS_p21_8857 hE_p21_8857 hP hD
        obtain ⟨q2, q4, q5, -⟩ := hP
        simp only [fillL, Act.put, List.setIfInBounds_toArray, List.set_cons_zero, List.set_cons_succ]
        rw [show vs 2 = _ from q2]
        clear q2
        rw [show vs 4 = _ from q4]
        clear q4
        obtain ⟨g5, e5, hg5, ha5⟩ := q5
        rw [e5]
        clear e5 hD vs
        have lt_k18_k2 := Nat.lt_of_lt_of_le k2.lt hg5
        have lt_k18_k4 := Nat.lt_of_lt_of_le k4.lt hg5
        have lt_k18_k5 := Nat.lt_of_lt_of_le k5.lt hg5
        have lt_k18_k6 := Nat.lt_of_lt_of_le k6.lt hg5
        have lt_k18_k7 := Nat.lt_of_lt_of_le k7.lt hg5
        have lt_k18_k8 := Nat.lt_of_lt_of_le k8.lt hg5
        have lt_k18_k9 := Nat.lt_of_lt_of_le k9.lt hg5
        have lt_k18_k13 := Nat.lt_of_lt_of_le k13.lt hg5
        have lt_k18_k14 := Nat.lt_of_lt_of_le k14.lt hg5
        have lt_k18_k15 := Nat.lt_of_lt_of_le k15.lt hg5
        have lt_k18_k16 := Nat.lt_of_lt_of_le k16.lt hg5
        have lt_k18_k17 := Nat.lt_of_lt_of_le k17.lt hg5
        have k2 := k2.below hS_p21_8857
        have k4 := k4.below hS_p21_8857
        have k5 := k5.below hS_p21_8857
        have k6 := k6.below hS_p21_8857
        have k7 := k7.below hS_p21_8857
        have k8 := k8.below hS_p21_8857
        have k9 := k9.below hS_p21_8857
        have k13 := k13.below hS_p21_8857
        have k14 := k14.below hS_p21_8857
        have k15 := k15.below hS_p21_8857
        have k16 := k16.below hS_p21_8857
        have k17 := k17.below hS_p21_8857
        have kb := bel kb hS_p21_8857
        refine Tx.bar 127 rfl (by decide +kernel) (fun K hK => ?_)
        refine step_store_arr rfl _ _ _ rfl _ _ rfl rfl _ (by assumption) (by first | (rw [lims_len]; kernel_rfl) | (rw [el_rep]; kernel_rfl) | (rw [el_len]; kernel_rfl) | (rw [byts_len]; kernel_rfl) | (rw [us_len]; kernel_rfl) | (rw [bytn_len]; kernel_rfl) | (rw [ens_len, digs_len]; kernel_rfl) | kernel_rfl) (by first | (rw [lims_len, lims_len]) | (rw [el_rep, el_rep]) | (rw [el_rep, el_len]; rfl) | (rw [el_len, el_rep]; rfl) | (rw [el_len, el_len]; rfl) | (rw [byts_len, byts_len]) | (rw [lims_len]; rfl) | (rw [byts_len]; rfl) | (rw [us_len, us_len]; rfl) | (rw [bytn_len, bytn_len]) | (rw [bytn_len]; rfl) | (rw [ens_len, ens_len, digs_len, digs_len]) | rfl) (by first | exact lims_one _ _ | exact el_one _ | exact byts_one _ | exact us_one _ | exact bytn_one _ _ | exact ens_one _ | (intro v hv; simp at hv; rcases hv with rfl | rfl | rfl | rfl <;> rfl)) ?_
        refine hK (fun _ => True) 9999 _ _ ?_
        clear hK K
        try simp only [Act.put]
        try simp only [List.setIfInBounds_toArray, List.set_cons_zero, List.set_cons_succ]
        refine Tx.done (by kernel_rfl) ?_
        refine then_row ha5 (fun w_31 ha5 hoth hbel => ?_)
        have k2 := hoth _ _ (by omega) k2
        have k4 := hoth _ _ (by omega) k4
        have k5 := hoth _ _ (by omega) k5
        have k6 := hoth _ _ (by omega) k6
        have k7 := hoth _ _ (by omega) k7
        have k8 := hoth _ _ (by omega) k8
        have k9 := hoth _ _ (by omega) k9
        have k13 := hoth _ _ (by omega) k13
        have k14 := hoth _ _ (by omega) k14
        have k15 := hoth _ _ (by omega) k15
        have k16 := hoth _ _ (by omega) k16
        have k17 := hoth _ _ (by omega) k17
        have kb := hbel _ _ (by omega) kb
        clear hoth hbel
        have k18 := ha5
        clear ha5
        generalize g5 = g_k18 at *
        go_upto_region 22 with (first | (refine wpList_load_arr2 rfl _ _ rfl _ rfl (by decide +kernel) _ (by assumption) (by first | (rw [lims_len]; kernel_rfl) | (rw [el_rep]; kernel_rfl) | (rw [el_len]; kernel_rfl) | (rw [byts_len]; kernel_rfl) | (rw [us_len]; kernel_rfl) | (rw [bytn_len]; kernel_rfl) | (rw [ens_len, digs_len]; kernel_rfl) | kernel_rfl) ?_) | (refine wpList_store_arr rfl _ _ _ rfl _ _ rfl rfl _ (by first | assumption | exact Arr.new _ _ _) (by first | (rw [lims_len]; kernel_rfl) | (rw [el_rep]; kernel_rfl) | (rw [el_len]; kernel_rfl) | (rw [byts_len]; kernel_rfl) | (rw [us_len]; kernel_rfl) | (rw [bytn_len]; kernel_rfl) | (rw [ens_len, digs_len]; kernel_rfl) | kernel_rfl) (by first | (rw [lims_len, lims_len]) | (rw [el_rep, el_rep]) | (rw [el_rep, el_len]; rfl) | (rw [el_len, el_rep]; rfl) | (rw [el_len, el_len]; rfl) | (rw [byts_len, byts_len]) | (rw [lims_len]; rfl) | (rw [byts_len]; rfl) | (rw [us_len, us_len]; rfl) | (rw [bytn_len, bytn_len]) | (rw [bytn_len]; rfl) | (rw [ens_len, ens_len, digs_len, digs_len]) | rfl) (by first | exact lims_one _ _ | exact el_one _ | exact byts_one _ | exact us_one _ | exact bytn_one _ _ | exact ens_one _ | (intro v hv; simp at hv; rcases hv with rfl | rfl | rfl | rfl <;> rfl)) ?_))
        go_wp2_with (first | (refine wpList_load_arr2 rfl _ _ rfl _ rfl (by decide +kernel) _ (by assumption) (by first | (rw [lims_len]; kernel_rfl) | (rw [el_rep]; kernel_rfl) | (rw [el_len]; kernel_rfl) | (rw [byts_len]; kernel_rfl) | (rw [us_len]; kernel_rfl) | (rw [bytn_len]; kernel_rfl) | (rw [ens_len, digs_len]; kernel_rfl) | kernel_rfl) ?_) | (refine wpList_store_arr rfl _ _ _ rfl _ _ rfl rfl _ (by first | assumption | exact Arr.new _ _ _) (by first | (rw [lims_len]; kernel_rfl) | (rw [el_rep]; kernel_rfl) | (rw [el_len]; kernel_rfl) | (rw [byts_len]; kernel_rfl) | (rw [us_len]; kernel_rfl) | (rw [bytn_len]; kernel_rfl) | (rw [ens_len, digs_len]; kernel_rfl) | kernel_rfl) (by first | (rw [lims_len, lims_len]) | (rw [el_rep, el_rep]) | (rw [el_rep, el_len]; rfl) | (rw [el_len, el_rep]; rfl) | (rw [el_len, el_len]; rfl) | (rw [byts_len, byts_len]) | (rw [lims_len]; rfl) | (rw [byts_len]; rfl) | (rw [us_len, us_len]; rfl) | (rw [bytn_len, bytn_len]) | (rw [bytn_len]; rfl) | (rw [ens_len, ens_len, digs_len, digs_len]) | rfl) (by first | exact lims_one _ _ | exact el_one _ | exact byts_one _ | exact us_one _ | exact bytn_one _ _ | exact ens_one _ | (intro v hv; simp at hv; rcases hv with rfl | rfl | rfl | rfl <;> rfl)) ?_))
        refine (d10.out _).mono ?_
        rintro e w_32 ⟨rfl, hb_32⟩
        have k2 := k2.below hb_32
        have k4 := k4.below hb_32
        have k5 := k5.below hb_32
        have k6 := k6.below hb_32
        have k7 := k7.below hb_32
        have k8 := k8.below hb_32
        have k9 := k9.below hb_32
        have k13 := k13.below hb_32
        have k15 := k15.below hb_32
        have k16 := k16.below hb_32
        have k17 := k17.below hb_32
        have k18 := k18.below hb_32
        have kb := bel kb hb_32
        clear hb_32
        go_upto_region 23 with (first | (refine wpList_load_arr2 rfl _ _ rfl _ rfl (by decide +kernel) _ (by assumption) (by first | (rw [lims_len]; kernel_rfl) | (rw [el_rep]; kernel_rfl) | (rw [el_len]; kernel_rfl) | (rw [byts_len]; kernel_rfl) | (rw [us_len]; kernel_rfl) | (rw [bytn_len]; kernel_rfl) | (rw [ens_len, digs_len]; kernel_rfl) | kernel_rfl) ?_) | (refine wpList_store_arr rfl _ _ _ rfl _ _ rfl rfl _ (by first | assumption | exact Arr.new _ _ _) (by first | (rw [lims_len]; kernel_rfl) | (rw [el_rep]; kernel_rfl) | (rw [el_len]; kernel_rfl) | (rw [byts_len]; kernel_rfl) | (rw [us_len]; kernel_rfl) | (rw [bytn_len]; kernel_rfl) | (rw [ens_len, digs_len]; kernel_rfl) | kernel_rfl) (by first | (rw [lims_len, lims_len]) | (rw [el_rep, el_rep]) | (rw [el_rep, el_len]; rfl) | (rw [el_len, el_rep]; rfl) | (rw [el_len, el_len]; rfl) | (rw [byts_len, byts_len]) | (rw [lims_len]; rfl) | (rw [byts_len]; rfl) | (rw [us_len, us_len]; rfl) | (rw [bytn_len, bytn_len]) | (rw [bytn_len]; rfl) | (rw [ens_len, ens_len, digs_len, digs_len]) | rfl) (by first | exact lims_one _ _ | exact el_one _ | exact byts_one _ | exact us_one _ | exact bytn_one _ _ | exact ens_one _ | (intro v hv; simp at hv; rcases hv with rfl | rfl | rfl | rfl <;> rfl)) ?_))
        have hg_k19_k2 := k2.lt
        have hg_k19_k4 := k4.lt
        have hg_k19_k5 := k5.lt
        have hg_k19_k6 := k6.lt
        have hg_k19_k7 := k7.lt
        have hg_k19_k8 := k8.lt
        have hg_k19_k9 := k9.lt
        have hg_k19_k13 := k13.lt
        have hg_k19_k15 := k15.lt
        have hg_k19_k16 := k16.lt
        have hg_k19_k17 := k17.lt
        have hg_k19_k18 := k18.lt
        refine code_new (fun w_33 k19 hnew => ?_)
        have k2 := k2.below hnew
        have k4 := k4.below hnew
        have k5 := k5.below hnew
        have k6 := k6.below hnew
        have k7 := k7.below hnew
        have k8 := k8.below hnew
        have k9 := k9.below hnew
        have k13 := k13.below hnew
        have k15 := k15.below hnew
        have k16 := k16.below hnew
        have k17 := k17.below hnew
        have k18 := k18.below hnew
        have kb := bel kb hnew
        clear hnew
        generalize (w_32).heap.size = g_k19 at k19 hg_k19_k2 hg_k19_k4 hg_k19_k5 hg_k19_k6 hg_k19_k7 hg_k19_k8 hg_k19_k9 hg_k19_k13 hg_k19_k15 hg_k19_k16 hg_k19_k17 hg_k19_k18 ⊢
        go_upto_region 23 with (first | (refine wpList_load_arr2 rfl _ _ rfl _ rfl (by decide +kernel) _ (by assumption) (by first | (rw [lims_len]; kernel_rfl) | (rw [el_rep]; kernel_rfl) | (rw [el_len]; kernel_rfl) | (rw [byts_len]; kernel_rfl) | (rw [us_len]; kernel_rfl) | (rw [bytn_len]; kernel_rfl) | (rw [ens_len, digs_len]; kernel_rfl) | kernel_rfl) ?_) | (refine wpList_store_arr rfl _ _ _ rfl _ _ rfl rfl _ (by first | assumption | exact Arr.new _ _ _) (by first | (rw [lims_len]; kernel_rfl) | (rw [el_rep]; kernel_rfl) | (rw [el_len]; kernel_rfl) | (rw [byts_len]; kernel_rfl) | (rw [us_len]; kernel_rfl) | (rw [bytn_len]; kernel_rfl) | (rw [ens_len, digs_len]; kernel_rfl) | kernel_rfl) (by first | (rw [lims_len, lims_len]) | (rw [el_rep, el_rep]) | (rw [el_rep, el_len]; rfl) | (rw [el_len, el_rep]; rfl) | (rw [el_len, el_len]; rfl) | (rw [byts_len, byts_len]) | (rw [lims_len]; rfl) | (rw [byts_len]; rfl) | (rw [us_len, us_len]; rfl) | (rw [bytn_len, bytn_len]) | (rw [bytn_len]; rfl) | (rw [ens_len, ens_len, digs_len, digs_len]) | rfl) (by first | exact lims_one _ _ | exact el_one _ | exact byts_one _ | exact us_one _ | exact bytn_one _ _ | exact ens_one _ | (intro v hv; simp at hv; rcases hv with rfl | rfl | rfl | rfl <;> rfl)) ?_))
        go_wp2_with (first | (refine wpList_load_arr2 rfl _ _ rfl _ rfl (by decide +kernel) _ (by assumption) (by first | (rw [lims_len]; kernel_rfl) | (rw [el_rep]; kernel_rfl) | (rw [el_len]; kernel_rfl) | (rw [byts_len]; kernel_rfl) | (rw [us_len]; kernel_rfl) | (rw [bytn_len]; kernel_rfl) | (rw [ens_len, digs_len]; kernel_rfl) | kernel_rfl) ?_) | (refine wpList_store_arr rfl _ _ _ rfl _ _ rfl rfl _ (by first | assumption | exact Arr.new _ _ _) (by first | (rw [lims_len]; kernel_rfl) | (rw [el_rep]; kernel_rfl) | (rw [el_len]; kernel_rfl) | (rw [byts_len]; kernel_rfl) | (rw [us_len]; kernel_rfl) | (rw [bytn_len]; kernel_rfl) | (rw [ens_len, digs_len]; kernel_rfl) | kernel_rfl) (by first | (rw [lims_len, lims_len]) | (rw [el_rep, el_rep]) | (rw [el_rep, el_len]; rfl) | (rw [el_len, el_rep]; rfl) | (rw [el_len, el_len]; rfl) | (rw [byts_len, byts_len]) | (rw [lims_len]; rfl) | (rw [byts_len]; rfl) | (rw [us_len, us_len]; rfl) | (rw [bytn_len, bytn_len]) | (rw [bytn_len]; rfl) | (rw [ens_len, ens_len, digs_len, digs_len]) | rfl) (by first | exact lims_one _ _ | exact el_one _ | exact byts_one _ | exact us_one _ | exact bytn_one _ _ | exact ens_one _ | (intro v hv; simp at hv; rcases hv with rfl | rfl | rfl | rfl <;> rfl)) ?_))
        refine (d11.out _).mono ?_
        rintro e w_34 ⟨rfl, hb_34⟩
        have k2 := k2.below hb_34
        have k4 := k4.below hb_34
        have k5 := k5.below hb_34
        have k6 := k6.below hb_34
        have k7 := k7.below hb_34
        have k8 := k8.below hb_34
        have k9 := k9.below hb_34
        have k13 := k13.below hb_34
        have k15 := k15.below hb_34
        have k16 := k16.below hb_34
        have k17 := k17.below hb_34
        have k18 := k18.below hb_34
        have k19 := k19.below hb_34
        have kb := bel kb hb_34
        clear hb_34
        go_upto_region 24 with (first | (refine wpList_load_arr2 rfl _ _ rfl _ rfl (by decide +kernel) _ (by assumption) (by first | (rw [lims_len]; kernel_rfl) | (rw [el_rep]; kernel_rfl) | (rw [el_len]; kernel_rfl) | (rw [byts_len]; kernel_rfl) | (rw [us_len]; kernel_rfl) | (rw [bytn_len]; kernel_rfl) | (rw [ens_len, digs_len]; kernel_rfl) | kernel_rfl) ?_) | (refine wpList_store_arr rfl _ _ _ rfl _ _ rfl rfl _ (by first | assumption | exact Arr.new _ _ _) (by first | (rw [lims_len]; kernel_rfl) | (rw [el_rep]; kernel_rfl) | (rw [el_len]; kernel_rfl) | (rw [byts_len]; kernel_rfl) | (rw [us_len]; kernel_rfl) | (rw [bytn_len]; kernel_rfl) | (rw [ens_len, digs_len]; kernel_rfl) | kernel_rfl) (by first | (rw [lims_len, lims_len]) | (rw [el_rep, el_rep]) | (rw [el_rep, el_len]; rfl) | (rw [el_len, el_rep]; rfl) | (rw [el_len, el_len]; rfl) | (rw [byts_len, byts_len]) | (rw [lims_len]; rfl) | (rw [byts_len]; rfl) | (rw [us_len, us_len]; rfl) | (rw [bytn_len, bytn_len]) | (rw [bytn_len]; rfl) | (rw [ens_len, ens_len, digs_len, digs_len]) | rfl) (by first | exact lims_one _ _ | exact el_one _ | exact byts_one _ | exact us_one _ | exact bytn_one _ _ | exact ens_one _ | (intro v hv; simp at hv; rcases hv with rfl | rfl | rfl | rfl <;> rfl)) ?_))
        have hg_k20_k2 := k2.lt
        have hg_k20_k4 := k4.lt
        have hg_k20_k5 := k5.lt
        have hg_k20_k6 := k6.lt
        have hg_k20_k7 := k7.lt
        have hg_k20_k8 := k8.lt
        have hg_k20_k9 := k9.lt
        have hg_k20_k13 := k13.lt
        have hg_k20_k15 := k15.lt
        have hg_k20_k16 := k16.lt
        have hg_k20_k19 := k19.lt
        refine code_new (fun w_35 k20 hnew => ?_)
        have k2 := k2.below hnew
        have k4 := k4.below hnew
        have k5 := k5.below hnew
        have k6 := k6.below hnew
        have k7 := k7.below hnew
        have k8 := k8.below hnew
        have k9 := k9.below hnew
        have k13 := k13.below hnew
        have k15 := k15.below hnew
        have k16 := k16.below hnew
        have k19 := k19.below hnew
        have kb := bel kb hnew
        clear hnew
        generalize (w_34).heap.size = g_k20 at k20 hg_k20_k2 hg_k20_k4 hg_k20_k5 hg_k20_k6 hg_k20_k7 hg_k20_k8 hg_k20_k9 hg_k20_k13 hg_k20_k15 hg_k20_k16 hg_k20_k19 ⊢
        go_upto_region 24 with (first | (refine wpList_load_arr2 rfl _ _ rfl _ rfl (by decide +kernel) _ (by assumption) (by first | (rw [lims_len]; kernel_rfl) | (rw [el_rep]; kernel_rfl) | (rw [el_len]; kernel_rfl) | (rw [byts_len]; kernel_rfl) | (rw [us_len]; kernel_rfl) | (rw [bytn_len]; kernel_rfl) | (rw [ens_len, digs_len]; kernel_rfl) | kernel_rfl) ?_) | (refine wpList_store_arr rfl _ _ _ rfl _ _ rfl rfl _ (by first | assumption | exact Arr.new _ _ _) (by first | (rw [lims_len]; kernel_rfl) | (rw [el_rep]; kernel_rfl) | (rw [el_len]; kernel_rfl) | (rw [byts_len]; kernel_rfl) | (rw [us_len]; kernel_rfl) | (rw [bytn_len]; kernel_rfl) | (rw [ens_len, digs_len]; kernel_rfl) | kernel_rfl) (by first | (rw [lims_len, lims_len]) | (rw [el_rep, el_rep]) | (rw [el_rep, el_len]; rfl) | (rw [el_len, el_rep]; rfl) | (rw [el_len, el_len]; rfl) | (rw [byts_len, byts_len]) | (rw [lims_len]; rfl) | (rw [byts_len]; rfl) | (rw [us_len, us_len]; rfl) | (rw [bytn_len, bytn_len]) | (rw [bytn_len]; rfl) | (rw [ens_len, ens_len, digs_len, digs_len]) | rfl) (by first | exact lims_one _ _ | exact el_one _ | exact byts_one _ | exact us_one _ | exact bytn_one _ _ | exact ens_one _ | (intro v hv; simp at hv; rcases hv with rfl | rfl | rfl | rfl <;> rfl)) ?_))
        go_wp2_with (first | (refine wpList_load_arr2 rfl _ _ rfl _ rfl (by decide +kernel) _ (by assumption) (by first | (rw [lims_len]; kernel_rfl) | (rw [el_rep]; kernel_rfl) | (rw [el_len]; kernel_rfl) | (rw [byts_len]; kernel_rfl) | (rw [us_len]; kernel_rfl) | (rw [bytn_len]; kernel_rfl) | (rw [ens_len, digs_len]; kernel_rfl) | kernel_rfl) ?_) | (refine wpList_store_arr rfl _ _ _ rfl _ _ rfl rfl _ (by first | assumption | exact Arr.new _ _ _) (by first | (rw [lims_len]; kernel_rfl) | (rw [el_rep]; kernel_rfl) | (rw [el_len]; kernel_rfl) | (rw [byts_len]; kernel_rfl) | (rw [us_len]; kernel_rfl) | (rw [bytn_len]; kernel_rfl) | (rw [ens_len, digs_len]; kernel_rfl) | kernel_rfl) (by first | (rw [lims_len, lims_len]) | (rw [el_rep, el_rep]) | (rw [el_rep, el_len]; rfl) | (rw [el_len, el_rep]; rfl) | (rw [el_len, el_len]; rfl) | (rw [byts_len, byts_len]) | (rw [lims_len]; rfl) | (rw [byts_len]; rfl) | (rw [us_len, us_len]; rfl) | (rw [bytn_len, bytn_len]) | (rw [bytn_len]; rfl) | (rw [ens_len, ens_len, digs_len, digs_len]) | rfl) (by first | exact lims_one _ _ | exact el_one _ | exact byts_one _ | exact us_one _ | exact bytn_one _ _ | exact ens_one _ | (intro v hv; simp at hv; rcases hv with rfl | rfl | rfl | rfl <;> rfl)) ?_))
        refine (d12.out _).mono ?_
        rintro e w_36 ⟨rfl, hb_36⟩
        have k2 := k2.below hb_36
        have k4 := k4.below hb_36
        have k5 := k5.below hb_36
        have k6 := k6.below hb_36
        have k7 := k7.below hb_36
        have k8 := k8.below hb_36
        have k9 := k9.below hb_36
        have k13 := k13.below hb_36
        have k15 := k15.below hb_36
        have k16 := k16.below hb_36
        have k20 := k20.below hb_36
        have kb := bel kb hb_36
        clear hb_36
        go_upto_region 25 with (first | (refine wpList_load_arr2 rfl _ _ rfl _ rfl (by decide +kernel) _ (by assumption) (by first | (rw [lims_len]; kernel_rfl) | (rw [el_rep]; kernel_rfl) | (rw [el_len]; kernel_rfl) | (rw [byts_len]; kernel_rfl) | (rw [us_len]; kernel_rfl) | (rw [bytn_len]; kernel_rfl) | (rw [ens_len, digs_len]; kernel_rfl) | kernel_rfl) ?_) | (refine wpList_store_arr rfl _ _ _ rfl _ _ rfl rfl _ (by first | assumption | exact Arr.new _ _ _) (by first | (rw [lims_len]; kernel_rfl) | (rw [el_rep]; kernel_rfl) | (rw [el_len]; kernel_rfl) | (rw [byts_len]; kernel_rfl) | (rw [us_len]; kernel_rfl) | (rw [bytn_len]; kernel_rfl) | (rw [ens_len, digs_len]; kernel_rfl) | kernel_rfl) (by first | (rw [lims_len, lims_len]) | (rw [el_rep, el_rep]) | (rw [el_rep, el_len]; rfl) | (rw [el_len, el_rep]; rfl) | (rw [el_len, el_len]; rfl) | (rw [byts_len, byts_len]) | (rw [lims_len]; rfl) | (rw [byts_len]; rfl) | (rw [us_len, us_len]; rfl) | (rw [bytn_len, bytn_len]) | (rw [bytn_len]; rfl) | (rw [ens_len, ens_len, digs_len, digs_len]) | rfl) (by first | exact lims_one _ _ | exact el_one _ | exact byts_one _ | exact us_one _ | exact bytn_one _ _ | exact ens_one _ | (intro v hv; simp at hv; rcases hv with rfl | rfl | rfl | rfl <;> rfl)) ?_))
        refine code_row k8 (fun w_37 k8 hoth hbel => ?_)
        have k2 := hoth _ _ (by omega) k2
        have k4 := hoth _ _ (by omega) k4
        have k5 := hoth _ _ (by omega) k5
        have k6 := hoth _ _ (by omega) k6
        have k7 := hoth _ _ (by omega) k7
        have k9 := hoth _ _ (by omega) k9
        have k13 := hoth _ _ (by omega) k13
        have k15 := hoth _ _ (by omega) k15
        have k16 := hoth _ _ (by omega) k16
        have k20 := hoth _ _ (by omega) k20
        have kb := hbel _ _ (by omega) kb
        clear hoth hbel
        go_upto_region 25 with (first | (refine wpList_load_arr2 rfl _ _ rfl _ rfl (by decide +kernel) _ (by assumption) (by first | (rw [lims_len]; kernel_rfl) | (rw [el_rep]; kernel_rfl) | (rw [el_len]; kernel_rfl) | (rw [byts_len]; kernel_rfl) | (rw [us_len]; kernel_rfl) | (rw [bytn_len]; kernel_rfl) | (rw [ens_len, digs_len]; kernel_rfl) | kernel_rfl) ?_) | (refine wpList_store_arr rfl _ _ _ rfl _ _ rfl rfl _ (by first | assumption | exact Arr.new _ _ _) (by first | (rw [lims_len]; kernel_rfl) | (rw [el_rep]; kernel_rfl) | (rw [el_len]; kernel_rfl) | (rw [byts_len]; kernel_rfl) | (rw [us_len]; kernel_rfl) | (rw [bytn_len]; kernel_rfl) | (rw [ens_len, digs_len]; kernel_rfl) | kernel_rfl) (by first | (rw [lims_len, lims_len]) | (rw [el_rep, el_rep]) | (rw [el_rep, el_len]; rfl) | (rw [el_len, el_rep]; rfl) | (rw [el_len, el_len]; rfl) | (rw [byts_len, byts_len]) | (rw [lims_len]; rfl) | (rw [byts_len]; rfl) | (rw [us_len, us_len]; rfl) | (rw [bytn_len, bytn_len]) | (rw [bytn_len]; rfl) | (rw [ens_len, ens_len, digs_len, digs_len]) | rfl) (by first | exact lims_one _ _ | exact el_one _ | exact byts_one _ | exact us_one _ | exact bytn_one _ _ | exact ens_one _ | (intro v hv; simp at hv; rcases hv with rfl | rfl | rfl | rfl <;> rfl)) ?_))
        refine Tx.start (fun w' => Below (w_37).heap.size (w_37) w') 5 6 rfl (by kernel_rfl) ?_
        have hS_38 : Below (w_37).heap.size (w_37) (World.drew w_37) := (Below.refl _ _).drew
        refine Tx.seg (A := ?_) 3 7 (by kernel_rfl) (by exact hS_38) [0, 1, 2] (by kernel_rfl) ?_ ?_
        rotate_left
        · intro w' hB
          have e0 := k2.below hB
          have e1 := k4.below hB
          have e2 := k5.below hB
          have e3 := k6.below hB
          have e4 := k7.below hB
          have e5 := k8.below hB
          have e6 := k9.below hB
          have e7 := k13.below hB
          have e8 := k15.below hB
          have e9 := k16.below hB
          have e10 := k20.below hB
          iterate 3 (first | (refine rd_skip rfl rfl ?_; simp only [Act.put, List.setIfInBounds_toArray, List.set_cons_zero, List.set_cons_succ]) | (refine rd_load_arr rfl rfl _ _ rfl _ rfl (by decide +kernel) _ (by assumption) (by first | (rw [lims_len]; kernel_rfl) | (rw [el_rep]; kernel_rfl) | (rw [el_len]; kernel_rfl) | (rw [byts_len]; kernel_rfl) | (rw [us_len]; kernel_rfl) | (rw [bytn_len]; kernel_rfl) | (rw [ens_len, digs_len]; kernel_rfl) | kernel_rfl) ?_; simp only [Act.put, List.setIfInBounds_toArray, List.set_cons_zero, List.set_cons_succ]) | (refine rd_take (v := ?_) rfl rfl ?_ ?_; rotate_left; (focus (go_simp; try (with_reducible rfl))); simp only [Act.put, List.setIfInBounds_toArray, List.set_cons_zero, List.set_cons_succ]) | (refine rd_take (v := ?_) rfl rfl ?_ ?_; rotate_left; (focus (try go_simp); fail)))
          exact rd_nil
        refine Tx.eff 3 15 rfl (by decide +kernel) (fun K hK => ?_)
        go_simp
        refine (d13.out _).mono ?_
        rintro e w_39 ⟨rfl, hb_39⟩
        have hS_39 := ext_trans hS_38 (Nat.le_refl _) hb_39
        refine hK (fun w' => Below (w_37).heap.size (w_37) w') _ _ hS_39 (fun _ h => h) ?_
        clear hK K hb_39 hS_38
        try simp only [Act.put, List.setIfInBounds_toArray, List.set_cons_zero, List.set_cons_succ]
        refine Tx.eff 4 31 rfl (by decide +kernel) (fun K hK => ?_)
        go_simp
        refine (d14.out _).mono ?_
        rintro e w_40 ⟨rfl, hb_40⟩
        have hS_40 := ext_trans hS_39 (Nat.le_refl _) hb_40
        refine hK (fun w' => Below (w_37).heap.size (w_37) w') _ _ hS_40 (fun _ h => h) ?_
        clear hK K hb_40 hS_39
        try simp only [Act.put, List.setIfInBounds_toArray, List.set_cons_zero, List.set_cons_succ]
        have k2 := k2.below hS_40
        have k4 := k4.below hS_40
        have k5 := k5.below hS_40
        have k6 := k6.below hS_40
        have k7 := k7.below hS_40
        have k8 := k8.below hS_40
        have k9 := k9.below hS_40
        have k13 := k13.below hS_40
        have k15 := k15.below hS_40
        have k16 := k16.below hS_40
        have k20 := k20.below hS_40
        have kb := bel kb hS_40
        refine Tx.bar 63 rfl (by decide +kernel) (fun K hK => ?_)
        refine step_store_arr rfl _ _ _ rfl _ _ rfl rfl _ (by assumption) (by first | (rw [lims_len]; kernel_rfl) | (rw [el_rep]; kernel_rfl) | (rw [el_len]; kernel_rfl) | (rw [byts_len]; kernel_rfl) | (rw [us_len]; kernel_rfl) | (rw [bytn_len]; kernel_rfl) | (rw [ens_len, digs_len]; kernel_rfl) | kernel_rfl) (by first | (rw [lims_len, lims_len]) | (rw [el_rep, el_rep]) | (rw [el_rep, el_len]; rfl) | (rw [el_len, el_rep]; rfl) | (rw [el_len, el_len]; rfl) | (rw [byts_len, byts_len]) | (rw [lims_len]; rfl) | (rw [byts_len]; rfl) | (rw [us_len, us_len]; rfl) | (rw [bytn_len, bytn_len]) | (rw [bytn_len]; rfl) | (rw [ens_len, ens_len, digs_len, digs_len]) | rfl) (by first | exact lims_one _ _ | exact el_one _ | exact byts_one _ | exact us_one _ | exact bytn_one _ _ | exact ens_one _ | (intro v hv; simp at hv; rcases hv with rfl | rfl | rfl | rfl <;> rfl)) ?_
        refine hK (fun _ => True) 9999 _ _ ?_
        clear hK K
        try simp only [Act.put]
        try simp only [List.setIfInBounds_toArray, List.set_cons_zero, List.set_cons_succ]
        refine Tx.done (by kernel_rfl) ?_
        refine then_row k9 (fun w_41 k9 hoth hbel => ?_)
        have k2 := hoth _ _ (by omega) k2
        have k4 := hoth _ _ (by omega) k4
        have k5 := hoth _ _ (by omega) k5
        have k6 := hoth _ _ (by omega) k6
        have k7 := hoth _ _ (by omega) k7
        have k8 := hoth _ _ (by omega) k8
        have k13 := hoth _ _ (by omega) k13
        have k15 := hoth _ _ (by omega) k15
        have k16 := hoth _ _ (by omega) k16
        have k20 := hoth _ _ (by omega) k20
        have kb := hbel _ _ (by omega) kb
        clear hoth hbel
        go_upto_region 26 with (first | (refine wpList_load_arr2 rfl _ _ rfl _ rfl (by decide +kernel) _ (by assumption) (by first | (rw [lims_len]; kernel_rfl) | (rw [el_rep]; kernel_rfl) | (rw [el_len]; kernel_rfl) | (rw [byts_len]; kernel_rfl) | (rw [us_len]; kernel_rfl) | (rw [bytn_len]; kernel_rfl) | (rw [ens_len, digs_len]; kernel_rfl) | kernel_rfl) ?_) | (refine wpList_store_arr rfl _ _ _ rfl _ _ rfl rfl _ (by first | assumption | exact Arr.new _ _ _) (by first | (rw [lims_len]; kernel_rfl) | (rw [el_rep]; kernel_rfl) | (rw [el_len]; kernel_rfl) | (rw [byts_len]; kernel_rfl) | (rw [us_len]; kernel_rfl) | (rw [bytn_len]; kernel_rfl) | (rw [ens_len, digs_len]; kernel_rfl) | kernel_rfl) (by first | (rw [lims_len, lims_len]) | (rw [el_rep, el_rep]) | (rw [el_rep, el_len]; rfl) | (rw [el_len, el_rep]; rfl) | (rw [el_len, el_len]; rfl) | (rw [byts_len, byts_len]) | (rw [lims_len]; rfl) | (rw [byts_len]; rfl) | (rw [us_len, us_len]; rfl) | (rw [bytn_len, bytn_len]) | (rw [bytn_len]; rfl) | (rw [ens_len, ens_len, digs_len, digs_len]) | rfl) (by first | exact lims_one _ _ | exact el_one _ | exact byts_one _ | exact us_one _ | exact bytn_one _ _ | exact ens_one _ | (intro v hv; simp at hv; rcases hv with rfl | rfl | rfl | rfl <;> rfl)) ?_))
        go_wp2_with (first | (refine wpList_load_arr2 rfl _ _ rfl _ rfl (by decide +kernel) _ (by assumption) (by first | (rw [lims_len]; kernel_rfl) | (rw [el_rep]; kernel_rfl) | (rw [el_len]; kernel_rfl) | (rw [byts_len]; kernel_rfl) | (rw [us_len]; kernel_rfl) | (rw [bytn_len]; kernel_rfl) | (rw [ens_len, digs_len]; kernel_rfl) | kernel_rfl) ?_) | (refine wpList_store_arr rfl _ _ _ rfl _ _ rfl rfl _ (by first | assumption | exact Arr.new _ _ _) (by first | (rw [lims_len]; kernel_rfl) | (rw [el_rep]; kernel_rfl) | (rw [el_len]; kernel_rfl) | (rw [byts_len]; kernel_rfl) | (rw [us_len]; kernel_rfl) | (rw [bytn_len]; kernel_rfl) | (rw [ens_len, digs_len]; kernel_rfl) | kernel_rfl) (by first | (rw [lims_len, lims_len]) | (rw [el_rep, el_rep]) | (rw [el_rep, el_len]; rfl) | (rw [el_len, el_rep]; rfl) | (rw [el_len, el_len]; rfl) | (rw [byts_len, byts_len]) | (rw [lims_len]; rfl) | (rw [byts_len]; rfl) | (rw [us_len, us_len]; rfl) | (rw [bytn_len, bytn_len]) | (rw [bytn_len]; rfl) | (rw [ens_len, ens_len, digs_len, digs_len]) | rfl) (by first | exact lims_one _ _ | exact el_one _ | exact byts_one _ | exact us_one _ | exact bytn_one _ _ | exact ens_one _ | (intro v hv; simp at hv; rcases hv with rfl | rfl | rfl | rfl <;> rfl)) ?_))
        refine (d15.out _).mono ?_
        rintro e w_42 ⟨rfl, hb_42⟩
        have k2 := k2.below hb_42
        have k4 := k4.below hb_42
        have k5 := k5.below hb_42
        have k6 := k6.below hb_42
        have k7 := k7.below hb_42
        have k8 := k8.below hb_42
        have k9 := k9.below hb_42
        have k13 := k13.below hb_42
        have k15 := k15.below hb_42
        have k16 := k16.below hb_42
        have kb := bel kb hb_42
        clear hb_42
        go_upto_region 27 with (first | (refine wpList_load_arr2 rfl _ _ rfl _ rfl (by decide +kernel) _ (by assumption) (by first | (rw [lims_len]; kernel_rfl) | (rw [el_rep]; kernel_rfl) | (rw [el_len]; kernel_rfl) | (rw [byts_len]; kernel_rfl) | (rw [us_len]; kernel_rfl) | (rw [bytn_len]; kernel_rfl) | (rw [ens_len, digs_len]; kernel_rfl) | kernel_rfl) ?_) | (refine wpList_store_arr rfl _ _ _ rfl _ _ rfl rfl _ (by first | assumption | exact Arr.new _ _ _) (by first | (rw [lims_len]; kernel_rfl) | (rw [el_rep]; kernel_rfl) | (rw [el_len]; kernel_rfl) | (rw [byts_len]; kernel_rfl) | (rw [us_len]; kernel_rfl) | (rw [bytn_len]; kernel_rfl) | (rw [ens_len, digs_len]; kernel_rfl) | kernel_rfl) (by first | (rw [lims_len, lims_len]) | (rw [el_rep, el_rep]) | (rw [el_rep, el_len]; rfl) | (rw [el_len, el_rep]; rfl) | (rw [el_len, el_len]; rfl) | (rw [byts_len, byts_len]) | (rw [lims_len]; rfl) | (rw [byts_len]; rfl) | (rw [us_len, us_len]; rfl) | (rw [bytn_len, bytn_len]) | (rw [bytn_len]; rfl) | (rw [ens_len, ens_len, digs_len, digs_len]) | rfl) (by first | exact lims_one _ _ | exact el_one _ | exact byts_one _ | exact us_one _ | exact bytn_one _ _ | exact ens_one _ | (intro v hv; simp at hv; rcases hv with rfl | rfl | rfl | rfl <;> rfl)) ?_))
        refine code_row k6 (fun w_43 k6 hoth hbel => ?_)
        have k2 := hoth _ _ (by omega) k2
        have k4 := hoth _ _ (by omega) k4
        have k5 := hoth _ _ (by omega) k5
        have k7 := hoth _ _ (by omega) k7
        have k8 := hoth _ _ (by omega) k8
        have k9 := hoth _ _ (by omega) k9
        have k13 := hoth _ _ (by omega) k13
        have k16 := hoth _ _ (by omega) k16
        have kb := hbel _ _ (by omega) kb
        clear hoth hbel
        go_upto_region 27 with (first | (refine wpList_load_arr2 rfl _ _ rfl _ rfl (by decide +kernel) _ (by assumption) (by first | (rw [lims_len]; kernel_rfl) | (rw [el_rep]; kernel_rfl) | (rw [el_len]; kernel_rfl) | (rw [byts_len]; kernel_rfl) | (rw [us_len]; kernel_rfl) | (rw [bytn_len]; kernel_rfl) | (rw [ens_len, digs_len]; kernel_rfl) | kernel_rfl) ?_) | (refine wpList_store_arr rfl _ _ _ rfl _ _ rfl rfl _ (by first | assumption | exact Arr.new _ _ _) (by first | (rw [lims_len]; kernel_rfl) | (rw [el_rep]; kernel_rfl) | (rw [el_len]; kernel_rfl) | (rw [byts_len]; kernel_rfl) | (rw [us_len]; kernel_rfl) | (rw [bytn_len]; kernel_rfl) | (rw [ens_len, digs_len]; kernel_rfl) | kernel_rfl) (by first | (rw [lims_len, lims_len]) | (rw [el_rep, el_rep]) | (rw [el_rep, el_len]; rfl) | (rw [el_len, el_rep]; rfl) | (rw [el_len, el_len]; rfl) | (rw [byts_len, byts_len]) | (rw [lims_len]; rfl) | (rw [byts_len]; rfl) | (rw [us_len, us_len]; rfl) | (rw [bytn_len, bytn_len]) | (rw [bytn_len]; rfl) | (rw [ens_len, ens_len, digs_len, digs_len]) | rfl) (by first | exact lims_one _ _ | exact el_one _ | exact byts_one _ | exact us_one _ | exact bytn_one _ _ | exact ens_one _ | (intro v hv; simp at hv; rcases hv with rfl | rfl | rfl | rfl <;> rfl)) ?_))
        refine Tx.start (fun w' => Below (w_43).heap.size (w_43) w') 7 8 rfl (by kernel_rfl) ?_
        have hS_44 : Below (w_43).heap.size (w_43) (World.drew w_43) := (Below.refl _ _).drew
        refine Tx.seg (A := ?_) 5 11 (by kernel_rfl) (by exact hS_44) [0, 1, 3] (by kernel_rfl) ?_ ?_
        rotate_left
        · intro w' hB
          have e0 := k2.below hB
          have e1 := k4.below hB
          have e2 := k5.below hB
          have e3 := k6.below hB
          have e4 := k7.below hB
          have e5 := k8.below hB
          have e6 := k9.below hB
          have e7 := k13.below hB
          have e8 := k16.below hB
          iterate 3 (first | (refine rd_skip rfl rfl ?_; simp only [Act.put, List.setIfInBounds_toArray, List.set_cons_zero, List.set_cons_succ]) | (refine rd_load_arr rfl rfl _ _ rfl _ rfl (by decide +kernel) _ (by assumption) (by first | (rw [lims_len]; kernel_rfl) | (rw [el_rep]; kernel_rfl) | (rw [el_len]; kernel_rfl) | (rw [byts_len]; kernel_rfl) | (rw [us_len]; kernel_rfl) | (rw [bytn_len]; kernel_rfl) | (rw [ens_len, digs_len]; kernel_rfl) | kernel_rfl) ?_; simp only [Act.put, List.setIfInBounds_toArray, List.set_cons_zero, List.set_cons_succ]) | (refine rd_take (v := ?_) rfl rfl ?_ ?_; rotate_left; (focus (go_simp; try (with_reducible rfl))); simp only [Act.put, List.setIfInBounds_toArray, List.set_cons_zero, List.set_cons_succ]) | (refine rd_take (v := ?_) rfl rfl ?_ ?_; rotate_left; (focus (try go_simp); fail)))
          exact rd_nil
        refine Tx.eff 2 15 rfl (by decide +kernel) (fun K hK => ?_)
        go_simp
        refine (c3.out _).mono ?_
        rintro e w_45 ⟨rfl, hb_45⟩
        have hS_45 := ext_trans hS_44 (Nat.le_refl _) hb_45
        refine hK (fun w' => Below (w_43).heap.size (w_43) w') _ _ hS_45 (fun _ h => h) ?_
        clear hK K hb_45 hS_44
        try simp only [Act.put, List.setIfInBounds_toArray, List.set_cons_zero, List.set_cons_succ]
        refine Tx.eff 4 31 rfl (by decide +kernel) (fun K hK => ?_)
        go_simp
        refine (d16.out _).mono ?_
        rintro e w_46 ⟨rfl, hb_46⟩
        have hS_46 := ext_trans hS_45 (Nat.le_refl _) hb_46
        refine hK (fun w' => Below (w_43).heap.size (w_43) w') _ _ hS_46 (fun _ h => h) ?_
        clear hK K hb_46 hS_45
        try simp only [Act.put, List.setIfInBounds_toArray, List.set_cons_zero, List.set_cons_succ]
        refine Tx.eff 5 63 rfl (by decide +kernel) (fun K hK => ?_)
        go_simp
        refine (d17.out _).mono ?_
        rintro e w_47 ⟨rfl, hb_47⟩
        have hS_47 := ext_trans hS_46 (Nat.le_refl _) hb_47
        refine hK (fun w' => Below (w_43).heap.size (w_43) w') _ _ hS_47 (fun _ h => h) ?_
        clear hK K hb_47 hS_46
        try simp only [Act.put, List.setIfInBounds_toArray, List.set_cons_zero, List.set_cons_succ]
        refine Tx.eff 6 127 rfl (by decide +kernel) (fun K hK => ?_)
        go_simp
        refine (d18.out _).mono ?_
        rintro e w_48 ⟨rfl, hb_48⟩
        have hS_48 := ext_trans hS_47 (Nat.le_refl _) hb_48
        refine hK (fun w' => Below (w_43).heap.size (w_43) w') _ _ hS_48 (fun _ h => h) ?_
        clear hK K hb_48 hS_47
        try simp only [Act.put, List.setIfInBounds_toArray, List.set_cons_zero, List.set_cons_succ]
        have k2 := k2.below hS_48
        have k4 := k4.below hS_48
        have k5 := k5.below hS_48
        have k6 := k6.below hS_48
        have k7 := k7.below hS_48
        have k8 := k8.below hS_48
        have k9 := k9.below hS_48
        have k13 := k13.below hS_48
        have k16 := k16.below hS_48
        have kb := bel kb hS_48
        refine Tx.bar 255 rfl (by decide +kernel) (fun K hK => ?_)
        refine step_store_arr rfl _ _ _ rfl _ _ rfl rfl _ (by assumption) (by first | (rw [lims_len]; kernel_rfl) | (rw [el_rep]; kernel_rfl) | (rw [el_len]; kernel_rfl) | (rw [byts_len]; kernel_rfl) | (rw [us_len]; kernel_rfl) | (rw [bytn_len]; kernel_rfl) | (rw [ens_len, digs_len]; kernel_rfl) | kernel_rfl) (by first | (rw [lims_len, lims_len]) | (rw [el_rep, el_rep]) | (rw [el_rep, el_len]; rfl) | (rw [el_len, el_rep]; rfl) | (rw [el_len, el_len]; rfl) | (rw [byts_len, byts_len]) | (rw [lims_len]; rfl) | (rw [byts_len]; rfl) | (rw [us_len, us_len]; rfl) | (rw [bytn_len, bytn_len]) | (rw [bytn_len]; rfl) | (rw [ens_len, ens_len, digs_len, digs_len]) | rfl) (by first | exact lims_one _ _ | exact el_one _ | exact byts_one _ | exact us_one _ | exact bytn_one _ _ | exact ens_one _ | (intro v hv; simp at hv; rcases hv with rfl | rfl | rfl | rfl <;> rfl)) ?_
        refine hK (fun _ => True) 9999 _ _ ?_
        clear hK K
        try simp only [Act.put]
        try simp only [List.setIfInBounds_toArray, List.set_cons_zero, List.set_cons_succ]
        refine Tx.done (by kernel_rfl) ?_
        refine then_row k7 (fun w_49 k7 hoth hbel => ?_)
        have k2 := hoth _ _ (by omega) k2
        have k4 := hoth _ _ (by omega) k4
        have k5 := hoth _ _ (by omega) k5
        have k6 := hoth _ _ (by omega) k6
        have k8 := hoth _ _ (by omega) k8
        have k9 := hoth _ _ (by omega) k9
        have k13 := hoth _ _ (by omega) k13
        have k16 := hoth _ _ (by omega) k16
        have kb := hbel _ _ (by omega) kb
        clear hoth hbel
        clear k13 k16
        go_wp2_with (first | (refine wpList_load_arr2 rfl _ _ rfl _ rfl (by decide +kernel) _ (by assumption) (by first | (rw [lims_len]; kernel_rfl) | (rw [el_rep]; kernel_rfl) | (rw [el_len]; kernel_rfl) | (rw [byts_len]; kernel_rfl) | (rw [us_len]; kernel_rfl) | (rw [bytn_len]; kernel_rfl) | (rw [ens_len, digs_len]; kernel_rfl) | kernel_rfl) ?_) | (refine wpl_store rfl _ _ _ rfl _ _ rfl rfl _ k6 (by first | (rw [lims_len]; kernel_rfl) | (rw [el_rep]; kernel_rfl) | (rw [el_len]; kernel_rfl) | (rw [byts_len]; kernel_rfl) | (rw [us_len]; kernel_rfl) | (rw [bytn_len]; kernel_rfl) | (rw [ens_len, digs_len]; kernel_rfl) | kernel_rfl) (by first | (rw [lims_len, lims_len]) | (rw [el_rep, el_rep]) | (rw [el_rep, el_len]; rfl) | (rw [el_len, el_rep]; rfl) | (rw [el_len, el_len]; rfl) | (rw [byts_len, byts_len]) | (rw [lims_len]; rfl) | (rw [byts_len]; rfl) | (rw [us_len, us_len]; rfl) | (rw [bytn_len, bytn_len]) | (rw [bytn_len]; rfl) | (rw [ens_len, ens_len, digs_len, digs_len]) | rfl) (by first | exact lims_one _ _ | exact el_one _ | exact byts_one _ | exact us_one _ | exact bytn_one _ _ | exact ens_one _ | (intro v hv; simp at hv; rcases hv with rfl | rfl | rfl | rfl <;> rfl)) (fun w_50 k6 hoth hbel => ?_); have k8 := hoth _ _ (by omega) k8; have k7 := hoth _ _ (by omega) k7; have k9 := hoth _ _ (by omega) k9; have k2 := hoth _ _ (by omega) k2; have k4 := hoth _ _ (by omega) k4; have k5 := hoth _ _ (by omega) k5; have kb := hbel _ _ (by omega) kb; clear hoth hbel) | (refine wpl_store rfl _ _ _ rfl _ _ rfl rfl _ k8 (by first | (rw [lims_len]; kernel_rfl) | (rw [el_rep]; kernel_rfl) | (rw [el_len]; kernel_rfl) | (rw [byts_len]; kernel_rfl) | (rw [us_len]; kernel_rfl) | (rw [bytn_len]; kernel_rfl) | (rw [ens_len, digs_len]; kernel_rfl) | kernel_rfl) (by first | (rw [lims_len, lims_len]) | (rw [el_rep, el_rep]) | (rw [el_rep, el_len]; rfl) | (rw [el_len, el_rep]; rfl) | (rw [el_len, el_len]; rfl) | (rw [byts_len, byts_len]) | (rw [lims_len]; rfl) | (rw [byts_len]; rfl) | (rw [us_len, us_len]; rfl) | (rw [bytn_len, bytn_len]) | (rw [bytn_len]; rfl) | (rw [ens_len, ens_len, digs_len, digs_len]) | rfl) (by first | exact lims_one _ _ | exact el_one _ | exact byts_one _ | exact us_one _ | exact bytn_one _ _ | exact ens_one _ | (intro v hv; simp at hv; rcases hv with rfl | rfl | rfl | rfl <;> rfl)) (fun w_50 k8 hoth hbel => ?_); have k6 := hoth _ _ (by omega) k6; have k7 := hoth _ _ (by omega) k7; have k9 := hoth _ _ (by omega) k9; have k2 := hoth _ _ (by omega) k2; have k4 := hoth _ _ (by omega) k4; have k5 := hoth _ _ (by omega) k5; have kb := hbel _ _ (by omega) kb; clear hoth hbel) | (refine wpl_store rfl _ _ _ rfl _ _ rfl rfl _ k7 (by first | (rw [lims_len]; kernel_rfl) | (rw [el_rep]; kernel_rfl) | (rw [el_len]; kernel_rfl) | (rw [byts_len]; kernel_rfl) | (rw [us_len]; kernel_rfl) | (rw [bytn_len]; kernel_rfl) | (rw [ens_len, digs_len]; kernel_rfl) | kernel_rfl) (by first | (rw [lims_len, lims_len]) | (rw [el_rep, el_rep]) | (rw [el_rep, el_len]; rfl) | (rw [el_len, el_rep]; rfl) | (rw [el_len, el_len]; rfl) | (rw [byts_len, byts_len]) | (rw [lims_len]; rfl) | (rw [byts_len]; rfl) | (rw [us_len, us_len]; rfl) | (rw [bytn_len, bytn_len]) | (rw [bytn_len]; rfl) | (rw [ens_len, ens_len, digs_len, digs_len]) | rfl) (by first | exact lims_one _ _ | exact el_one _ | exact byts_one _ | exact us_one _ | exact bytn_one _ _ | exact ens_one _ | (intro v hv; simp at hv; rcases hv with rfl | rfl | rfl | rfl <;> rfl)) (fun w_50 k7 hoth hbel => ?_); have k6 := hoth _ _ (by omega) k6; have k8 := hoth _ _ (by omega) k8; have k9 := hoth _ _ (by omega) k9; have k2 := hoth _ _ (by omega) k2; have k4 := hoth _ _ (by omega) k4; have k5 := hoth _ _ (by omega) k5; have kb := hbel _ _ (by omega) kb; clear hoth hbel) | (refine wpl_store rfl _ _ _ rfl _ _ rfl rfl _ k9 (by first | (rw [lims_len]; kernel_rfl) | (rw [el_rep]; kernel_rfl) | (rw [el_len]; kernel_rfl) | (rw [byts_len]; kernel_rfl) | (rw [us_len]; kernel_rfl) | (rw [bytn_len]; kernel_rfl) | (rw [ens_len, digs_len]; kernel_rfl) | kernel_rfl) (by first | (rw [lims_len, lims_len]) | (rw [el_rep, el_rep]) | (rw [el_rep, el_len]; rfl) | (rw [el_len, el_rep]; rfl) | (rw [el_len, el_len]; rfl) | (rw [byts_len, byts_len]) | (rw [lims_len]; rfl) | (rw [byts_len]; rfl) | (rw [us_len, us_len]; rfl) | (rw [bytn_len, bytn_len]) | (rw [bytn_len]; rfl) | (rw [ens_len, ens_len, digs_len, digs_len]) | rfl) (by first | exact lims_one _ _ | exact el_one _ | exact byts_one _ | exact us_one _ | exact bytn_one _ _ | exact ens_one _ | (intro v hv; simp at hv; rcases hv with rfl | rfl | rfl | rfl <;> rfl)) (fun w_50 k9 hoth hbel => ?_); have k6 := hoth _ _ (by omega) k6; have k8 := hoth _ _ (by omega) k8; have k7 := hoth _ _ (by omega) k7; have k2 := hoth _ _ (by omega) k2; have k4 := hoth _ _ (by omega) k4; have k5 := hoth _ _ (by omega) k5; have kb := hbel _ _ (by omega) kb; clear hoth hbel))
        exact ⟨⟨m, R12, R14, R15, R18, by omega, by go_num, by rw [hnext.out]; exact ⟨hst.out.2.2.1, hst.out.2.2.2, hst.out.1, hst.out.2.1⟩, k2, k4, k5, k6, k7, k8, k9, kb⟩, by simp [intOf]⟩
      · obtain rfl : t = 0 := by omega
        obtain ⟨E1, E2, E3, E4⟩ := hES
        obtain ⟨la, lb, lc, ld⟩ := hal
        go_upto_region 15 with fail
        obtain ⟨R1, h1, F1⟩ := EU.addX E1 E2
        obtain ⟨R2, h2, F2⟩ := EU.mulX F1 F1
        obtain ⟨R3, h3, F3⟩ := EU.subX la lb E1 E2
        obtain ⟨R4, h4, F4⟩ := EU.mulX F3 F3
        obtain ⟨R5, h5, F5⟩ := EU.subX (modp_lt _) (modp_lt _) F2 F4
        obtain ⟨R6, h6, F6⟩ := EU.subX lc ld E3 E4
        obtain ⟨R7, h7, F7⟩ := EU.mulX F6 F1
        obtain ⟨R8, h8, F8⟩ := EU.addX E3 E4
        obtain ⟨R9, h9, F9⟩ := EU.mulX F8 F3
        obtain ⟨R10, h10, F10⟩ := EU.addX F7 F9
        obtain ⟨R11, h11, F11⟩ := EU.subX (modp_lt _) (modp_lt _) F7 F9
        obtain ⟨R12, h12, F12⟩ := EU.mulX F10 F10
        obtain ⟨R13, h13, F13⟩ := EU.mulX F11 F11
        obtain ⟨R14, h14, F14⟩ := EU.mulX hxE.out F13
        obtain ⟨R15, h15, F15⟩ := EU.mulX F2 F4
        obtain ⟨R16, h16, F16⟩ := small_mulX F5
        obtain ⟨R17, h17, F17⟩ := EU.addX F2 F16
        obtain ⟨R18, h18, F18⟩ := EU.mulX F5 F17
        have d1 := Lib.hid (fun w => radd_u E1 E2 h1 w)
        have d2 := Lib.hid (fun w => rmul_u F1 F1 h2 w)
        have d3 := Lib.hid (fun w => rsub_u E1 E2 h3 w)
        have d4 := Lib.hid (fun w => rmul_u F3 F3 h4 w)
        have d5 := Lib.hid (fun w => rsub_u F2 F4 h5 w)
        have d6 := Lib.hid (fun w => rsub_u E3 E4 h6 w)
        have d7 := Lib.hid (fun w => rmul_u F6 F1 h7 w)
        have d8 := Lib.hid (fun w => radd_u E3 E4 h8 w)
        have d9 := Lib.hid (fun w => rmul_u F8 F3 h9 w)
        have d10 := Lib.hid (fun w => radd_u F7 F9 h10 w)
        have d11 := Lib.hid (fun w => rsub_u F7 F9 h11 w)
        have d12 := Lib.hid (fun w => rmul_u F10 F10 h12 w)
        have d13 := Lib.hid (fun w => rmul_u F11 F11 h13 w)
        have d14 := Lib.hid (fun w => rmul_u hxE.out F13 h14 w)
        have d15 := Lib.hid (fun w => rmul_u F2 F4 h15 w)
        have d16 := Lib.hid h16
        have d17 := Lib.hid (fun w => radd_u F2 F16 h17 w)
        have d18 := Lib.hid (fun w => rmul_u F5 F17 h18 w)
        have hst := Lib.hid (show ES (stepN x ⟨_, _, _, _⟩) R15 R18 R12 R14 from ⟨F15, F18, F12, F14⟩)
        clear h1 h2 h3 h4 h5 h6 h7 h8 h9 h10 h11 h12 h13 h14 h15 h16 h17 h18 F1 F2 F3 F4 F5 F6 F7 F8 F9 F10 F11 F12 F13 F14 F15 F16 F17 F18 E1 E2 E3 E4 la lb lc ld
        go_upto_region 15 with (first | (refine wpList_load_arr2 rfl _ _ rfl _ rfl (by decide +kernel) _ (by assumption) (by first | (rw [lims_len]; kernel_rfl) | (rw [el_rep]; kernel_rfl) | (rw [el_len]; kernel_rfl) | (rw [byts_len]; kernel_rfl) | (rw [us_len]; kernel_rfl) | (rw [bytn_len]; kernel_rfl) | (rw [ens_len, digs_len]; kernel_rfl) | kernel_rfl) ?_) | (refine wpList_store_arr rfl _ _ _ rfl _ _ rfl rfl _ (by first | assumption | exact Arr.new _ _ _) (by first | (rw [lims_len]; kernel_rfl) | (rw [el_rep]; kernel_rfl) | (rw [el_len]; kernel_rfl) | (rw [byts_len]; kernel_rfl) | (rw [us_len]; kernel_rfl) | (rw [bytn_len]; kernel_rfl) | (rw [ens_len, digs_len]; kernel_rfl) | kernel_rfl) (by first | (rw [lims_len, lims_len]) | (rw [el_rep, el_rep]) | (rw [el_rep, el_len]; rfl) | (rw [el_len, el_rep]; rfl) | (rw [el_len, el_len]; rfl) | (rw [byts_len, byts_len]) | (rw [lims_len]; rfl) | (rw [byts_len]; rfl) | (rw [us_len, us_len]; rfl) | (rw [bytn_len, bytn_len]) | (rw [bytn_len]; rfl) | (rw [ens_len, ens_len, digs_len, digs_len]) | rfl) (by first | exact lims_one _ _ | exact el_one _ | exact byts_one _ | exact us_one _ | exact bytn_one _ _ | exact ens_one _ | (intro v hv; simp at hv; rcases hv with rfl | rfl | rfl | rfl <;> rfl)) ?_))
        go_wp2_with (first | (refine wpList_load_arr2 rfl _ _ rfl _ rfl (by decide +kernel) _ (by assumption) (by first | (rw [lims_len]; kernel_rfl) | (rw [el_rep]; kernel_rfl) | (rw [el_len]; kernel_rfl) | (rw [byts_len]; kernel_rfl) | (rw [us_len]; kernel_rfl) | (rw [bytn_len]; kernel_rfl) | (rw [ens_len, digs_len]; kernel_rfl) | kernel_rfl) ?_) | (refine wpList_store_arr rfl _ _ _ rfl _ _ rfl rfl _ (by first | assumption | exact Arr.new _ _ _) (by first | (rw [lims_len]; kernel_rfl) | (rw [el_rep]; kernel_rfl) | (rw [el_len]; kernel_rfl) | (rw [byts_len]; kernel_rfl) | (rw [us_len]; kernel_rfl) | (rw [bytn_len]; kernel_rfl) | (rw [ens_len, digs_len]; kernel_rfl) | kernel_rfl) (by first | (rw [lims_len, lims_len]) | (rw [el_rep, el_rep]) | (rw [el_rep, el_len]; rfl) | (rw [el_len, el_rep]; rfl) | (rw [el_len, el_len]; rfl) | (rw [byts_len, byts_len]) | (rw [lims_len]; rfl) | (rw [byts_len]; rfl) | (rw [us_len, us_len]; rfl) | (rw [bytn_len, bytn_len]) | (rw [bytn_len]; rfl) | (rw [ens_len, ens_len, digs_len, digs_len]) | rfl) (by first | exact lims_one _ _ | exact el_one _ | exact byts_one _ | exact us_one _ | exact bytn_one _ _ | exact ens_one _ | (intro v hv; simp at hv; rcases hv with rfl | rfl | rfl | rfl <;> rfl)) ?_))
        refine (d1.out _).mono ?_
        rintro e w_51 ⟨rfl, hb_51⟩
        have k2 := k2.below hb_51
        have k4 := k4.below hb_51
        have k5 := k5.below hb_51
        have k6 := k6.below hb_51
        have k7 := k7.below hb_51
        have k8 := k8.below hb_51
        have k9 := k9.below hb_51
        have kb := bel kb hb_51
        clear hb_51
        go_upto_region 16 with (first | (refine wpList_load_arr2 rfl _ _ rfl _ rfl (by decide +kernel) _ (by assumption) (by first | (rw [lims_len]; kernel_rfl) | (rw [el_rep]; kernel_rfl) | (rw [el_len]; kernel_rfl) | (rw [byts_len]; kernel_rfl) | (rw [us_len]; kernel_rfl) | (rw [bytn_len]; kernel_rfl) | (rw [ens_len, digs_len]; kernel_rfl) | kernel_rfl) ?_) | (refine wpList_store_arr rfl _ _ _ rfl _ _ rfl rfl _ (by first | assumption | exact Arr.new _ _ _) (by first | (rw [lims_len]; kernel_rfl) | (rw [el_rep]; kernel_rfl) | (rw [el_len]; kernel_rfl) | (rw [byts_len]; kernel_rfl) | (rw [us_len]; kernel_rfl) | (rw [bytn_len]; kernel_rfl) | (rw [ens_len, digs_len]; kernel_rfl) | kernel_rfl) (by first | (rw [lims_len, lims_len]) | (rw [el_rep, el_rep]) | (rw [el_rep, el_len]; rfl) | (rw [el_len, el_rep]; rfl) | (rw [el_len, el_len]; rfl) | (rw [byts_len, byts_len]) | (rw [lims_len]; rfl) | (rw [byts_len]; rfl) | (rw [us_len, us_len]; rfl) | (rw [bytn_len, bytn_len]) | (rw [bytn_len]; rfl) | (rw [ens_len, ens_len, digs_len, digs_len]) | rfl) (by first | exact lims_one _ _ | exact el_one _ | exact byts_one _ | exact us_one _ | exact bytn_one _ _ | exact ens_one _ | (intro v hv; simp at hv; rcases hv with rfl | rfl | rfl | rfl <;> rfl)) ?_))
        have hg_k12_k2 := k2.lt
        have hg_k12_k4 := k4.lt
        have hg_k12_k5 := k5.lt
        have hg_k12_k6 := k6.lt
        have hg_k12_k7 := k7.lt
        have hg_k12_k8 := k8.lt
        have hg_k12_k9 := k9.lt
        refine code_new (fun w_52 k12 hnew => ?_)
        have k2 := k2.below hnew
        have k4 := k4.below hnew
        have k5 := k5.below hnew
        have k6 := k6.below hnew
        have k7 := k7.below hnew
        have k8 := k8.below hnew
        have k9 := k9.below hnew
        have kb := bel kb hnew
        clear hnew
        generalize (w_51).heap.size = g_k12 at k12 hg_k12_k2 hg_k12_k4 hg_k12_k5 hg_k12_k6 hg_k12_k7 hg_k12_k8 hg_k12_k9 ⊢
        go_upto_region 16 with (first | (refine wpList_load_arr2 rfl _ _ rfl _ rfl (by decide +kernel) _ (by assumption) (by first | (rw [lims_len]; kernel_rfl) | (rw [el_rep]; kernel_rfl) | (rw [el_len]; kernel_rfl) | (rw [byts_len]; kernel_rfl) | (rw [us_len]; kernel_rfl) | (rw [bytn_len]; kernel_rfl) | (rw [ens_len, digs_len]; kernel_rfl) | kernel_rfl) ?_) | (refine wpList_store_arr rfl _ _ _ rfl _ _ rfl rfl _ (by first | assumption | exact Arr.new _ _ _) (by first | (rw [lims_len]; kernel_rfl) | (rw [el_rep]; kernel_rfl) | (rw [el_len]; kernel_rfl) | (rw [byts_len]; kernel_rfl) | (rw [us_len]; kernel_rfl) | (rw [bytn_len]; kernel_rfl) | (rw [ens_len, digs_len]; kernel_rfl) | kernel_rfl) (by first | (rw [lims_len, lims_len]) | (rw [el_rep, el_rep]) | (rw [el_rep, el_len]; rfl) | (rw [el_len, el_rep]; rfl) | (rw [el_len, el_len]; rfl) | (rw [byts_len, byts_len]) | (rw [lims_len]; rfl) | (rw [byts_len]; rfl) | (rw [us_len, us_len]; rfl) | (rw [bytn_len, bytn_len]) | (rw [bytn_len]; rfl) | (rw [ens_len, ens_len, digs_len, digs_len]) | rfl) (by first | exact lims_one _ _ | exact el_one _ | exact byts_one _ | exact us_one _ | exact bytn_one _ _ | exact ens_one _ | (intro v hv; simp at hv; rcases hv with rfl | rfl | rfl | rfl <;> rfl)) ?_))
        go_wp2_with (first | (refine wpList_load_arr2 rfl _ _ rfl _ rfl (by decide +kernel) _ (by assumption) (by first | (rw [lims_len]; kernel_rfl) | (rw [el_rep]; kernel_rfl) | (rw [el_len]; kernel_rfl) | (rw [byts_len]; kernel_rfl) | (rw [us_len]; kernel_rfl) | (rw [bytn_len]; kernel_rfl) | (rw [ens_len, digs_len]; kernel_rfl) | kernel_rfl) ?_) | (refine wpList_store_arr rfl _ _ _ rfl _ _ rfl rfl _ (by first | assumption | exact Arr.new _ _ _) (by first | (rw [lims_len]; kernel_rfl) | (rw [el_rep]; kernel_rfl) | (rw [el_len]; kernel_rfl) | (rw [byts_len]; kernel_rfl) | (rw [us_len]; kernel_rfl) | (rw [bytn_len]; kernel_rfl) | (rw [ens_len, digs_len]; kernel_rfl) | kernel_rfl) (by first | (rw [lims_len, lims_len]) | (rw [el_rep, el_rep]) | (rw [el_rep, el_len]; rfl) | (rw [el_len, el_rep]; rfl) | (rw [el_len, el_len]; rfl) | (rw [byts_len, byts_len]) | (rw [lims_len]; rfl) | (rw [byts_len]; rfl) | (rw [us_len, us_len]; rfl) | (rw [bytn_len, bytn_len]) | (rw [bytn_len]; rfl) | (rw [ens_len, ens_len, digs_len, digs_len]) | rfl) (by first | exact lims_one _ _ | exact el_one _ | exact byts_one _ | exact us_one _ | exact bytn_one _ _ | exact ens_one _ | (intro v hv; simp at hv; rcases hv with rfl | rfl | rfl | rfl <;> rfl)) ?_))
        refine (d2.out _).mono ?_
        rintro e w_53 ⟨rfl, hb_53⟩
        have k2 := k2.below hb_53
        have k4 := k4.below hb_53
        have k5 := k5.below hb_53
        have k6 := k6.below hb_53
        have k7 := k7.below hb_53
        have k8 := k8.below hb_53
        have k9 := k9.below hb_53
        have k12 := k12.below hb_53
        have kb := bel kb hb_53
        clear hb_53
        go_upto_region 17 with (first | (refine wpList_load_arr2 rfl _ _ rfl _ rfl (by decide +kernel) _ (by assumption) (by first | (rw [lims_len]; kernel_rfl) | (rw [el_rep]; kernel_rfl) | (rw [el_len]; kernel_rfl) | (rw [byts_len]; kernel_rfl) | (rw [us_len]; kernel_rfl) | (rw [bytn_len]; kernel_rfl) | (rw [ens_len, digs_len]; kernel_rfl) | kernel_rfl) ?_) | (refine wpList_store_arr rfl _ _ _ rfl _ _ rfl rfl _ (by first | assumption | exact Arr.new _ _ _) (by first | (rw [lims_len]; kernel_rfl) | (rw [el_rep]; kernel_rfl) | (rw [el_len]; kernel_rfl) | (rw [byts_len]; kernel_rfl) | (rw [us_len]; kernel_rfl) | (rw [bytn_len]; kernel_rfl) | (rw [ens_len, digs_len]; kernel_rfl) | kernel_rfl) (by first | (rw [lims_len, lims_len]) | (rw [el_rep, el_rep]) | (rw [el_rep, el_len]; rfl) | (rw [el_len, el_rep]; rfl) | (rw [el_len, el_len]; rfl) | (rw [byts_len, byts_len]) | (rw [lims_len]; rfl) | (rw [byts_len]; rfl) | (rw [us_len, us_len]; rfl) | (rw [bytn_len, bytn_len]) | (rw [bytn_len]; rfl) | (rw [ens_len, ens_len, digs_len, digs_len]) | rfl) (by first | exact lims_one _ _ | exact el_one _ | exact byts_one _ | exact us_one _ | exact bytn_one _ _ | exact ens_one _ | (intro v hv; simp at hv; rcases hv with rfl | rfl | rfl | rfl <;> rfl)) ?_))
        have hg_k13_k2 := k2.lt
        have hg_k13_k4 := k4.lt
        have hg_k13_k5 := k5.lt
        have hg_k13_k6 := k6.lt
        have hg_k13_k7 := k7.lt
        have hg_k13_k8 := k8.lt
        have hg_k13_k9 := k9.lt
        have hg_k13_k12 := k12.lt
        refine code_new (fun w_54 k13 hnew => ?_)
        have k2 := k2.below hnew
        have k4 := k4.below hnew
        have k5 := k5.below hnew
        have k6 := k6.below hnew
        have k7 := k7.below hnew
        have k8 := k8.below hnew
        have k9 := k9.below hnew
        have k12 := k12.below hnew
        have kb := bel kb hnew
        clear hnew
        generalize (w_53).heap.size = g_k13 at k13 hg_k13_k2 hg_k13_k4 hg_k13_k5 hg_k13_k6 hg_k13_k7 hg_k13_k8 hg_k13_k9 hg_k13_k12 ⊢
        go_upto_region 17 with (first | (refine wpList_load_arr2 rfl _ _ rfl _ rfl (by decide +kernel) _ (by assumption) (by first | (rw [lims_len]; kernel_rfl) | (rw [el_rep]; kernel_rfl) | (rw [el_len]; kernel_rfl) | (rw [byts_len]; kernel_rfl) | (rw [us_len]; kernel_rfl) | (rw [bytn_len]; kernel_rfl) | (rw [ens_len, digs_len]; kernel_rfl) | kernel_rfl) ?_) | (refine wpList_store_arr rfl _ _ _ rfl _ _ rfl rfl _ (by first | assumption | exact Arr.new _ _ _) (by first | (rw [lims_len]; kernel_rfl) | (rw [el_rep]; kernel_rfl) | (rw [el_len]; kernel_rfl) | (rw [byts_len]; kernel_rfl) | (rw [us_len]; kernel_rfl) | (rw [bytn_len]; kernel_rfl) | (rw [ens_len, digs_len]; kernel_rfl) | kernel_rfl) (by first | (rw [lims_len, lims_len]) | (rw [el_rep, el_rep]) | (rw [el_rep, el_len]; rfl) | (rw [el_len, el_rep]; rfl) | (rw [el_len, el_len]; rfl) | (rw [byts_len, byts_len]) | (rw [lims_len]; rfl) | (rw [byts_len]; rfl) | (rw [us_len, us_len]; rfl) | (rw [bytn_len, bytn_len]) | (rw [bytn_len]; rfl) | (rw [ens_len, ens_len, digs_len, digs_len]) | rfl) (by first | exact lims_one _ _ | exact el_one _ | exact byts_one _ | exact us_one _ | exact bytn_one _ _ | exact ens_one _ | (intro v hv; simp at hv; rcases hv with rfl | rfl | rfl | rfl <;> rfl)) ?_))
        go_wp2_with (first | (refine wpList_load_arr2 rfl _ _ rfl _ rfl (by decide +kernel) _ (by assumption) (by first | (rw [lims_len]; kernel_rfl) | (rw [el_rep]; kernel_rfl) | (rw [el_len]; kernel_rfl) | (rw [byts_len]; kernel_rfl) | (rw [us_len]; kernel_rfl) | (rw [bytn_len]; kernel_rfl) | (rw [ens_len, digs_len]; kernel_rfl) | kernel_rfl) ?_) | (refine wpList_store_arr rfl _ _ _ rfl _ _ rfl rfl _ (by first | assumption | exact Arr.new _ _ _) (by first | (rw [lims_len]; kernel_rfl) | (rw [el_rep]; kernel_rfl) | (rw [el_len]; kernel_rfl) | (rw [byts_len]; kernel_rfl) | (rw [us_len]; kernel_rfl) | (rw [bytn_len]; kernel_rfl) | (rw [ens_len, digs_len]; kernel_rfl) | kernel_rfl) (by first | (rw [lims_len, lims_len]) | (rw [el_rep, el_rep]) | (rw [el_rep, el_len]; rfl) | (rw [el_len, el_rep]; rfl) | (rw [el_len, el_len]; rfl) | (rw [byts_len, byts_len]) | (rw [lims_len]; rfl) | (rw [byts_len]; rfl) | (rw [us_len, us_len]; rfl) | (rw [bytn_len, bytn_len]) | (rw [bytn_len]; rfl) | (rw [ens_len, ens_len, digs_len, digs_len]) | rfl) (by first | exact lims_one _ _ | exact el_one _ | exact byts_one _ | exact us_one _ | exact bytn_one _ _ | exact ens_one _ | (intro v hv; simp at hv; rcases hv with rfl | rfl | rfl | rfl <;> rfl)) ?_))
        refine (d3.out _).mono ?_
        rintro e w_55 ⟨rfl, hb_55⟩
        have k2 := k2.below hb_55
        have k4 := k4.below hb_55
        have k5 := k5.below hb_55
        have k6 := k6.below hb_55
        have k7 := k7.below hb_55
        have k8 := k8.below hb_55
        have k9 := k9.below hb_55
        have k12 := k12.below hb_55
        have k13 := k13.below hb_55
        have kb := bel kb hb_55
        clear hb_55
        go_upto_region 18 with (first | (refine wpList_load_arr2 rfl _ _ rfl _ rfl (by decide +kernel) _ (by assumption) (by first | (rw [lims_len]; kernel_rfl) | (rw [el_rep]; kernel_rfl) | (rw [el_len]; kernel_rfl) | (rw [byts_len]; kernel_rfl) | (rw [us_len]; kernel_rfl) | (rw [bytn_len]; kernel_rfl) | (rw [ens_len, digs_len]; kernel_rfl) | kernel_rfl) ?_) | (refine wpList_store_arr rfl _ _ _ rfl _ _ rfl rfl _ (by first | assumption | exact Arr.new _ _ _) (by first | (rw [lims_len]; kernel_rfl) | (rw [el_rep]; kernel_rfl) | (rw [el_len]; kernel_rfl) | (rw [byts_len]; kernel_rfl) | (rw [us_len]; kernel_rfl) | (rw [bytn_len]; kernel_rfl) | (rw [ens_len, digs_len]; kernel_rfl) | kernel_rfl) (by first | (rw [lims_len, lims_len]) | (rw [el_rep, el_rep]) | (rw [el_rep, el_len]; rfl) | (rw [el_len, el_rep]; rfl) | (rw [el_len, el_len]; rfl) | (rw [byts_len, byts_len]) | (rw [lims_len]; rfl) | (rw [byts_len]; rfl) | (rw [us_len, us_len]; rfl) | (rw [bytn_len, bytn_len]) | (rw [bytn_len]; rfl) | (rw [ens_len, ens_len, digs_len, digs_len]) | rfl) (by first | exact lims_one _ _ | exact el_one _ | exact byts_one _ | exact us_one _ | exact bytn_one _ _ | exact ens_one _ | (intro v hv; simp at hv; rcases hv with rfl | rfl | rfl | rfl <;> rfl)) ?_))
        have hg_k14_k2 := k2.lt
        have hg_k14_k4 := k4.lt
        have hg_k14_k5 := k5.lt
        have hg_k14_k6 := k6.lt
        have hg_k14_k7 := k7.lt
        have hg_k14_k8 := k8.lt
        have hg_k14_k9 := k9.lt
        have hg_k14_k12 := k12.lt
        have hg_k14_k13 := k13.lt
        refine code_new (fun w_56 k14 hnew => ?_)
        have k2 := k2.below hnew
        have k4 := k4.below hnew
        have k5 := k5.below hnew
        have k6 := k6.below hnew
        have k7 := k7.below hnew
        have k8 := k8.below hnew
        have k9 := k9.below hnew
        have k12 := k12.below hnew
        have k13 := k13.below hnew
        have kb := bel kb hnew
        clear hnew
        generalize (w_55).heap.size = g_k14 at k14 hg_k14_k2 hg_k14_k4 hg_k14_k5 hg_k14_k6 hg_k14_k7 hg_k14_k8 hg_k14_k9 hg_k14_k12 hg_k14_k13 ⊢
        go_upto_region 18 with (first | (refine wpList_load_arr2 rfl _ _ rfl _ rfl (by decide +kernel) _ (by assumption) (by first | (rw [lims_len]; kernel_rfl) | (rw [el_rep]; kernel_rfl) | (rw [el_len]; kernel_rfl) | (rw [byts_len]; kernel_rfl) | (rw [us_len]; kernel_rfl) | (rw [bytn_len]; kernel_rfl) | (rw [ens_len, digs_len]; kernel_rfl) | kernel_rfl) ?_) | (refine wpList_store_arr rfl _ _ _ rfl _ _ rfl rfl _ (by first | assumption | exact Arr.new _ _ _) (by first | (rw [lims_len]; kernel_rfl) | (rw [el_rep]; kernel_rfl) | (rw [el_len]; kernel_rfl) | (rw [byts_len]; kernel_rfl) | (rw [us_len]; kernel_rfl) | (rw [bytn_len]; kernel_rfl) | (rw [ens_len, digs_len]; kernel_rfl) | kernel_rfl) (by first | (rw [lims_len, lims_len]) | (rw [el_rep, el_rep]) | (rw [el_rep, el_len]; rfl) | (rw [el_len, el_rep]; rfl) | (rw [el_len, el_len]; rfl) | (rw [byts_len, byts_len]) | (rw [lims_len]; rfl) | (rw [byts_len]; rfl) | (rw [us_len, us_len]; rfl) | (rw [bytn_len, bytn_len]) | (rw [bytn_len]; rfl) | (rw [ens_len, ens_len, digs_len, digs_len]) | rfl) (by first | exact lims_one _ _ | exact el_one _ | exact byts_one _ | exact us_one _ | exact bytn_one _ _ | exact ens_one _ | (intro v hv; simp at hv; rcases hv with rfl | rfl | rfl | rfl <;> rfl)) ?_))
        go_wp2_with (first | (refine wpList_load_arr2 rfl _ _ rfl _ rfl (by decide +kernel) _ (by assumption) (by first | (rw [lims_len]; kernel_rfl) | (rw [el_rep]; kernel_rfl) | (rw [el_len]; kernel_rfl) | (rw [byts_len]; kernel_rfl) | (rw [us_len]; kernel_rfl) | (rw [bytn_len]; kernel_rfl) | (rw [ens_len, digs_len]; kernel_rfl) | kernel_rfl) ?_) | (refine wpList_store_arr rfl _ _ _ rfl _ _ rfl rfl _ (by first | assumption | exact Arr.new _ _ _) (by first | (rw [lims_len]; kernel_rfl) | (rw [el_rep]; kernel_rfl) | (rw [el_len]; kernel_rfl) | (rw [byts_len]; kernel_rfl) | (rw [us_len]; kernel_rfl) | (rw [bytn_len]; kernel_rfl) | (rw [ens_len, digs_len]; kernel_rfl) | kernel_rfl) (by first | (rw [lims_len, lims_len]) | (rw [el_rep, el_rep]) | (rw [el_rep, el_len]; rfl) | (rw [el_len, el_rep]; rfl) | (rw [el_len, el_len]; rfl) | (rw [byts_len, byts_len]) | (rw [lims_len]; rfl) | (rw [byts_len]; rfl) | (rw [us_len, us_len]; rfl) | (rw [bytn_len, bytn_len]) | (rw [bytn_len]; rfl) | (rw [ens_len, ens_len, digs_len, digs_len]) | rfl) (by first | exact lims_one _ _ | exact el_one _ | exact byts_one _ | exact us_one _ | exact bytn_one _ _ | exact ens_one _ | (intro v hv; simp at hv; rcases hv with rfl | rfl | rfl | rfl <;> rfl)) ?_))
        refine (d4.out _).mono ?_
        rintro e w_57 ⟨rfl, hb_57⟩
        have k2 := k2.below hb_57
        have k4 := k4.below hb_57
        have k5 := k5.below hb_57
        have k6 := k6.below hb_57
        have k7 := k7.below hb_57
        have k8 := k8.below hb_57
        have k9 := k9.below hb_57
        have k12 := k12.below hb_57
        have k13 := k13.below hb_57
        have k14 := k14.below hb_57
        have kb := bel kb hb_57
        clear hb_57
        go_upto_region 19 with (first | (refine wpList_load_arr2 rfl _ _ rfl _ rfl (by decide +kernel) _ (by assumption) (by first | (rw [lims_len]; kernel_rfl) | (rw [el_rep]; kernel_rfl) | (rw [el_len]; kernel_rfl) | (rw [byts_len]; kernel_rfl) | (rw [us_len]; kernel_rfl) | (rw [bytn_len]; kernel_rfl) | (rw [ens_len, digs_len]; kernel_rfl) | kernel_rfl) ?_) | (refine wpList_store_arr rfl _ _ _ rfl _ _ rfl rfl _ (by first | assumption | exact Arr.new _ _ _) (by first | (rw [lims_len]; kernel_rfl) | (rw [el_rep]; kernel_rfl) | (rw [el_len]; kernel_rfl) | (rw [byts_len]; kernel_rfl) | (rw [us_len]; kernel_rfl) | (rw [bytn_len]; kernel_rfl) | (rw [ens_len, digs_len]; kernel_rfl) | kernel_rfl) (by first | (rw [lims_len, lims_len]) | (rw [el_rep, el_rep]) | (rw [el_rep, el_len]; rfl) | (rw [el_len, el_rep]; rfl) | (rw [el_len, el_len]; rfl) | (rw [byts_len, byts_len]) | (rw [lims_len]; rfl) | (rw [byts_len]; rfl) | (rw [us_len, us_len]; rfl) | (rw [bytn_len, bytn_len]) | (rw [bytn_len]; rfl) | (rw [ens_len, ens_len, digs_len, digs_len]) | rfl) (by first | exact lims_one _ _ | exact el_one _ | exact byts_one _ | exact us_one _ | exact bytn_one _ _ | exact ens_one _ | (intro v hv; simp at hv; rcases hv with rfl | rfl | rfl | rfl <;> rfl)) ?_))
        have hg_k15_k2 := k2.lt
        have hg_k15_k4 := k4.lt
        have hg_k15_k5 := k5.lt
        have hg_k15_k6 := k6.lt
        have hg_k15_k7 := k7.lt
        have hg_k15_k8 := k8.lt
        have hg_k15_k9 := k9.lt
        have hg_k15_k12 := k12.lt
        have hg_k15_k13 := k13.lt
        have hg_k15_k14 := k14.lt
        refine code_new (fun w_58 k15 hnew => ?_)
        have k2 := k2.below hnew
        have k4 := k4.below hnew
        have k5 := k5.below hnew
        have k6 := k6.below hnew
        have k7 := k7.below hnew
        have k8 := k8.below hnew
        have k9 := k9.below hnew
        have k12 := k12.below hnew
        have k13 := k13.below hnew
        have k14 := k14.below hnew
        have kb := bel kb hnew
        clear hnew
        generalize (w_57).heap.size = g_k15 at k15 hg_k15_k2 hg_k15_k4 hg_k15_k5 hg_k15_k6 hg_k15_k7 hg_k15_k8 hg_k15_k9 hg_k15_k12 hg_k15_k13 hg_k15_k14 ⊢
        go_upto_region 19 with (first | (refine wpList_load_arr2 rfl _ _ rfl _ rfl (by decide +kernel) _ (by assumption) (by first | (rw [lims_len]; kernel_rfl) | (rw [el_rep]; kernel_rfl) | (rw [el_len]; kernel_rfl) | (rw [byts_len]; kernel_rfl) | (rw [us_len]; kernel_rfl) | (rw [bytn_len]; kernel_rfl) | (rw [ens_len, digs_len]; kernel_rfl) | kernel_rfl) ?_) | (refine wpList_store_arr rfl _ _ _ rfl _ _ rfl rfl _ (by first | assumption | exact Arr.new _ _ _) (by first | (rw [lims_len]; kernel_rfl) | (rw [el_rep]; kernel_rfl) | (rw [el_len]; kernel_rfl) | (rw [byts_len]; kernel_rfl) | (rw [us_len]; kernel_rfl) | (rw [bytn_len]; kernel_rfl) | (rw [ens_len, digs_len]; kernel_rfl) | kernel_rfl) (by first | (rw [lims_len, lims_len]) | (rw [el_rep, el_rep]) | (rw [el_rep, el_len]; rfl) | (rw [el_len, el_rep]; rfl) | (rw [el_len, el_len]; rfl) | (rw [byts_len, byts_len]) | (rw [lims_len]; rfl) | (rw [byts_len]; rfl) | (rw [us_len, us_len]; rfl) | (rw [bytn_len, bytn_len]) | (rw [bytn_len]; rfl) | (rw [ens_len, ens_len, digs_len, digs_len]) | rfl) (by first | exact lims_one _ _ | exact el_one _ | exact byts_one _ | exact us_one _ | exact bytn_one _ _ | exact ens_one _ | (intro v hv; simp at hv; rcases hv with rfl | rfl | rfl | rfl <;> rfl)) ?_))
        go_wp2_with (first | (refine wpList_load_arr2 rfl _ _ rfl _ rfl (by decide +kernel) _ (by assumption) (by first | (rw [lims_len]; kernel_rfl) | (rw [el_rep]; kernel_rfl) | (rw [el_len]; kernel_rfl) | (rw [byts_len]; kernel_rfl) | (rw [us_len]; kernel_rfl) | (rw [bytn_len]; kernel_rfl) | (rw [ens_len, digs_len]; kernel_rfl) | kernel_rfl) ?_) | (refine wpList_store_arr rfl _ _ _ rfl _ _ rfl rfl _ (by first | assumption | exact Arr.new _ _ _) (by first | (rw [lims_len]; kernel_rfl) | (rw [el_rep]; kernel_rfl) | (rw [el_len]; kernel_rfl) | (rw [byts_len]; kernel_rfl) | (rw [us_len]; kernel_rfl) | (rw [bytn_len]; kernel_rfl) | (rw [ens_len, digs_len]; kernel_rfl) | kernel_rfl) (by first | (rw [lims_len, lims_len]) | (rw [el_rep, el_rep]) | (rw [el_rep, el_len]; rfl) | (rw [el_len, el_rep]; rfl) | (rw [el_len, el_len]; rfl) | (rw [byts_len, byts_len]) | (rw [lims_len]; rfl) | (rw [byts_len]; rfl) | (rw [us_len, us_len]; rfl) | (rw [bytn_len, bytn_len]) | (rw [bytn_len]; rfl) | (rw [ens_len, ens_len, digs_len, digs_len]) | rfl) (by first | exact lims_one _ _ | exact el_one _ | exact byts_one _ | exact us_one _ | exact bytn_one _ _ | exact ens_one _ | (intro v hv; simp at hv; rcases hv with rfl | rfl | rfl | rfl <;> rfl)) ?_))
        refine (d5.out _).mono ?_
        rintro e w_59 ⟨rfl, hb_59⟩
        have k2 := k2.below hb_59
        have k4 := k4.below hb_59
        have k5 := k5.below hb_59
        have k6 := k6.below hb_59
        have k7 := k7.below hb_59
        have k8 := k8.below hb_59
        have k9 := k9.below hb_59
        have k12 := k12.below hb_59
        have k13 := k13.below hb_59
        have k14 := k14.below hb_59
        have k15 := k15.below hb_59
        have kb := bel kb hb_59
        clear hb_59
        go_upto_region 20 with (first | (refine wpList_load_arr2 rfl _ _ rfl _ rfl (by decide +kernel) _ (by assumption) (by first | (rw [lims_len]; kernel_rfl) | (rw [el_rep]; kernel_rfl) | (rw [el_len]; kernel_rfl) | (rw [byts_len]; kernel_rfl) | (rw [us_len]; kernel_rfl) | (rw [bytn_len]; kernel_rfl) | (rw [ens_len, digs_len]; kernel_rfl) | kernel_rfl) ?_) | (refine wpList_store_arr rfl _ _ _ rfl _ _ rfl rfl _ (by first | assumption | exact Arr.new _ _ _) (by first | (rw [lims_len]; kernel_rfl) | (rw [el_rep]; kernel_rfl) | (rw [el_len]; kernel_rfl) | (rw [byts_len]; kernel_rfl) | (rw [us_len]; kernel_rfl) | (rw [bytn_len]; kernel_rfl) | (rw [ens_len, digs_len]; kernel_rfl) | kernel_rfl) (by first | (rw [lims_len, lims_len]) | (rw [el_rep, el_rep]) | (rw [el_rep, el_len]; rfl) | (rw [el_len, el_rep]; rfl) | (rw [el_len, el_len]; rfl) | (rw [byts_len, byts_len]) | (rw [lims_len]; rfl) | (rw [byts_len]; rfl) | (rw [us_len, us_len]; rfl) | (rw [bytn_len, bytn_len]) | (rw [bytn_len]; rfl) | (rw [ens_len, ens_len, digs_len, digs_len]) | rfl) (by first | exact lims_one _ _ | exact el_one _ | exact byts_one _ | exact us_one _ | exact bytn_one _ _ | exact ens_one _ | (intro v hv; simp at hv; rcases hv with rfl | rfl | rfl | rfl <;> rfl)) ?_))
        have hg_k16_k2 := k2.lt
        have hg_k16_k4 := k4.lt
        have hg_k16_k5 := k5.lt
        have hg_k16_k6 := k6.lt
        have hg_k16_k7 := k7.lt
        have hg_k16_k8 := k8.lt
        have hg_k16_k9 := k9.lt
        have hg_k16_k12 := k12.lt
        have hg_k16_k13 := k13.lt
        have hg_k16_k14 := k14.lt
        have hg_k16_k15 := k15.lt
        refine code_new (fun w_60 k16 hnew => ?_)
        have k2 := k2.below hnew
        have k4 := k4.below hnew
        have k5 := k5.below hnew
        have k6 := k6.below hnew
        have k7 := k7.below hnew
        have k8 := k8.below hnew
        have k9 := k9.below hnew
        have k12 := k12.below hnew
        have k13 := k13.below hnew
        have k14 := k14.below hnew
        have k15 := k15.below hnew
        have kb := bel kb hnew
        clear hnew
        generalize (w_59).heap.size = g_k16 at k16 hg_k16_k2 hg_k16_k4 hg_k16_k5 hg_k16_k6 hg_k16_k7 hg_k16_k8 hg_k16_k9 hg_k16_k12 hg_k16_k13 hg_k16_k14 hg_k16_k15 ⊢
        go_upto_region 20 with (first | (refine wpList_load_arr2 rfl _ _ rfl _ rfl (by decide +kernel) _ (by assumption) (by first | (rw [lims_len]; kernel_rfl) | (rw [el_rep]; kernel_rfl) | (rw [el_len]; kernel_rfl) | (rw [byts_len]; kernel_rfl) | (rw [us_len]; kernel_rfl) | (rw [bytn_len]; kernel_rfl) | (rw [ens_len, digs_len]; kernel_rfl) | kernel_rfl) ?_) | (refine wpList_store_arr rfl _ _ _ rfl _ _ rfl rfl _ (by first | assumption | exact Arr.new _ _ _) (by first | (rw [lims_len]; kernel_rfl) | (rw [el_rep]; kernel_rfl) | (rw [el_len]; kernel_rfl) | (rw [byts_len]; kernel_rfl) | (rw [us_len]; kernel_rfl) | (rw [bytn_len]; kernel_rfl) | (rw [ens_len, digs_len]; kernel_rfl) | kernel_rfl) (by first | (rw [lims_len, lims_len]) | (rw [el_rep, el_rep]) | (rw [el_rep, el_len]; rfl) | (rw [el_len, el_rep]; rfl) | (rw [el_len, el_len]; rfl) | (rw [byts_len, byts_len]) | (rw [lims_len]; rfl) | (rw [byts_len]; rfl) | (rw [us_len, us_len]; rfl) | (rw [bytn_len, bytn_len]) | (rw [bytn_len]; rfl) | (rw [ens_len, ens_len, digs_len, digs_len]) | rfl) (by first | exact lims_one _ _ | exact el_one _ | exact byts_one _ | exact us_one _ | exact bytn_one _ _ | exact ens_one _ | (intro v hv; simp at hv; rcases hv with rfl | rfl | rfl | rfl <;> rfl)) ?_))
        refine Tx.start (fun w' => Below (w_60).heap.size (w_60) w') 6 7 rfl (by kernel_rfl) ?_
        have hS_61 : Below (w_60).heap.size (w_60) (World.drew w_60) := (Below.refl _ _).drew
        refine Tx.seg (A := ?_) 4 11 (by kernel_rfl) (by exact hS_61) [0, 1, 3] (by kernel_rfl) ?_ ?_
        rotate_left
        · intro w' hB
          have e0 := k2.below hB
          have e1 := k4.below hB
          have e2 := k5.below hB
          have e3 := k6.below hB
          have e4 := k7.below hB
          have e5 := k8.below hB
          have e6 := k9.below hB
          have e7 := k12.below hB
          have e8 := k13.below hB
          have e9 := k14.below hB
          have e10 := k15.below hB
          have e11 := k16.below hB
          iterate 3 (first | (refine rd_skip rfl rfl ?_; simp only [Act.put, List.setIfInBounds_toArray, List.set_cons_zero, List.set_cons_succ]) | (refine rd_load_arr rfl rfl _ _ rfl _ rfl (by decide +kernel) _ (by assumption) (by first | (rw [lims_len]; kernel_rfl) | (rw [el_rep]; kernel_rfl) | (rw [el_len]; kernel_rfl) | (rw [byts_len]; kernel_rfl) | (rw [us_len]; kernel_rfl) | (rw [bytn_len]; kernel_rfl) | (rw [ens_len, digs_len]; kernel_rfl) | kernel_rfl) ?_; simp only [Act.put, List.setIfInBounds_toArray, List.set_cons_zero, List.set_cons_succ]) | (refine rd_take (v := ?_) rfl rfl ?_ ?_; rotate_left; (focus (go_simp; try (with_reducible rfl))); simp only [Act.put, List.setIfInBounds_toArray, List.set_cons_zero, List.set_cons_succ]) | (refine rd_take (v := ?_) rfl rfl ?_ ?_; rotate_left; (focus (try go_simp); fail)))
          exact rd_nil
        refine Tx.poolB 1 63 [(2, 69), (4, 71), (5, 17)] [(false, []), (false, [(2, 69)]), (false, [])] [(2, Ph.is (.agg (el (rep R6)).toArray)), (4, Ph.is (.agg (el (rep R7)).toArray)), (5, Ph.arr (w_60).heap.size (el (List.replicate 16 0)))] (by kernel_rfl) (by kernel_rfl) (by first | assumption | exact (Below.refl _ _).drew) ?_ ?_
        · refine ⟨⟨_, rfl, ?_⟩, ⟨_, rfl, ?_⟩, ⟨_, rfl, ?_⟩, trivial⟩
          · intro vs w1 hS hE hD K hK
            clear hD
            simp only [fillL, Act.put, List.setIfInBounds_toArray, List.set_cons_zero, List.set_cons_succ] at hK ⊢
            go_simp
            refine (d6.out _).mono ?_
            rintro e w2 ⟨rfl, hb2⟩
            exact hK _ _ rfl hb2 nofun
          · intro vs w1 hS hE hD K hK
            obtain ⟨q2, -⟩ := hD
            simp only [fillL, Act.put, List.setIfInBounds_toArray, List.set_cons_zero, List.set_cons_succ] at hK ⊢
            rw [show vs 2 = _ from q2] at hK ⊢
            clear q2
            go_simp
            refine (d7.out _).mono ?_
            rintro e w2 ⟨rfl, hb2⟩
            exact hK _ _ rfl hb2 nofun
          · intro vs w1 hS hE hD K hK
            clear hD
            simp only [fillL, Act.put, List.setIfInBounds_toArray, List.set_cons_zero, List.set_cons_succ] at hK ⊢
            go_simp
            exact hK _ _ ⟨_, rfl, Nat.le_trans (by first | exact Nat.le_refl _ | omega | (simp; omega)) hE.size, Arr.new _ _ _⟩ (below_alloc _ _) (fun _ => ⟨_, rfl, Nat.le_refl _⟩)
        intro vs w_p20_4644 hS_p20_4644 hE_p20_4644 hP hD
        obtain ⟨q2, q4, q5, -⟩ := hP
        simp only [fillL, Act.put, List.setIfInBounds_toArray, List.set_cons_zero, List.set_cons_succ]
        rw [show vs 2 = _ from q2]
        clear q2
        rw [show vs 4 = _ from q4]
        clear q4
        obtain ⟨g5, e5, hg5, ha5⟩ := q5
        rw [e5]
        clear e5 hD vs
        have lt_k17_k2 := Nat.lt_of_lt_of_le k2.lt hg5
        have lt_k17_k4 := Nat.lt_of_lt_of_le k4.lt hg5
        have lt_k17_k5 := Nat.lt_of_lt_of_le k5.lt hg5
        have lt_k17_k6 := Nat.lt_of_lt_of_le k6.lt hg5
        have lt_k17_k7 := Nat.lt_of_lt_of_le k7.lt hg5
        have lt_k17_k8 := Nat.lt_of_lt_of_le k8.lt hg5
        have lt_k17_k9 := Nat.lt_of_lt_of_le k9.lt hg5
        have lt_k17_k12 := Nat.lt_of_lt_of_le k12.lt hg5
        have lt_k17_k13 := Nat.lt_of_lt_of_le k13.lt hg5
        have lt_k17_k14 := Nat.lt_of_lt_of_le k14.lt hg5
        have lt_k17_k15 := Nat.lt_of_lt_of_le k15.lt hg5
        have lt_k17_k16 := Nat.lt_of_lt_of_le k16.lt hg5
        have k2 := k2.below hS_p20_4644
        have k4 := k4.below hS_p20_4644
        have k5 := k5.below hS_p20_4644
        have k6 := k6.below hS_p20_4644
        have k7 := k7.below hS_p20_4644
        have k8 := k8.below hS_p20_4644
        have k9 := k9.below hS_p20_4644
        have k12 := k12.below hS_p20_4644
        have k13 := k13.below hS_p20_4644
        have k14 := k14.below hS_p20_4644
        have k15 := k15.below hS_p20_4644
        have k16 := k16.below hS_p20_4644
        have kb := bel kb hS_p20_4644
        refine Tx.bar 127 rfl (by decide +kernel) (fun K hK => ?_)
        refine step_store_arr rfl _ _ _ rfl _ _ rfl rfl _ (by assumption) (by first | (rw [lims_len]; kernel_rfl) | (rw [el_rep]; kernel_rfl) | (rw [el_len]; kernel_rfl) | (rw [byts_len]; kernel_rfl) | (rw [us_len]; kernel_rfl) | (rw [bytn_len]; kernel_rfl) | (rw [ens_len, digs_len]; kernel_rfl) | kernel_rfl) (by first | (rw [lims_len, lims_len]) | (rw [el_rep, el_rep]) | (rw [el_rep, el_len]; rfl) | (rw [el_len, el_rep]; rfl) | (rw [el_len, el_len]; rfl) | (rw [byts_len, byts_len]) | (rw [lims_len]; rfl) | (rw [byts_len]; rfl) | (rw [us_len, us_len]; rfl) | (rw [bytn_len, bytn_len]) | (rw [bytn_len]; rfl) | (rw [ens_len, ens_len, digs_len, digs_len]) | rfl) (by first | exact lims_one _ _ | exact el_one _ | exact byts_one _ | exact us_one _ | exact bytn_one _ _ | exact ens_one _ | (intro v hv; simp at hv; rcases hv with rfl | rfl | rfl | rfl <;> rfl)) ?_
        refine hK (fun _ => True) 9999 _ _ ?_
        clear hK K
        try simp only [Act.put]
        try simp only [List.setIfInBounds_toArray, List.set_cons_zero, List.set_cons_succ]
        refine Tx.done (by kernel_rfl) ?_
        refine then_row ha5 (fun w_62 ha5 hoth hbel => ?_)
        have k2 := hoth _ _ (by omega) k2
        have k4 := hoth _ _ (by omega) k4
        have k5 := hoth _ _ (by omega) k5
        have k6 := hoth _ _ (by omega) k6
        have k7 := hoth _ _ (by omega) k7
        have k8 := hoth _ _ (by omega) k8
        have k9 := hoth _ _ (by omega) k9
        have k12 := hoth _ _ (by omega) k12
        have k13 := hoth _ _ (by omega) k13
        have k14 := hoth _ _ (by omega) k14
        have k15 := hoth _ _ (by omega) k15
        have k16 := hoth _ _ (by omega) k16
        have kb := hbel _ _ (by omega) kb
        clear hoth hbel
        have k17 := ha5
        clear ha5
        generalize g5 = g_k17 at *
        go_upto_region 21 with (first | (refine wpList_load_arr2 rfl _ _ rfl _ rfl (by decide +kernel) _ (by assumption) (by first | (rw [lims_len]; kernel_rfl) | (rw [el_rep]; kernel_rfl) | (rw [el_len]; kernel_rfl) | (rw [byts_len]; kernel_rfl) | (rw [us_len]; kernel_rfl) | (rw [bytn_len]; kernel_rfl) | (rw [ens_len, digs_len]; kernel_rfl) | kernel_rfl) ?_) | (refine wpList_store_arr rfl _ _ _ rfl _ _ rfl rfl _ (by first | assumption | exact Arr.new _ _ _) (by first | (rw [lims_len]; kernel_rfl) | (rw [el_rep]; kernel_rfl) | (rw [el_len]; kernel_rfl) | (rw [byts_len]; kernel_rfl) | (rw [us_len]; kernel_rfl) | (rw [bytn_len]; kernel_rfl) | (rw [ens_len, digs_len]; kernel_rfl) | kernel_rfl) (by first | (rw [lims_len, lims_len]) | (rw [el_rep, el_rep]) | (rw [el_rep, el_len]; rfl) | (rw [el_len, el_rep]; rfl) | (rw [el_len, el_len]; rfl) | (rw [byts_len, byts_len]) | (rw [lims_len]; rfl) | (rw [byts_len]; rfl) | (rw [us_len, us_len]; rfl) | (rw [bytn_len, bytn_len]) | (rw [bytn_len]; rfl) | (rw [ens_len, ens_len, digs_len, digs_len]) | rfl) (by first | exact lims_one _ _ | exact el_one _ | exact byts_one _ | exact us_one _ | exact bytn_one _ _ | exact ens_one _ | (intro v hv; simp at hv; rcases hv with rfl | rfl | rfl | rfl <;> rfl)) ?_))
        refine Tx.start (fun w' => Below (w_62).heap.size (w_62) w') 6 7 rfl (by kernel_rfl) ?_
        have hS_63 : Below (w_62).heap.size (w_62) (World.drew w_62) := (Below.refl _ _).drew
        refine Tx.seg (A := ?_) 4 11 (by kernel_rfl) (by exact hS_63) [0, 1, 3] (by kernel_rfl) ?_ ?_
        rotate_left
        · intro w' hB
          have e0 := k2.below hB
          have e1 := k4.below hB
          have e2 := k5.below hB
          have e3 := k6.below hB
          have e4 := k7.below hB
          have e5 := k8.below hB
          have e6 := k9.below hB
          have e7 := k13.below hB
          have e8 := k14.below hB
          have e9 := k15.below hB
          have e10 := k16.below hB
          have e11 := k17.below hB
          iterate 3 (first | (refine rd_skip rfl rfl ?_; simp only [Act.put, List.setIfInBounds_toArray, List.set_cons_zero, List.set_cons_succ]) | (refine rd_load_arr rfl rfl _ _ rfl _ rfl (by decide +kernel) _ (by assumption) (by first | (rw [lims_len]; kernel_rfl) | (rw [el_rep]; kernel_rfl) | (rw [el_len]; kernel_rfl) | (rw [byts_len]; kernel_rfl) | (rw [us_len]; kernel_rfl) | (rw [bytn_len]; kernel_rfl) | (rw [ens_len, digs_len]; kernel_rfl) | kernel_rfl) ?_; simp only [Act.put, List.setIfInBounds_toArray, List.set_cons_zero, List.set_cons_succ]) | (refine rd_take (v := ?_) rfl rfl ?_ ?_; rotate_left; (focus (go_simp; try (with_reducible rfl))); simp only [Act.put, List.setIfInBounds_toArray, List.set_cons_zero, List.set_cons_succ]) | (refine rd_take (v := ?_) rfl rfl ?_ ?_; rotate_left; (focus (try go_simp); fail)))
          exact rd_nil
        refine Tx.poolB 1 63 [(2, 74), (4, 76), (5, 18)] [(false, []), (false, [(2, 74)]), (false, [])] [(2, Ph.is (.agg (el (rep R8)).toArray)), (4, Ph.is (.agg (el (rep R9)).toArray)), (5, Ph.arr (w_62).heap.size (el (List.replicate 16 0)))] (by kernel_rfl) (by kernel_rfl) (by first | assumption | exact (Below.refl _ _).drew) ?_ ?_
        · refine ⟨⟨_, rfl, ?_⟩, ⟨_, rfl, ?_⟩, ⟨_, rfl, ?_⟩, trivial⟩
          · intro vs w1 hS hE hD K hK
            clear hD
            simp only [fillL, Act.put, List.setIfInBounds_toArray, List.set_cons_zero, List.set_cons_succ] at hK ⊢
            go_simp
            refine (d8.out _).mono ?_
            rintro e w2 ⟨rfl, hb2⟩
            exact hK _ _ rfl hb2 nofun
          · intro vs w1 hS hE hD K hK
            obtain ⟨q2, -⟩ := hD
            simp only [fillL, Act.put, List.setIfInBounds_toArray, List.set_cons_zero, List.set_cons_succ] at hK ⊢
            rw [show vs 2 = _ from q2] at hK ⊢
            clear q2
            go_simp
            refine (d9.out _).mono ?_
            rintro e w2 ⟨rfl, hb2⟩
            exact hK _ _ rfl hb2 nofun
          · intro vs w1 hS hE hD K hK
            clear hD
            simp only [fillL, Act.put, List.setIfInBounds_toArray, List.set_cons_zero, List.set_cons_succ] at hK ⊢
            go_simp
            exact hK _ _ ⟨_, rfl, Nat.le_trans (by first | exact Nat.le_refl _ | omega | (simp; omega)) hE.size, Arr.new _ _ _⟩ (below_alloc _ _) (fun _ => ⟨_, rfl, Nat.le_refl _⟩)
        intro vs w_p21_8857 hS_p21_8857 hE_p21_8857 hP hD
        obtain ⟨q2, q4, q5, -⟩ := hP
        simp only [fillL, Act.put, List.setIfInBounds_toArray, List.set_cons_zero, List.set_cons_succ]
        rw [show vs 2 = _ from q2]
        clear q2
        rw [show vs 4 = _ from q4]
        clear q4
        obtain ⟨g5, e5, hg5, ha5⟩ := q5
        rw [e5]
        clear e5 hD vs
        have lt_k18_k2 := Nat.lt_of_lt_of_le k2.lt hg5
        have lt_k18_k4 := Nat.lt_of_lt_of_le k4.lt hg5
        have lt_k18_k5 := Nat.lt_of_lt_of_le k5.lt hg5
        have lt_k18_k6 := Nat.lt_of_lt_of_le k6.lt hg5
        have lt_k18_k7 := Nat.lt_of_lt_of_le k7.lt hg5
        have lt_k18_k8 := Nat.lt_of_lt_of_le k8.lt hg5
        have lt_k18_k9 := Nat.lt_of_lt_of_le k9.lt hg5
        have lt_k18_k13 := Nat.lt_of_lt_of_le k13.lt hg5
        have lt_k18_k14 := Nat.lt_of_lt_of_le k14.lt hg5
        have lt_k18_k15 := Nat.lt_of_lt_of_le k15.lt hg5
        have lt_k18_k16 := Nat.lt_of_lt_of_le k16.lt hg5
        have lt_k18_k17 := Nat.lt_of_lt_of_le k17.lt hg5
        have k2 := k2.below hS_p21_8857
        have k4 := k4.below hS_p21_8857
        have k5 := k5.below hS_p21_8857
        have k6 := k6.below hS_p21_8857
        have k7 := k7.below hS_p21_8857
        have k8 := k8.below hS_p21_8857
        have k9 := k9.below hS_p21_8857
        have k13 := k13.below hS_p21_8857
        have k14 := k14.below hS_p21_8857
        have k15 := k15.below hS_p21_8857
        have k16 := k16.below hS_p21_8857
        have k17 := k17.below hS_p21_8857
        have kb := bel kb hS_p21_8857
        refine Tx.bar 127 rfl (by decide +kernel) (fun K hK => ?_)
        refine step_store_arr rfl _ _ _ rfl _ _ rfl rfl _ (by assumption) (by first | (rw [lims_len]; kernel_rfl) | (rw [el_rep]; kernel_rfl) | (rw [el_len]; kernel_rfl) | (rw [byts_len]; kernel_rfl) | (rw [us_len]; kernel_rfl) | (rw [bytn_len]; kernel_rfl) | (rw [ens_len, digs_len]; kernel_rfl) | kernel_rfl) (by first | (rw [lims_len, lims_len]) | (rw [el_rep, el_rep]) | (rw [el_rep, el_len]; rfl) | (rw [el_len, el_rep]; rfl) | (rw [el_len, el_len]; rfl) | (rw [byts_len, byts_len]) | (rw [lims_len]; rfl) | (rw [byts_len]; rfl) | (rw [us_len, us_len]; rfl) | (rw [bytn_len, bytn_len]) | (rw [bytn_len]; rfl) | (rw [ens_len, ens_len, digs_len, digs_len]) | rfl) (by first | exact lims_one _ _ | exact el_one _ | exact byts_one _ | exact us_one _ | exact bytn_one _ _ | exact ens_one _ | (intro v hv; simp at hv; rcases hv with rfl | rfl | rfl | rfl <;> rfl)) ?_
        refine hK (fun _ => True) 9999 _ _ ?_
        clear hK K
        try simp only [Act.put]
        try simp only [List.setIfInBounds_toArray, List.set_cons_zero, List.set_cons_succ]
        refine Tx.done (by kernel_rfl) ?_
        refine then_row ha5 (fun w_64 ha5 hoth hbel => ?_)
        have k2 := hoth _ _ (by omega) k2
        have k4 := hoth _ _ (by omega) k4
        have k5 := hoth _ _ (by omega) k5
        have k6 := hoth _ _ (by omega) k6
        have k7 := hoth _ _ (by omega) k7
        have k8 := hoth _ _ (by omega) k8
        have k9 := hoth _ _ (by omega) k9
        have k13 := hoth _ _ (by omega) k13
        have k14 := hoth _ _ (by omega) k14
        have k15 := hoth _ _ (by omega) k15
        have k16 := hoth _ _ (by omega) k16
        have k17 := hoth _ _ (by omega) k17
        have kb := hbel _ _ (by omega) kb
        clear hoth hbel
        have k18 := ha5
        clear ha5
        generalize g5 = g_k18 at *
        go_upto_region 22 with (first | (refine wpList_load_arr2 rfl _ _ rfl _ rfl (by decide +kernel) _ (by assumption) (by first | (rw [lims_len]; kernel_rfl) | (rw [el_rep]; kernel_rfl) | (rw [el_len]; kernel_rfl) | (rw [byts_len]; kernel_rfl) | (rw [us_len]; kernel_rfl) | (rw [bytn_len]; kernel_rfl) | (rw [ens_len, digs_len]; kernel_rfl) | kernel_rfl) ?_) | (refine wpList_store_arr rfl _ _ _ rfl _ _ rfl rfl _ (by first | assumption | exact Arr.new _ _ _) (by first | (rw [lims_len]; kernel_rfl) | (rw [el_rep]; kernel_rfl) | (rw [el_len]; kernel_rfl) | (rw [byts_len]; kernel_rfl) | (rw [us_len]; kernel_rfl) | (rw [bytn_len]; kernel_rfl) | (rw [ens_len, digs_len]; kernel_rfl) | kernel_rfl) (by first | (rw [lims_len, lims_len]) | (rw [el_rep, el_rep]) | (rw [el_rep, el_len]; rfl) | (rw [el_len, el_rep]; rfl) | (rw [el_len, el_len]; rfl) | (rw [byts_len, byts_len]) | (rw [lims_len]; rfl) | (rw [byts_len]; rfl) | (rw [us_len, us_len]; rfl) | (rw [bytn_len, bytn_len]) | (rw [bytn_len]; rfl) | (rw [ens_len, ens_len, digs_len, digs_len]) | rfl) (by first | exact lims_one _ _ | exact el_one _ | exact byts_one _ | exact us_one _ | exact bytn_one _ _ | exact ens_one _ | (intro v hv; simp at hv; rcases hv with rfl | rfl | rfl | rfl <;> rfl)) ?_))
        go_wp2_with (first | (refine wpList_load_arr2 rfl _ _ rfl _ rfl (by decide +kernel) _ (by assumption) (by first | (rw [lims_len]; kernel_rfl) | (rw [el_rep]; kernel_rfl) | (rw [el_len]; kernel_rfl) | (rw [byts_len]; kernel_rfl) | (rw [us_len]; kernel_rfl) | (rw [bytn_len]; kernel_rfl) | (rw [ens_len, digs_len]; kernel_rfl) | kernel_rfl) ?_) | (refine wpList_store_arr rfl _ _ _ rfl _ _ rfl rfl _ (by first | assumption | exact Arr.new _ _ _) (by first | (rw [lims_len]; kernel_rfl) | (rw [el_rep]; kernel_rfl) | (rw [el_len]; kernel_rfl) | (rw [byts_len]; kernel_rfl) | (rw [us_len]; kernel_rfl) | (rw [bytn_len]; kernel_rfl) | (rw [ens_len, digs_len]; kernel_rfl) | kernel_rfl) (by first | (rw [lims_len, lims_len]) | (rw [el_rep, el_rep]) | (rw [el_rep, el_len]; rfl) | (rw [el_len, el_rep]; rfl) | (rw [el_len, el_len]; rfl) | (rw [byts_len, byts_len]) | (rw [lims_len]; rfl) | (rw [byts_len]; rfl) | (rw [us_len, us_len]; rfl) | (rw [bytn_len, bytn_len]) | (rw [bytn_len]; rfl) | (rw [ens_len, ens_len, digs_len, digs_len]) | rfl) (by first | exact lims_one _ _ | exact el_one _ | exact byts_one _ | exact us_one _ | exact bytn_one _ _ | exact ens_one _ | (intro v hv; simp at hv; rcases hv with rfl | rfl | rfl | rfl <;> rfl)) ?_))
        refine (d10.out _).mono ?_
        rintro e w_65 ⟨rfl, hb_65⟩
        have k2 := k2.below hb_65
        have k4 := k4.below hb_65
        have k5 := k5.below hb_65
        have k6 := k6.below hb_65
        have k7 := k7.below hb_65
        have k8 := k8.below hb_65
        have k9 := k9.below hb_65
        have k13 := k13.below hb_65
        have k15 := k15.below hb_65
        have k16 := k16.below hb_65
        have k17 := k17.below hb_65
        have k18 := k18.below hb_65
        have kb := bel kb hb_65
        clear hb_65
        go_upto_region 23 with (first | (refine wpList_load_arr2 rfl _ _ rfl _ rfl (by decide +kernel) _ (by assumption) (by first | (rw [lims_len]; kernel_rfl) | (rw [el_rep]; kernel_rfl) | (rw [el_len]; kernel_rfl) | (rw [byts_len]; kernel_rfl) | (rw [us_len]; kernel_rfl) | (rw [bytn_len]; kernel_rfl) | (rw [ens_len, digs_len]; kernel_rfl) | kernel_rfl) ?_) | (refine wpList_store_arr rfl _ _ _ rfl _ _ rfl rfl _ (by first | assumption | exact Arr.new _ _ _) (by first | (rw [lims_len]; kernel_rfl) | (rw [el_rep]; kernel_rfl) | (rw [el_len]; kernel_rfl) | (rw [byts_len]; kernel_rfl) | (rw [us_len]; kernel_rfl) | (rw [bytn_len]; kernel_rfl) | (rw [ens_len, digs_len]; kernel_rfl) | kernel_rfl) (by first | (rw [lims_len, lims_len]) | (rw [el_rep, el_rep]) | (rw [el_rep, el_len]; rfl) | (rw [el_len, el_rep]; rfl) | (rw [el_len, el_len]; rfl) | (rw [byts_len, byts_len]) | (rw [lims_len]; rfl) | (rw [byts_len]; rfl) | (rw [us_len, us_len]; rfl) | (rw [bytn_len, bytn_len]) | (rw [bytn_len]; rfl) | (rw [ens_len, ens_len, digs_len, digs_len]) | rfl) (by first | exact lims_one _ _ | exact el_one _ | exact byts_one _ | exact us_one _ | exact bytn_one _ _ | exact ens_one _ | (intro v hv; simp at hv; rcases hv with rfl | rfl | rfl | rfl <;> rfl)) ?_))
        have hg_k19_k2 := k2.lt
        have hg_k19_k4 := k4.lt
        have hg_k19_k5 := k5.lt
        have hg_k19_k6 := k6.lt
        have hg_k19_k7 := k7.lt
        have hg_k19_k8 := k8.lt
        have hg_k19_k9 := k9.lt
        have hg_k19_k13 := k13.lt
        have hg_k19_k15 := k15.lt
        have hg_k19_k16 := k16.lt
        have hg_k19_k17 := k17.lt
        have hg_k19_k18 := k18.lt
        refine code_new (fun w_66 k19 hnew => ?_)
        have k2 := k2.below hnew
        have k4 := k4.below hnew
        have k5 := k5.below hnew
        have k6 := k6.below hnew
        have k7 := k7.below hnew
        have k8 := k8.below hnew
        have k9 := k9.below hnew
        have k13 := k13.below hnew
        have k15 := k15.below hnew
        have k16 := k16.below hnew
        have k17 := k17.below hnew
        have k18 := k18.below hnew
        have kb := bel kb hnew
        clear hnew
        generalize (w_65).heap.size = g_k19 at k19 hg_k19_k2 hg_k19_k4 hg_k19_k5 hg_k19_k6 hg_k19_k7 hg_k19_k8 hg_k19_k9 hg_k19_k13 hg_k19_k15 hg_k19_k16 hg_k19_k17 hg_k19_k18 ⊢
        go_upto_region 23 with (first | (refine wpList_load_arr2 rfl _ _ rfl _ rfl (by decide +kernel) _ (by assumption) (by first | (rw [lims_len]; kernel_rfl) | (rw [el_rep]; kernel_rfl) | (rw [el_len]; kernel_rfl) | (rw [byts_len]; kernel_rfl) | (rw [us_len]; kernel_rfl) | (rw [bytn_len]; kernel_rfl) | (rw [ens_len, digs_len]; kernel_rfl) | kernel_rfl) ?_) | (refine wpList_store_arr rfl _ _ _ rfl _ _ rfl rfl _ (by first | assumption | exact Arr.new _ _ _) (by first | (rw [lims_len]; kernel_rfl) | (rw [el_rep]; kernel_rfl) | (rw [el_len]; kernel_rfl) | (rw [byts_len]; kernel_rfl) | (rw [us_len]; kernel_rfl) | (rw [bytn_len]; kernel_rfl) | (rw [ens_len, digs_len]; kernel_rfl) | kernel_rfl) (by first | (rw [lims_len, lims_len]) | (rw [el_rep, el_rep]) | (rw [el_rep, el_len]; rfl) | (rw [el_len, el_rep]; rfl) | (rw [el_len, el_len]; rfl) | (rw [byts_len, byts_len]) | (rw [lims_len]; rfl) | (rw [byts_len]; rfl) | (rw [us_len, us_len]; rfl) | (rw [bytn_len, bytn_len]) | (rw [bytn_len]; rfl) | (rw [ens_len, ens_len, digs_len, digs_len]) | rfl) (by first | exact lims_one _ _ | exact el_one _ | exact byts_one _ | exact us_one _ | exact bytn_one _ _ | exact ens_one _ | (intro v hv; simp at hv; rcases hv with rfl | rfl | rfl | rfl <;> rfl)) ?_))
        go_wp2_with (first | (refine wpList_load_arr2 rfl _ _ rfl _ rfl (by decide +kernel) _ (by assumption) (by first | (rw [lims_len]; kernel_rfl) | (rw [el_rep]; kernel_rfl) | (rw [el_len]; kernel_rfl) | (rw [byts_len]; kernel_rfl) | (rw [us_len]; kernel_rfl) | (rw [bytn_len]; kernel_rfl) | (rw [ens_len, digs_len]; kernel_rfl) | kernel_rfl) ?_) | (refine wpList_store_arr rfl _ _ _ rfl _ _ rfl rfl _ (by first | assumption | exact Arr.new _ _ _) (by first | (rw [lims_len]; kernel_rfl) | (rw [el_rep]; kernel_rfl) | (rw [el_len]; kernel_rfl) | (rw [byts_len]; kernel_rfl) | (rw [us_len]; kernel_rfl) | (rw [bytn_len]; kernel_rfl) | (rw [ens_len, digs_len]; kernel_rfl) | kernel_rfl) (by first | (rw [lims_len, lims_len]) | (rw [el_rep, el_rep]) | (rw [el_rep, el_len]; rfl) | (rw [el_len, el_rep]; rfl) | (rw [el_len, el_len]; rfl) | (rw [byts_len, byts_len]) | (rw [lims_len]; rfl) | (rw [byts_len]; rfl) | (rw [us_len, us_len]; rfl) | (rw [bytn_len, bytn_len]) | (rw [bytn_len]; rfl) | (rw [ens_len, ens_len, digs_len, digs_len]) | rfl) (by first | exact lims_one _ _ | exact el_one _ | exact byts_one _ | exact us_one _ | exact bytn_one _ _ | exact ens_one _ | (intro v hv; simp at hv; rcases hv with rfl | rfl | rfl | rfl <;> rfl)) ?_))
        refine (d11.out _).mono ?_
        rintro e w_67 ⟨rfl, hb_67⟩
        have k2 := k2.below hb_67
        have k4 := k4.below hb_67
        have k5 := k5.below hb_67
        have k6 := k6.below hb_67
        have k7 := k7.below hb_67
        have k8 := k8.below hb_67
        have k9 := k9.below hb_67
        have k13 := k13.below hb_67
        have k15 := k15.below hb_67
        have k16 := k16.below hb_67
        have k17 := k17.below hb_67
        have k18 := k18.below hb_67
        have k19 := k19.below hb_67
        have kb := bel kb hb_67
        clear hb_67
        go_upto_region 24 with (first | (refine wpList_load_arr2 rfl _ _ rfl _ rfl (by decide +kernel) _ (by assumption) (by first | (rw [lims_len]; kernel_rfl) | (rw [el_rep]; kernel_rfl) | (rw [el_len]; kernel_rfl) | (rw [byts_len]; kernel_rfl) | (rw [us_len]; kernel_rfl) | (rw [bytn_len]; kernel_rfl) | (rw [ens_len, digs_len]; kernel_rfl) | kernel_rfl) ?_) | (refine wpList_store_arr rfl _ _ _ rfl _ _ rfl rfl _ (by first | assumption | exact Arr.new _ _ _) (by first | (rw [lims_len]; kernel_rfl) | (rw [el_rep]; kernel_rfl) | (rw [el_len]; kernel_rfl) | (rw [byts_len]; kernel_rfl) | (rw [us_len]; kernel_rfl) | (rw [bytn_len]; kernel_rfl) | (rw [ens_len, digs_len]; kernel_rfl) | kernel_rfl) (by first | (rw [lims_len, lims_len]) | (rw [el_rep, el_rep]) | (rw [el_rep, el_len]; rfl) | (rw [el_len, el_rep]; rfl) | (rw [el_len, el_len]; rfl) | (rw [byts_len, byts_len]) | (rw [lims_len]; rfl) | (rw [byts_len]; rfl) | (rw [us_len, us_len]; rfl) | (rw [bytn_len, bytn_len]) | (rw [bytn_len]; rfl) | (rw [ens_len, ens_len, digs_len, digs_len]) | rfl) (by first | exact lims_one _ _ | exact el_one _ | exact byts_one _ | exact us_one _ | exact bytn_one _ _ | exact ens_one _ | (intro v hv; simp at hv; rcases hv with rfl | rfl | rfl | rfl <;> rfl)) ?_))
        have hg_k20_k2 := k2.lt
        have hg_k20_k4 := k4.lt
        have hg_k20_k5 := k5.lt
        have hg_k20_k6 := k6.lt
        have hg_k20_k7 := k7.lt
        have hg_k20_k8 := k8.lt
        have hg_k20_k9 := k9.lt
        have hg_k20_k13 := k13.lt
        have hg_k20_k15 := k15.lt
        have hg_k20_k16 := k16.lt
        have hg_k20_k19 := k19.lt
        refine code_new (fun w_68 k20 hnew => ?_)
        have k2 := k2.below hnew
        have k4 := k4.below hnew
        have k5 := k5.below hnew
        have k6 := k6.below hnew
        have k7 := k7.below hnew
        have k8 := k8.below hnew
        have k9 := k9.below hnew
        have k13 := k13.below hnew
        have k15 := k15.below hnew
        have k16 := k16.below hnew
        have k19 := k19.below hnew
        have kb := bel kb hnew
        clear hnew
        generalize (w_67).heap.size = g_k20 at k20 hg_k20_k2 hg_k20_k4 hg_k20_k5 hg_k20_k6 hg_k20_k7 hg_k20_k8 hg_k20_k9 hg_k20_k13 hg_k20_k15 hg_k20_k16 hg_k20_k19 ⊢
        go_upto_region 24 with (first | (refine wpList_load_arr2 rfl _ _ rfl _ rfl (by decide +kernel) _ (by assumption) (by first | (rw [lims_len]; kernel_rfl) | (rw [el_rep]; kernel_rfl) | (rw [el_len]; kernel_rfl) | (rw [byts_len]; kernel_rfl) | (rw [us_len]; kernel_rfl) | (rw [bytn_len]; kernel_rfl) | (rw [ens_len, digs_len]; kernel_rfl) | kernel_rfl) ?_) | (refine wpList_store_arr rfl _ _ _ rfl _ _ rfl rfl _ (by first | assumption | exact Arr.new _ _ _) (by first | (rw [lims_len]; kernel_rfl) | (rw [el_rep]; kernel_rfl) | (rw [el_len]; kernel_rfl) | (rw [byts_len]; kernel_rfl) | (rw [us_len]; kernel_rfl) | (rw [bytn_len]; kernel_rfl) | (rw [ens_len, digs_len]; kernel_rfl) | kernel_rfl) (by first | (rw [lims_len, lims_len]) | (rw [el_rep, el_rep]) | (rw [el_rep, el_len]; rfl) | (rw [el_len, el_rep]; rfl) | (rw [el_len, el_len]; rfl) | (rw [byts_len, byts_len]) | (rw [lims_len]; rfl) | (rw [byts_len]; rfl) | (rw [us_len, us_len]; rfl) | (rw [bytn_len, bytn_len]) | (rw [bytn_len]; rfl) | (rw [ens_len, ens_len, digs_len, digs_len]) | rfl) (by first | exact lims_one _ _ | exact el_one _ | exact byts_one _ | exact us_one _ | exact bytn_one _ _ | exact ens_one _ | (intro v hv; simp at hv; rcases hv with rfl | rfl | rfl | rfl <;> rfl)) ?_))
        go_wp2_with (first | (refine wpList_load_arr2 rfl _ _ rfl _ rfl (by decide +kernel) _ (by assumption) (by first | (rw [lims_len]; kernel_rfl) | (rw [el_rep]; kernel_rfl) | (rw [el_len]; kernel_rfl) | (rw [byts_len]; kernel_rfl) | (rw [us_len]; kernel_rfl) | (rw [bytn_len]; kernel_rfl) | (rw [ens_len, digs_len]; kernel_rfl) | kernel_rfl) ?_) | (refine wpList_store_arr rfl _ _ _ rfl _ _ rfl rfl _ (by first | assumption | exact Arr.new _ _ _) (by first | (rw [lims_len]; kernel_rfl) | (rw [el_rep]; kernel_rfl) | (rw [el_len]; kernel_rfl) | (rw [byts_len]; kernel_rfl) | (rw [us_len]; kernel_rfl) | (rw [bytn_len]; kernel_rfl) | (rw [ens_len, digs_len]; kernel_rfl) | kernel_rfl) (by first | (rw [lims_len, lims_len]) | (rw [el_rep, el_rep]) | (rw [el_rep, el_len]; rfl) | (rw [el_len, el_rep]; rfl) | (rw [el_len, el_len]; rfl) | (rw [byts_len, byts_len]) | (rw [lims_len]; rfl) | (rw [byts_len]; rfl) | (rw [us_len, us_len]; rfl) | (rw [bytn_len, bytn_len]) | (rw [bytn_len]; rfl) | (rw [ens_len, ens_len, digs_len, digs_len]) | rfl) (by first | exact lims_one _ _ | exact el_one _ | exact byts_one _ | exact us_one _ | exact bytn_one _ _ | exact ens_one _ | (intro v hv; simp at hv; rcases hv with rfl | rfl | rfl | rfl <;> rfl)) ?_))
        refine (d12.out _).mono ?_
        rintro e w_69 ⟨rfl, hb_69⟩
        have k2 := k2.below hb_69
        have k4 := k4.below hb_69
        have k5 := k5.below hb_69
        have k6 := k6.below hb_69
        have k7 := k7.below hb_69
        have k8 := k8.below hb_69
        have k9 := k9.below hb_69
        have k13 := k13.below hb_69
        have k15 := k15.below hb_69
        have k16 := k16.below hb_69
        have k20 := k20.below hb_69
        have kb := bel kb hb_69
        clear hb_69
        go_upto_region 25 with (first | (refine wpList_load_arr2 rfl _ _ rfl _ rfl (by decide +kernel) _ (by assumption) (by first | (rw [lims_len]; kernel_rfl) | (rw [el_rep]; kernel_rfl) | (rw [el_len]; kernel_rfl) | (rw [byts_len]; kernel_rfl) | (rw [us_len]; kernel_rfl) | (rw [bytn_len]; kernel_rfl) | (rw [ens_len, digs_len]; kernel_rfl) | kernel_rfl) ?_) | (refine wpList_store_arr rfl _ _ _ rfl _ _ rfl rfl _ (by first | assumption | exact Arr.new _ _ _) (by first | (rw [lims_len]; kernel_rfl) | (rw [el_rep]; kernel_rfl) | (rw [el_len]; kernel_rfl) | (rw [byts_len]; kernel_rfl) | (rw [us_len]; kernel_rfl) | (rw [bytn_len]; kernel_rfl) | (rw [ens_len, digs_len]; kernel_rfl) | kernel_rfl) (by first | (rw [lims_len, lims_len]) | (rw [el_rep, el_rep]) | (rw [el_rep, el_len]; rfl) | (rw [el_len, el_rep]; rfl) | (rw [el_len, el_len]; rfl) | (rw [byts_len, byts_len]) | (rw [lims_len]; rfl) | (rw [byts_len]; rfl) | (rw [us_len, us_len]; rfl) | (rw [bytn_len, bytn_len]) | (rw [bytn_len]; rfl) | (rw [ens_len, ens_len, digs_len, digs_len]) | rfl) (by first | exact lims_one _ _ | exact el_one _ | exact byts_one _ | exact us_one _ | exact bytn_one _ _ | exact ens_one _ | (intro v hv; simp at hv; rcases hv with rfl | rfl | rfl | rfl <;> rfl)) ?_))
        refine code_row k8 (fun w_70 k8 hoth hbel => ?_)
        have k2 := hoth _ _ (by omega) k2
        have k4 := hoth _ _ (by omega) k4
        have k5 := hoth _ _ (by omega) k5
        have k6 := hoth _ _ (by omega) k6
        have k7 := hoth _ _ (by omega) k7
        have k9 := hoth _ _ (by omega) k9
        have k13 := hoth _ _ (by omega) k13
        have k15 := hoth _ _ (by omega) k15
        have k16 := hoth _ _ (by omega) k16
        have k20 := hoth _ _ (by omega) k20
        have kb := hbel _ _ (by omega) kb
        clear hoth hbel
        go_upto_region 25 with (first | (refine wpList_load_arr2 rfl _ _ rfl _ rfl (by decide +kernel) _ (by assumption) (by first | (rw [lims_len]; kernel_rfl) | (rw [el_rep]; kernel_rfl) | (rw [el_len]; kernel_rfl) | (rw [byts_len]; kernel_rfl) | (rw [us_len]; kernel_rfl) | (rw [bytn_len]; kernel_rfl) | (rw [ens_len, digs_len]; kernel_rfl) | kernel_rfl) ?_) | (refine wpList_store_arr rfl _ _ _ rfl _ _ rfl rfl _ (by first | assumption | exact Arr.new _ _ _) (by first | (rw [lims_len]; kernel_rfl) | (rw [el_rep]; kernel_rfl) | (rw [el_len]; kernel_rfl) | (rw [byts_len]; kernel_rfl) | (rw [us_len]; kernel_rfl) | (rw [bytn_len]; kernel_rfl) | (rw [ens_len, digs_len]; kernel_rfl) | kernel_rfl) (by first | (rw [lims_len, lims_len]) | (rw [el_rep, el_rep]) | (rw [el_rep, el_len]; rfl) | (rw [el_len, el_rep]; rfl) | (rw [el_len, el_len]; rfl) | (rw [byts_len, byts_len]) | (rw [lims_len]; rfl) | (rw [byts_len]; rfl) | (rw [us_len, us_len]; rfl) | (rw [bytn_len, bytn_len]) | (rw [bytn_len]; rfl) | (rw [ens_len, ens_len, digs_len, digs_len]) | rfl) (by first | exact lims_one _ _ | exact el_one _ | exact byts_one _ | exact us_one _ | exact bytn_one _ _ | exact ens_one _ | (intro v hv; simp at hv; rcases hv with rfl | rfl | rfl | rfl <;> rfl)) ?_))
        refine Tx.start (fun w' => Below (w_70).heap.size (w_70) w') 5 6 rfl (by kernel_rfl) ?_
        have hS_71 : Below (w_70).heap.size (w_70) (World.drew w_70) := (Below.refl _ _).drew
        refine Tx.seg (A := ?_) 3 7 (by kernel_rfl) (by exact hS_71) [0, 1, 2] (by kernel_rfl) ?_ ?_
        rotate_left
        · intro w' hB
          have e0 := k2.below hB
          have e1 := k4.below hB
          have e2 := k5.below hB
          have e3 := k6.below hB
          have e4 := k7.below hB
          have e5 := k8.below hB
          have e6 := k9.below hB
          have e7 := k13.below hB
          have e8 := k15.below hB
          have e9 := k16.below hB
          have e10 := k20.below hB
          iterate 3 (first | (refine rd_skip rfl rfl ?_; simp only [Act.put, List.setIfInBounds_toArray, List.set_cons_zero, List.set_cons_succ]) | (refine rd_load_arr rfl rfl _ _ rfl _ rfl (by decide +kernel) _ (by assumption) (by first | (rw [lims_len]; kernel_rfl) | (rw [el_rep]; kernel_rfl) | (rw [el_len]; kernel_rfl) | (rw [byts_len]; kernel_rfl) | (rw [us_len]; kernel_rfl) | (rw [bytn_len]; kernel_rfl) | (rw [ens_len, digs_len]; kernel_rfl) | kernel_rfl) ?_; simp only [Act.put, List.setIfInBounds_toArray, List.set_cons_zero, List.set_cons_succ]) | (refine rd_take (v := ?_) rfl rfl ?_ ?_; rotate_left; (focus (go_simp; try (with_reducible rfl))); simp only [Act.put, List.setIfInBounds_toArray, List.set_cons_zero, List.set_cons_succ]) | (refine rd_take (v := ?_) rfl rfl ?_ ?_; rotate_left; (focus (try go_simp); fail)))
          exact rd_nil
        refine Tx.eff 3 15 rfl (by decide +kernel) (fun K hK => ?_)
        go_simp
        refine (d13.out _).mono ?_
        rintro e w_72 ⟨rfl, hb_72⟩
        have hS_72 := ext_trans hS_71 (Nat.le_refl _) hb_72
        refine hK (fun w' => Below (w_70).heap.size (w_70) w') _ _ hS_72 (fun _ h => h) ?_
        clear hK K hb_72 hS_71
        try simp only [Act.put, List.setIfInBounds_toArray, List.set_cons_zero, List.set_cons_succ]
        refine Tx.eff 4 31 rfl (by decide +kernel) (fun K hK => ?_)
        go_simp
        refine (d14.out _).mono ?_
        rintro e w_73 ⟨rfl, hb_73⟩
        have hS_73 := ext_trans hS_72 (Nat.le_refl _) hb_73
        refine hK (fun w' => Below (w_70).heap.size (w_70) w') _ _ hS_73 (fun _ h => h) ?_
        clear hK K hb_73 hS_72
        try simp only [Act.put, List.setIfInBounds_toArray, List.set_cons_zero, List.set_cons_succ]
        have k2 := k2.below hS_73
        have k4 := k4.below hS_73
        have k5 := k5.below hS_73
        have k6 := k6.below hS_73
        have k7 := k7.below hS_73
        have k8 := k8.below hS_73
        have k9 := k9.below hS_73
        have k13 := k13.below hS_73
        have k15 := k15.below hS_73
        have k16 := k16.below hS_73
        have k20 := k20.below hS_73
        have kb := bel kb hS_73
        refine Tx.bar 63 rfl (by decide +kernel) (fun K hK => ?_)
        refine step_store_arr rfl _ _ _ rfl _ _ rfl rfl _ (by assumption) (by first | (rw [lims_len]; kernel_rfl) | (rw [el_rep]; kernel_rfl) | (rw [el_len]; kernel_rfl) | (rw [byts_len]; kernel_rfl) | (rw [us_len]; kernel_rfl) | (rw [bytn_len]; kernel_rfl) | (rw [ens_len, digs_len]; kernel_rfl) | kernel_rfl) (by first | (rw [lims_len, lims_len]) | (rw [el_rep, el_rep]) | (rw [el_rep, el_len]; rfl) | (rw [el_len, el_rep]; rfl) | (rw [el_len, el_len]; rfl) | (rw [byts_len, byts_len]) | (rw [lims_len]; rfl) | (rw [byts_len]; rfl) | (rw [us_len, us_len]; rfl) | (rw [bytn_len, bytn_len]) | (rw [bytn_len]; rfl) | (rw [ens_len, ens_len, digs_len, digs_len]) | rfl) (by first | exact lims_one _ _ | exact el_one _ | exact byts_one _ | exact us_one _ | exact bytn_one _ _ | exact ens_one _ | (intro v hv; simp at hv; rcases hv with rfl | rfl | rfl | rfl <;> rfl)) ?_
        refine hK (fun _ => True) 9999 _ _ ?_
        clear hK K
        try simp only [Act.put]
        try simp only [List.setIfInBounds_toArray, List.set_cons_zero, List.set_cons_succ]
        refine Tx.done (by kernel_rfl) ?_
        refine then_row k9 (fun w_74 k9 hoth hbel => ?_)
        have k2 := hoth _ _ (by omega) k2
        have k4 := hoth _ _ (by omega) k4
        have k5 := hoth _ _ (by omega) k5
        have k6 := hoth _ _ (by omega) k6
        have k7 := hoth _ _ (by omega) k7
        have k8 := hoth _ _ (by omega) k8
        have k13 := hoth _ _ (by omega) k13
        have k15 := hoth _ _ (by omega) k15
        have k16 := hoth _ _ (by omega) k16
        have k20 := hoth _ _ (by omega) k20
        have kb := hbel _ _ (by omega) kb
        clear hoth hbel
        go_upto_region 26 with (first | (refine wpList_load_arr2 rfl _ _ rfl _ rfl (by decide +kernel) _ (by assumption) (by first | (rw [lims_len]; kernel_rfl) | (rw [el_rep]; kernel_rfl) | (rw [el_len]; kernel_rfl) | (rw [byts_len]; kernel_rfl) | (rw [us_len]; kernel_rfl) | (rw [bytn_len]; kernel_rfl) | (rw [ens_len, digs_len]; kernel_rfl) | kernel_rfl) ?_) | (refine wpList_store_arr rfl _ _ _ rfl _ _ rfl rfl _ (by first | assumption | exact Arr.new _ _ _) (by first | (rw [lims_len]; kernel_rfl) | (rw [el_rep]; kernel_rfl) | (rw [el_len]; kernel_rfl) | (rw [byts_len]; kernel_rfl) | (rw [us_len]; kernel_rfl) | (rw [bytn_len]; kernel_rfl) | (rw [ens_len, digs_len]; kernel_rfl) | kernel_rfl) (by first | (rw [lims_len, lims_len]) | (rw [el_rep, el_rep]) | (rw [el_rep, el_len]; rfl) | (rw [el_len, el_rep]; rfl) | (rw [el_len, el_len]; rfl) | (rw [byts_len, byts_len]) | (rw [lims_len]; rfl) | (rw [byts_len]; rfl) | (rw [us_len, us_len]; rfl) | (rw [bytn_len, bytn_len]) | (rw [bytn_len]; rfl) | (rw [ens_len, ens_len, digs_len, digs_len]) | rfl) (by first | exact lims_one _ _ | exact el_one _ | exact byts_one _ | exact us_one _ | exact bytn_one _ _ | exact ens_one _ | (intro v hv; simp at hv; rcases hv with rfl | rfl | rfl | rfl <;> rfl)) ?_))
        go_wp2_with (first | (refine wpList_load_arr2 rfl _ _ rfl _ rfl (by decide +kernel) _ (by assumption) (by first | (rw [lims_len]; kernel_rfl) | (rw [el_rep]; kernel_rfl) | (rw [el_len]; kernel_rfl) | (rw [byts_len]; kernel_rfl) | (rw [us_len]; kernel_rfl) | (rw [bytn_len]; kernel_rfl) | (rw [ens_len, digs_len]; kernel_rfl) | kernel_rfl) ?_) | (refine wpList_store_arr rfl _ _ _ rfl _ _ rfl rfl _ (by first | assumption | exact Arr.new _ _ _) (by first | (rw [lims_len]; kernel_rfl) | (rw [el_rep]; kernel_rfl) | (rw [el_len]; kernel_rfl) | (rw [byts_len]; kernel_rfl) | (rw [us_len]; kernel_rfl) | (rw [bytn_len]; kernel_rfl) | (rw [ens_len, digs_len]; kernel_rfl) | kernel_rfl) (by first | (rw [lims_len, lims_len]) | (rw [el_rep, el_rep]) | (rw [el_rep, el_len]; rfl) | (rw [el_len, el_rep]; rfl) | (rw [el_len, el_len]; rfl) | (rw [byts_len, byts_len]) | (rw [lims_len]; rfl) | (rw [byts_len]; rfl) | (rw [us_len, us_len]; rfl) | (rw [bytn_len, bytn_len]) | (rw [bytn_len]; rfl) | (rw [ens_len, ens_len, digs_len, digs_len]) | rfl) (by first | exact lims_one _ _ | exact el_one _ | exact byts_one _ | exact us_one _ | exact bytn_one _ _ | exact ens_one _ | (intro v hv; simp at hv; rcases hv with rfl | rfl | rfl | rfl <;> rfl)) ?_))
        refine (d15.out _).mono ?_
        rintro e w_75 ⟨rfl, hb_75⟩
        have k2 := k2.below hb_75
        have k4 := k4.below hb_75
        have k5 := k5.below hb_75
        have k6 := k6.below hb_75
        have k7 := k7.below hb_75
        have k8 := k8.below hb_75
        have k9 := k9.below hb_75
        have k13 := k13.below hb_75
        have k15 := k15.below hb_75
        have k16 := k16.below hb_75
        have kb := bel kb hb_75
        clear hb_75
        go_upto_region 27 with (first | (refine wpList_load_arr2 rfl _ _ rfl _ rfl (by decide +kernel) _ (by assumption) (by first | (rw [lims_len]; kernel_rfl) | (rw [el_rep]; kernel_rfl) | (rw [el_len]; kernel_rfl) | (rw [byts_len]; kernel_rfl) | (rw [us_len]; kernel_rfl) | (rw [bytn_len]; kernel_rfl) | (rw [ens_len, digs_len]; kernel_rfl) | kernel_rfl) ?_) | (refine wpList_store_arr rfl _ _ _ rfl _ _ rfl rfl _ (by first | assumption | exact Arr.new _ _ _) (by first | (rw [lims_len]; kernel_rfl) | (rw [el_rep]; kernel_rfl) | (rw [el_len]; kernel_rfl) | (rw [byts_len]; kernel_rfl) | (rw [us_len]; kernel_rfl) | (rw [bytn_len]; kernel_rfl) | (rw [ens_len, digs_len]; kernel_rfl) | kernel_rfl) (by first | (rw [lims_len, lims_len]) | (rw [el_rep, el_rep]) | (rw [el_rep, el_len]; rfl) | (rw [el_len, el_rep]; rfl) | (rw [el_len, el_len]; rfl) | (rw [byts_len, byts_len]) | (rw [lims_len]; rfl) | (rw [byts_len]; rfl) | (rw [us_len, us_len]; rfl) | (rw [bytn_len, bytn_len]) | (rw [bytn_len]; rfl) | (rw [ens_len, ens_len, digs_len, digs_len]) | rfl) (by first | exact lims_one _ _ | exact el_one _ | exact byts_one _ | exact us_one _ | exact bytn_one _ _ | exact ens_one _ | (intro v hv; simp at hv; rcases hv with rfl | rfl | rfl | rfl <;> rfl)) ?_))
        refine code_row k6 (fun w_76 k6 hoth hbel => ?_)
        have k2 := hoth _ _ (by omega) k2
        have k4 := hoth _ _ (by omega) k4
        have k5 := hoth _ _ (by omega) k5
        have k7 := hoth _ _ (by omega) k7
        have k8 := hoth _ _ (by omega) k8
        have k9 := hoth _ _ (by omega) k9
        have k13 := hoth _ _ (by omega) k13
        have k16 := hoth _ _ (by omega) k16
        have kb := hbel _ _ (by omega) kb
        clear hoth hbel
        go_upto_region 27 with (first | (refine wpList_load_arr2 rfl _ _ rfl _ rfl (by decide +kernel) _ (by assumption) (by first | (rw [lims_len]; kernel_rfl) | (rw [el_rep]; kernel_rfl) | (rw [el_len]; kernel_rfl) | (rw [byts_len]; kernel_rfl) | (rw [us_len]; kernel_rfl) | (rw [bytn_len]; kernel_rfl) | (rw [ens_len, digs_len]; kernel_rfl) | kernel_rfl) ?_) | (refine wpList_store_arr rfl _ _ _ rfl _ _ rfl rfl _ (by first | assumption | exact Arr.new _ _ _) (by first | (rw [lims_len]; kernel_rfl) | (rw [el_rep]; kernel_rfl) | (rw [el_len]; kernel_rfl) | (rw [byts_len]; kernel_rfl) | (rw [us_len]; kernel_rfl) | (rw [bytn_len]; kernel_rfl) | (rw [ens_len, digs_len]; kernel_rfl) | kernel_rfl) (by first | (rw [lims_len, lims_len]) | (rw [el_rep, el_rep]) | (rw [el_rep, el_len]; rfl) | (rw [el_len, el_rep]; rfl) | (rw [el_len, el_len]; rfl) | (rw [byts_len, byts_len]) | (rw [lims_len]; rfl) | (rw [byts_len]; rfl) | (rw [us_len, us_len]; rfl) | (rw [bytn_len, bytn_len]) | (rw [bytn_len]; rfl) | (rw [ens_len, ens_len, digs_len, digs_len]) | rfl) (by first | exact lims_one _ _ | exact el_one _ | exact byts_one _ | exact us_one _ | exact bytn_one _ _ | exact ens_one _ | (intro v hv; simp at hv; rcases hv with rfl | rfl | rfl | rfl <;> rfl)) ?_))
        refine Tx.start (fun w' => Below (w_76).heap.size (w_76) w') 7 8 rfl (by kernel_rfl) ?_
        have hS_77 : Below (w_76).heap.size (w_76) (World.drew w_76) := (Below.refl _ _).drew
        refine Tx.seg (A := ?_) 5 11 (by kernel_rfl) (by exact hS_77) [0, 1, 3] (by kernel_rfl) ?_ ?_
        rotate_left
        · intro w' hB
          have e0 := k2.below hB
          have e1 := k4.below hB
          have e2 := k5.below hB
          have e3 := k6.below hB
          have e4 := k7.below hB
          have e5 := k8.below hB
          have e6 := k9.below hB
          have e7 := k13.below hB
          have e8 := k16.below hB
          iterate 3 (first | (refine rd_skip rfl rfl ?_; simp only [Act.put, List.setIfInBounds_toArray, List.set_cons_zero, List.set_cons_succ]) | (refine rd_load_arr rfl rfl _ _ rfl _ rfl (by decide +kernel) _ (by assumption) (by first | (rw [lims_len]; kernel_rfl) | (rw [el_rep]; kernel_rfl) | (rw [el_len]; kernel_rfl) | (rw [byts_len]; kernel_rfl) | (rw [us_len]; kernel_rfl) | (rw [bytn_len]; kernel_rfl) | (rw [ens_len, digs_len]; kernel_rfl) | kernel_rfl) ?_; simp only [Act.put, List.setIfInBounds_toArray, List.set_cons_zero, List.set_cons_succ]) | (refine rd_take (v := ?_) rfl rfl ?_ ?_; rotate_left; (focus (go_simp; try (with_reducible rfl))); simp only [Act.put, List.setIfInBounds_toArray, List.set_cons_zero, List.set_cons_succ]) | (refine rd_take (v := ?_) rfl rfl ?_ ?_; rotate_left; (focus (try go_simp); fail)))
          exact rd_nil
        refine Tx.eff 2 15 rfl (by decide +kernel) (fun K hK => ?_)
        go_simp
        refine (c3.out _).mono ?_
        rintro e w_78 ⟨rfl, hb_78⟩
        have hS_78 := ext_trans hS_77 (Nat.le_refl _) hb_78
        refine hK (fun w' => Below (w_76).heap.size (w_76) w') _ _ hS_78 (fun _ h => h) ?_
        clear hK K hb_78 hS_77
        try simp only [Act.put, List.setIfInBounds_toArray, List.set_cons_zero, List.set_cons_succ]
        refine Tx.eff 4 31 rfl (by decide +kernel) (fun K hK => ?_)
        go_simp
        refine (d16.out _).mono ?_
        rintro e w_79 ⟨rfl, hb_79⟩
        have hS_79 := ext_trans hS_78 (Nat.le_refl _) hb_79
        refine hK (fun w' => Below (w_76).heap.size (w_76) w') _ _ hS_79 (fun _ h => h) ?_
        clear hK K hb_79 hS_78
        try simp only [Act.put, List.setIfInBounds_toArray, List.set_cons_zero, List.set_cons_succ]
        refine Tx.eff 5 63 rfl (by decide +kernel) (fun K hK => ?_)
        go_simp
        refine (d17.out _).mono ?_
        rintro e w_80 ⟨rfl, hb_80⟩
        have hS_80 := ext_trans hS_79 (Nat.le_refl _) hb_80
        refine hK (fun w' => Below (w_76).heap.size (w_76) w') _ _ hS_80 (fun _ h => h) ?_
        clear hK K hb_80 hS_79
        try simp only [Act.put, List.setIfInBounds_toArray, List.set_cons_zero, List.set_cons_succ]
        refine Tx.eff 6 127 rfl (by decide +kernel) (fun K hK => ?_)
        go_simp
        refine (d18.out _).mono ?_
        rintro e w_81 ⟨rfl, hb_81⟩
        have hS_81 := ext_trans hS_80 (Nat.le_refl _) hb_81
        refine hK (fun w' => Below (w_76).heap.size (w_76) w') _ _ hS_81 (fun _ h => h) ?_
        clear hK K hb_81 hS_80
        try simp only [Act.put, List.setIfInBounds_toArray, List.set_cons_zero, List.set_cons_succ]
        have k2 := k2.below hS_81
        have k4 := k4.below hS_81
        have k5 := k5.below hS_81
        have k6 := k6.below hS_81
        have k7 := k7.below hS_81
        have k8 := k8.below hS_81
        have k9 := k9.below hS_81
        have k13 := k13.below hS_81
        have k16 := k16.below hS_81
        have kb := bel kb hS_81
        refine Tx.bar 255 rfl (by decide +kernel) (fun K hK => ?_)
        refine step_store_arr rfl _ _ _ rfl _ _ rfl rfl _ (by assumption) (by first | (rw [lims_len]; kernel_rfl) | (rw [el_rep]; kernel_rfl) | (rw [el_len]; kernel_rfl) | (rw [byts_len]; kernel_rfl) | (rw [us_len]; kernel_rfl) | (rw [bytn_len]; kernel_rfl) | (rw [ens_len, digs_len]; kernel_rfl) | kernel_rfl) (by first | (rw [lims_len, lims_len]) | (rw [el_rep, el_rep]) | (rw [el_rep, el_len]; rfl) | (rw [el_len, el_rep]; rfl) | (rw [el_len, el_len]; rfl) | (rw [byts_len, byts_len]) | (rw [lims_len]; rfl) | (rw [byts_len]; rfl) | (rw [us_len, us_len]; rfl) | (rw [bytn_len, bytn_len]) | (rw [bytn_len]; rfl) | (rw [ens_len, ens_len, digs_len, digs_len]) | rfl) (by first | exact lims_one _ _ | exact el_one _ | exact byts_one _ | exact us_one _ | exact bytn_one _ _ | exact ens_one _ | (intro v hv; simp at hv; rcases hv with rfl | rfl | rfl | rfl <;> rfl)) ?_
        refine hK (fun _ => True) 9999 _ _ ?_
        clear hK K
        try simp only [Act.put]
        try simp only [List.setIfInBounds_toArray, List.set_cons_zero, List.set_cons_succ]
        refine Tx.done (by kernel_rfl) ?_
        refine then_row k7 (fun w_82 k7 hoth hbel => ?_)
        have k2 := hoth _ _ (by omega) k2
        have k4 := hoth _ _ (by omega) k4
        have k5 := hoth _ _ (by omega) k5
        have k6 := hoth _ _ (by omega) k6
        have k8 := hoth _ _ (by omega) k8
        have k9 := hoth _ _ (by omega) k9
        have k13 := hoth _ _ (by omega) k13
        have k16 := hoth _ _ (by omega) k16
        have kb := hbel _ _ (by omega) kb
        clear hoth hbel
        clear k13 k16
        go_wp2_with fail
        exact ⟨⟨m, R15, R18, R12, R14, by omega, by go_num, by rw [hnext.out]; exact hst.out, k2, k4, k5, k6, k7, k8, k9, kb⟩, by simp [intOf]⟩

end Go.Proofs.Ytpjkhedodlnloaa
