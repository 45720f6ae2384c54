/- Reference of poly: whole, Poly. -/
import Derived.Test.YtfljonglibpgcaaRp1
import Derived.Test.YtfljonglibpgcaaMd
namespace Go.Proofs.Ytfljonglibpgcaa
open Go.RowKit

theorem add5_step (W i : Nat) : ((W % 256 ^ i + 5) / 256 ^ i + W / 256 ^ i % 256) % 256 = (W + 5) / 256 ^ i % 256 ∧ (W % 256 ^ (i + 1) + 5) / 256 ^ (i + 1) = ((W % 256 ^ i + 5) / 256 ^ i + W / 256 ^ i % 256) / 256 := by
  have hp : 0 < 256 ^ i := Nat.pow_pos (by decide)
  have hm := Nat.mod_add_div W (256 ^ i)
  have h1 : (W + 5) / 256 ^ i = (W % 256 ^ i + 5) / 256 ^ i + W / 256 ^ i := by
    conv => lhs; rw [← hm]
    rw [Nat.add_right_comm, Nat.add_mul_div_left _ _ hp]
  constructor
  · rw [h1]; omega
  · rw [mod_pow_succ', Nat.pow_succ, ← Nat.div_div_eq_div_mul, Nat.add_right_comm, Nat.add_mul_div_left _ _ hp]

theorem digs_top {N : Nat} : (digs 256 17 N)[16]? = some (N / 256 ^ 16 % 256) := digs_get _ _ _ _ (by decide)
theorem digs_less {N : Nat} (h1 : 2 ^ 130 ≤ N) (h2 : N < 2 ^ 131) : (digs 256 17 N).set 16 (N / 256 ^ 16 % 256 - 4) = digs 256 17 (N - 2 ^ 130) := by
  apply List.ext_getElem?
  intro j
  by_cases hj : j < 17
  · rw [List.getElem?_set, digs_len, digs_get _ _ _ _ hj, digs_get _ _ _ _ hj]
    split
    · rename_i h0
      subst h0
      rw [if_pos (by decide), show N / 256 ^ 16 % 256 - 4 = (N - 2 ^ 130) / 256 ^ 16 % 256 by omega]
    · rename_i h0
      have e : (2 : Nat) ^ 130 = 256 ^ j * (256 * (256 ^ (15 - j) * 4)) := by
        have : (256 : Nat) ^ j * (256 * (256 ^ (15 - j) * 4)) = 256 ^ 16 * 4 := by
          rw [← Nat.mul_assoc 256, ← Nat.pow_succ', ← Nat.mul_assoc, ← Nat.pow_add, show j + (15 - j + 1) = 16 by omega]
        rw [this]
      obtain ⟨M, rfl⟩ : ∃ M, N = M + 2 ^ 130 := ⟨N - 2 ^ 130, by omega⟩
      rw [Nat.add_sub_cancel, e, Nat.add_mul_div_left _ _ (Nat.pow_pos (by decide)), Nat.add_mul_mod_self_left]
  · rw [List.getElem?_eq_none (by rw [List.length_set, digs_len]; omega), List.getElem?_eq_none (by rw [digs_len]; omega)]

theorem ens_digs_len (k n : Nat) : (ens (digs 256 k n)).length = k := by rw [ens_len, digs_len]

set_option maxHeartbeats 4000000 in
set_option maxRecDepth 100000 in
theorem rwhole_any (W : Nat) (hW : W < 2 ^ 130) (w : World) :
    Calls Try.prog 14 #[.agg (ens (digs 256 17 W)).toArray] w fun e w' => e = .returned (.agg (ens (digs 256 17 (W % p13))).toArray) ∧ Below w.heap.size w w' := by
  have hv : val 256 (digs 256 17 W) = W := by rw [val_digs, Nat.mod_eq_of_lt (Nat.lt_trans hW (by decide))]
  have c1 := fun w => rcarried_any (digs 256 17 W) (digs_len _ _ _) ((le_digs 17 W).mono (by decide)) (by rw [hv]; exact Nat.lt_trans hW (by decide)) w
  rw [hv, fold13_low hW, fold13_low hW] at c1
  have hst := fun i => add5_step W i
  have u0 : (W % 256 ^ 0 + 5) / 256 ^ 0 = 5 := by rw [Nat.pow_zero, Nat.mod_one]
  have hub : ∀ i, (W % 256 ^ i + 5) / 256 ^ i ≤ 5 := fun i => by
    have hp : 0 < 256 ^ i := Nat.pow_pos (by decide)
    have h1 := Nat.mod_lt W hp
    have : (W % 256 ^ i + 5) / 256 ^ i < 6 := by
      rw [Nat.div_lt_iff_lt_mul hp]; omega
    omega
  obtain ⟨N, hN⟩ : ∃ N, W + 5 = N := ⟨_, rfl⟩
  rw [hN] at hst
  have hp := p13_two
  have g16 := digs_top (N := N)
  have hless : ¬ W < p13 → (digs 256 17 N).set 16 (N / 256 ^ 16 % 256 - 4) = digs 256 17 (W % p13) := by
    intro h
    rw [digs_less (by omega) (by omega), Nat.mod_eq_sub_mod (by omega), Nat.mod_eq_of_lt (by omega), show N - 2 ^ 130 = W - p13 by omega]
  have hlow : W < p13 → W % p13 = W := Nat.mod_eq_of_lt
  have hq1 : W < p13 → N / 256 ^ 16 % 256 < 4 := by intro h; omega
  have hq2 : ¬ W < p13 → 4 ≤ N / 256 ^ 16 % 256 := by intro h; omega
  have hq3 : N / 256 ^ 16 % 256 < 256 := Nat.mod_lt _ (by decide)
  obtain ⟨q, hq⟩ : ∃ q, N / 256 ^ 16 % 256 = q := ⟨_, rfl⟩
  rw [hq] at g16 hless hq1 hq2 hq3
  obtain ⟨m, hm⟩ : ∃ m, W % p13 = m := ⟨_, rfl⟩
  rw [hm] at hless hlow ⊢
  have hm0 := mixl_zero (digs 256 17 N) (digs 256 17 W)
  have hll : (digs 256 17 N).length = (digs 256 17 W).length := by rw [digs_len, digs_len]
  have hall := mixl_all hll
  rw [digs_len] at hall
  clear hv hN hW hq hm hp
  generalize p13 = P at *
  replace c1 := Lib.hid c1
  replace hst := Lib.hid hst
  replace u0 := Lib.hid u0
  replace hub := Lib.hid hub
  replace g16 := Lib.hid g16
  replace hless := Lib.hid hless
  replace hlow := Lib.hid hlow
  replace hq1 := Lib.hid hq1
  replace hq2 := Lib.hid hq2
  replace hm0 := Lib.hid hm0
  replace hll := Lib.hid hll
  replace hall := Lib.hid hall
  go_enter Try.func14, Try.ntmps14
  go_upto_region 1 with fail
  refine wp_new2 (fun W1 hsz k1 k2 kb => ?_)
  have k2 : Arr W1 (w.heap.size + 1) (ens (List.replicate 17 0)) := k2
  clear hsz
  go_wp2_with (refine wpList_load_arr2 rfl _ _ rfl _ rfl (by kernel_rfl) _ (by assumption) (by first | (rw [lims_len]; kernel_rfl) | (rw [el_rep]; kernel_rfl) | (rw [el_len]; kernel_rfl) | (rw [byts_len]; kernel_rfl) | (rw [us_len]; kernel_rfl) | (rw [bytn_len]; kernel_rfl) | (rw [ens_len, digs_len]; kernel_rfl) | kernel_rfl) ?_)
  refine (c1.out _).mono ?_
  rintro e w_1 ⟨rfl, hb_1⟩
  have k1 := k1.below hb_1
  have k2 := k2.below hb_1
  have kb := bel kb hb_1
  clear hb_1
  go_upto_region 2 with (refine wpList_store_arr rfl _ _ _ rfl _ _ rfl rfl _ (by first | assumption | exact Arr.new _ _ _) (by first | (rw [lims_len]; kernel_rfl) | (rw [el_rep]; kernel_rfl) | (rw [el_len]; kernel_rfl) | (rw [byts_len]; kernel_rfl) | (rw [us_len]; kernel_rfl) | (rw [bytn_len]; kernel_rfl) | (rw [ens_len, digs_len]; kernel_rfl) | kernel_rfl) (by first | (rw [lims_len, lims_len]) | (rw [el_rep, el_rep]) | (rw [el_rep, el_len]; rfl) | (rw [el_len, el_rep]; rfl) | (rw [el_len, el_len]; rfl) | (rw [byts_len, byts_len]) | (rw [lims_len]; rfl) | (rw [byts_len]; rfl) | (rw [us_len, us_len]; rfl) | (rw [bytn_len, bytn_len]) | (rw [bytn_len]; rfl) | (rw [ens_len, ens_len, digs_len, digs_len]) | rfl) (by first | exact lims_one _ _ | exact el_one _ | exact byts_one _ | exact us_one _ | exact bytn_one _ _ | exact ens_one _ | (intro v hv; simp at hv; rcases hv with rfl | rfl | rfl | rfl <;> rfl)) ?_)
  refine code_row k1 (fun w_2 k1 hoth hbel => ?_)
  have k2 := hoth _ _ (by omega) k2
  have kb := hbel _ _ (by omega) kb
  clear hoth hbel
  go_upto_region 3 with (first | (refine wpList_load_arr2 rfl _ _ rfl _ rfl (by kernel_rfl) _ (by assumption) (by first | (rw [lims_len]; kernel_rfl) | (rw [el_rep]; kernel_rfl) | (rw [el_len]; kernel_rfl) | (rw [byts_len]; kernel_rfl) | (rw [us_len]; kernel_rfl) | (rw [bytn_len]; kernel_rfl) | (rw [ens_len, digs_len]; kernel_rfl) | kernel_rfl) ?_) | (refine wpList_store_arr rfl _ _ _ rfl _ _ rfl rfl _ (by first | assumption | exact Arr.new _ _ _) (by first | (rw [lims_len]; kernel_rfl) | (rw [el_rep]; kernel_rfl) | (rw [el_len]; kernel_rfl) | (rw [byts_len]; kernel_rfl) | (rw [us_len]; kernel_rfl) | (rw [bytn_len]; kernel_rfl) | (rw [ens_len, digs_len]; kernel_rfl) | kernel_rfl) (by first | (rw [lims_len, lims_len]) | (rw [el_rep, el_rep]) | (rw [el_rep, el_len]; rfl) | (rw [el_len, el_rep]; rfl) | (rw [el_len, el_len]; rfl) | (rw [byts_len, byts_len]) | (rw [lims_len]; rfl) | (rw [byts_len]; rfl) | (rw [us_len, us_len]; rfl) | (rw [bytn_len, bytn_len]) | (rw [bytn_len]; rfl) | (rw [ens_len, ens_len, digs_len, digs_len]) | rfl) (by first | exact lims_one _ _ | exact el_one _ | exact byts_one _ | exact us_one _ | exact bytn_one _ _ | exact ens_one _ | (intro v hv; simp at hv; rcases hv with rfl | rfl | rfl | rfl <;> rfl)) ?_))
  have hg_k3_k1 := k1.lt
  have hg_k3_k2 := k2.lt
  refine code_new (fun w_3 k3 hnew => ?_)
  have k1 := k1.below hnew
  have k2 := k2.below hnew
  have kb := bel kb hnew
  clear hnew
  generalize (w_2).heap.size = g_k3 at k3 hg_k3_k1 hg_k3_k2 ⊢
  have k3 : Arr w_3 g_k3 (ens (mixl 0 (digs 256 17 N) (digs 256 17 W))) := by rw [hm0.out]; exact k3
  have ltk1 := k1.lt
  have ltk2 := k2.lt
  go_wp2_with fail
  go_loopw [5, 4] (fun iv uv wr => ∃ i u : Nat, i ≤ 17 ∧ iv = .int .i64 i ∧ uv = .int .i64 u ∧ (W % 256 ^ i + 5) / 256 ^ i = u ∧ Arr wr w.heap.size (ens (digs 256 17 W)) ∧ Arr wr (w.heap.size + 1) (ens (List.replicate 17 0)) ∧ Arr wr g_k3 (ens (mixl i (digs 256 17 N) (digs 256 17 W))) ∧ Below w.heap.size w wr) (fun iv _ _ => 17 - (intOf iv).toNat)
  case atStart => exact ⟨0, 5, by omega, rfl, rfl, u0.out, k1, k2, k3, kb⟩
  case round =>
    clear k1 k2 k3 kb
    obtain ⟨i, u, hi, rfl, rfl, hu, k1, k2, k3, kb⟩ := hrel
    have hul : u ≤ 5 := by have := hub.out i; omega
    by_cases hlt : i < 17
    · obtain ⟨x, hx⟩ : ∃ x, W / 256 ^ i % 256 = x := ⟨_, rfl⟩
      have hxl : x < 256 := hx ▸ Nat.mod_lt _ (by decide)
      obtain ⟨hd, hs⟩ := hst.out i
      rw [hu, hx] at hd hs
      have g3 : (mixl i (digs 256 17 N) (digs 256 17 W))[i]? = some x := by
        rw [mixl_get hll.out (by rw [digs_len]; exact hlt), if_neg (Nat.lt_irrefl i), digs_get _ _ _ _ hlt, hx]
      have gN := digs_get 256 17 N i hlt
      rw [← hd] at gN
      have hset := mixl_set hll.out gN
      have g3 := ens_get g3
      have hcel := k3.cell g3
      have hfro := k3.frozen i
      have hand := and_255 ((u : Int) + (x : Int))
      have iw1 : IntKind.i64.wrap ((u : Int) + (x : Int)) = (u : Int) + (x : Int) := i64_in (by omega)
      have e9 : ((u : Int) + x) % 256 = (((u + x) % 256 : Nat) : Int) := by omega
      replace e9 := Lib.hid e9
      replace g3 := Lib.hid g3
      replace gN := Lib.hid gN
      replace hset := Lib.hid hset
      replace hd := Lib.hid hd
      replace hs := Lib.hid hs
      replace hu := Lib.hid hu
      replace hx := Lib.hid hx
      go_wp2_with fail
      refine ⟨⟨i + 1, (u + x) / 256, by omega, by go_num, by rw [show ((u : Int) + x) / 256 = (((u + x) / 256 : Nat) : Int) by omega], hs.out, k1.other (by simp; omega) _, k2.other (by simp; omega) _, ?_, kb.setCell (by simp; omega) _⟩, by simp [intOf]; omega⟩
      have := k3.set i (.int .i64 (((u : Int) + x) % 256))
      rw [e9.out, ens_set, hset.out] at this
      rw [e9.out]
      exact this
    · obtain rfl : i = 17 := by omega
      rw [hall.out] at k3
      have g16 := ens_get g16.out
      have hcel := k3.cell g16
      have hfro := k3.frozen 16
      replace g16 := Lib.hid g16
      replace hu := Lib.hid hu
      by_cases hlp : W < P
      · have iq : (q : Int) < 4 := by have := hq1.out hlp; omega
        have hlo := hlow.out hlp
        subst hlo
        go_wp2_with (first | (refine wpList_load_arr2 rfl _ _ rfl _ rfl (by kernel_rfl) _ k1 (by rw [ens_digs_len]; kernel_rfl) ?_) | (refine wpList_store_arr rfl _ _ _ rfl _ _ rfl rfl _ k2 (by rw [ens_digs_len]; kernel_rfl) (by rw [ens_digs_len]; rfl) (ens_one _) ?_))
        exact bodyPost_ret (results_arr2 Try.results14 _ _ _ rfl (by kernel_rfl) _ (k2.setRow _) (by rw [ens_digs_len]; kernel_rfl)) rfl ⟨rfl, below_setRow kb (by omega) _⟩
      · have iq : ¬ (q : Int) < 4 := by have := hq2.out hlp; omega
        have iq2 : (4 : Int) ≤ (q : Int) := by omega
        have iw1 : IntKind.i64.wrap ((q : Int) - 4) = (q : Int) - 4 := i64_in (by omega)
        have hle := hless.out hlp
        replace hle := Lib.hid hle
        go_upto_region 12 with fail
        have k3 : Arr (wr.setCell ⟨g_k3, 16, none⟩ (.int .i64 ((q : Int) - 4))) g_k3 (ens (digs 256 17 m)) := by
          have := k3.set 16 (.int .i64 ((q - 4 : Nat) : Int))
          rw [ens_set, hle.out, show ((q - 4 : Nat) : Int) = (q : Int) - 4 by omega] at this
          exact this
        have k2 := k2.other (a := ⟨g_k3, 16, none⟩) (by simp; omega) (.int .i64 ((q : Int) - 4))
        have kb := kb.setCell (p := ⟨g_k3, 16, none⟩) (by simp; omega) (.int .i64 ((q : Int) - 4))
        generalize wr.setCell ⟨g_k3, 16, none⟩ (.int .i64 ((q : Int) - 4)) = w3 at *
        clear hcel hfro
        go_wp2_with (first | (refine wpList_load_arr2 rfl _ _ rfl _ rfl (by kernel_rfl) _ k3 (by rw [ens_digs_len]; kernel_rfl) ?_) | (refine wpList_store_arr rfl _ _ _ rfl _ _ rfl rfl _ k2 (by rw [ens_digs_len]; kernel_rfl) (by rw [ens_digs_len]; rfl) (ens_one _) ?_))
        exact bodyPost_ret (results_arr2 Try.results14 _ _ _ rfl (by kernel_rfl) _ (k2.setRow _) (by rw [ens_digs_len]; kernel_rfl)) rfl ⟨rfl, below_setRow kb (by omega) _⟩

end Go.Proofs.Ytfljonglibpgcaa
