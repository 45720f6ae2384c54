/- Field laws: the walk of FieldSquares. -/
import Derived.Test.YtdggikbaemigbaaFl4
namespace Go.Proofs.Ytdggikbaemigbaa
open Go.RowKit

theorem byts_fill (k : Nat) (hk : k < 32) : (byts (256 ^ k - 1)).set k (.int .u8 255) = byts (256 ^ (k + 1) - 1) := by
  have hp : 0 < 256 ^ k := Nat.pow_pos (by decide)
  have hle : 256 ^ k ≤ 256 ^ 32 := Nat.pow_le_pow_right (by decide) (by omega)
  refine byts_set (v := 255) hk (by omega) (by decide) ?_
  rw [Nat.div_eq_of_lt (by omega), Nat.pow_succ]
  omega

def rokN (a : Nat) : Bool := Nt.rtok pN eN iN a
theorem rok_iff {a : Nat} (ha : a < pN) (h0 : a ≠ 0) : rokN a = true ↔ a ^ hN % pN = 1 := Nt.rtok_iff pN_prime pN_odd hN_two eN_four iN_sq ha h0
theorem half_or {a : Nat} (ha : a < pN) (h0 : a ≠ 0) : a ^ hN % pN = 1 ∨ a ^ hN % pN = pN - 1 := Nt.half_cases pN_prime hN_two (by rw [Nat.mod_eq_of_lt ha]; exact h0)
theorem mul_ne {a b : Nat} (ha : a < pN) (hb : b < pN) (a0 : a ≠ 0) (b0 : b ≠ 0) : a * b % pN ≠ 0 := by
  intro h
  rcases pN_prime.dvd_mul (Nat.dvd_of_mod_eq_zero h) with h1 | h1
  · exact a0 (Nat.eq_zero_of_dvd_of_lt h1 ha)
  · exact b0 (Nat.eq_zero_of_dvd_of_lt h1 hb)
theorem rok_false {a : Nat} (ha : a < pN) (h0 : a ≠ 0) : rokN a = false ↔ a ^ hN % pN = pN - 1 := by
  have h1 := rok_iff ha h0
  have hp : 1 ≠ pN - 1 := by decide
  constructor
  · intro h
    rcases half_or ha h0 with h2 | h2
    · rw [h1.2 h2] at h; cases h
    · exact h2
  · intro h
    cases hk : rokN a
    · rfl
    · rw [h1.1 hk] at h; exact absurd h hp
theorem rok_mul {a b : Nat} (ha : a < pN) (hb : b < pN) (a0 : a ≠ 0) (b0 : b ≠ 0) : rokN (a * b % pN) = (rokN a == rokN b) := by
  have hm : a * b % pN < pN := Nat.mod_lt _ pN_pos
  have hh := Nt.half_mul (p := pN) (h := hN) a b
  have hp1 : 1 % pN = 1 := by decide
  have hp2 : (pN - 1) % pN = pN - 1 := by decide
  have hp3 : (pN - 1) * (pN - 1) % pN = 1 := by decide
  cases h1 : rokN a <;> cases h2 : rokN b
  · rw [(rok_false ha a0).1 h1, (rok_false hb b0).1 h2, hp3] at hh
    exact (rok_iff hm (mul_ne ha hb a0 b0)).2 hh
  · rw [(rok_false ha a0).1 h1, (rok_iff hb b0).1 h2, Nat.mul_one, hp2] at hh
    exact (rok_false hm (mul_ne ha hb a0 b0)).2 hh
  · rw [(rok_iff ha a0).1 h1, (rok_false hb b0).1 h2, Nat.one_mul, hp2] at hh
    exact (rok_false hm (mul_ne ha hb a0 b0)).2 hh
  · rw [(rok_iff ha a0).1 h1, (rok_iff hb b0).1 h2, Nat.one_mul, hp1] at hh
    exact (rok_iff hm (mul_ne ha hb a0 b0)).2 hh

theorem froot_r {a c v : Nat} {b : Bool} (hc : Hid (a % pN = c)) (hb : Hid (rokN c = b)) (hv : Hid (Nt.rtv pN eN iN c = v)) (ha : a < 256 ^ 32) (w : World) :
    Calls Try.prog 51 #[.agg (byts a).toArray] w fun e w' => e = .returned (.tuple #[.agg (byts v).toArray, .bool b]) ∧ Below w.heap.size w w' := by
  have := froot_any a ha w
  rw [hc.out, hv.out, show Nt.rtok pN eN iN c = b from hb.out] at this
  exact this

theorem h_lt : hN < 256 ^ 32 := by decide
theorem set_h1 : (byts (256 ^ 32 - 1)).set 0 (.int .u8 246) = byts (256 ^ 32 - 10) := byts_set (v := 246) (by decide) (by decide) (by decide) (by decide)
theorem set_h2 : (byts (256 ^ 32 - 10)).set 31 (.int .u8 63) = byts hN := byts_set (v := 63) (by decide) (by decide) (by decide) (by decide)

set_option maxHeartbeats 4000000 in
set_option maxRecDepth 100000 in
theorem fsquares_any (a b : Nat) (w : World) (ha : a < 256 ^ 32) (hb : b < 256 ^ 32) :
    Calls Try.prog 18 #[.agg (byts a).toArray, .agg (byts b).toArray] w fun e w' => e = .returned (.bool true) ∧ Below w.heap.size w w' := by
  obtain ⟨c, hc⟩ : ∃ r, a % pN = r := ⟨_, rfl⟩
  obtain ⟨d, hd⟩ : ∃ r, b % pN = r := ⟨_, rfl⟩
  obtain ⟨m, hm⟩ : ∃ r, a * b % pN = r := ⟨_, rfl⟩
  have hmm : m % pN = m := by rw [← hm, Nat.mod_mod]
  have hcm : c * d % pN = m := by rw [← hc, ← hd, ← Nat.mul_mod, hm]
  obtain ⟨u, hu⟩ : ∃ r, a ^ hN % pN = r := ⟨_, rfl⟩
  have huc : c ^ hN % pN = u := by rw [← hc, ← Nat.pow_mod, hu]
  have lcp : c < pN := hc ▸ Nat.mod_lt _ pN_pos
  have ldp : d < pN := hd ▸ Nat.mod_lt _ pN_pos
  have lc : c < 256 ^ 32 := hc ▸ p_lt32 _
  have ld : d < 256 ^ 32 := hd ▸ p_lt32 _
  have lm : m < 256 ^ 32 := hm ▸ p_lt32 _
  have lu : u < 256 ^ 32 := hu ▸ p_lt32 _
  obtain ⟨B1, hB1⟩ : ∃ r, rokN c = r := ⟨_, rfl⟩
  obtain ⟨B2, hB2⟩ : ∃ r, rokN d = r := ⟨_, rfl⟩
  obtain ⟨B3, hB3⟩ : ∃ r, rokN m = r := ⟨_, rfl⟩
  obtain ⟨v1, hv1⟩ : ∃ r, Nt.rtv pN eN iN c = r := ⟨_, rfl⟩
  obtain ⟨v2, hv2⟩ : ∃ r, Nt.rtv pN eN iN d = r := ⟨_, rfl⟩
  obtain ⟨v3, hv3⟩ : ∃ r, Nt.rtv pN eN iN m = r := ⟨_, rfl⟩
  have law : c ≠ 0 → d ≠ 0 → B3 = (B1 == B2) ∧ (B1 = true → u = 1) ∧ (B1 = false → u = pN - 1) := by
    intro c0 d0
    refine ⟨by rw [← hB1, ← hB2, ← rok_mul lcp ldp c0 d0, hcm, hB3], fun h => ?_, fun h => ?_⟩
    · rw [← huc]; exact (rok_iff lcp c0).1 (hB1.trans h)
    · rw [← huc]; exact (rok_false lcp c0).1 (hB1.trans h)
  have hsub : (pN - 1 % pN) % pN = pN - 1 := by decide
  have c1 := Lib.hid (fun w => froot_r (Lib.hid hc) (Lib.hid hB1) (Lib.hid hv1) ha w)
  have c2 := Lib.hid (fun w => froot_r (Lib.hid hd) (Lib.hid hB2) (Lib.hid hv2) hb w)
  have c3 := Lib.hid (fun w => froot_r (Lib.hid hmm) (Lib.hid hB3) (Lib.hid hv3) lm w)
  replace hc := Lib.hid hc
  replace hd := Lib.hid hd
  replace hm := Lib.hid hm
  replace hu := Lib.hid hu
  replace hsub := Lib.hid hsub
  have qc := Lib.hid (fun b h => eq_num0 (m := c) (b := b) h lc)
  have qd := Lib.hid (fun b h => eq_num0 (m := d) (b := b) h ld)
  have cs := Lib.hid (fun w => fsmall_any 1 (by decide) w)
  clear hmm hcm huc lcp ldp hB1 hB2 hB3 hv1 hv2 hv3
  go_enter Try.func18, Try.ntmps18
  go_upto_region 1 with fail
  refine wp_new2 (fun W hsz k1 k2 kb => ?_)
  go_upto_region 1 with (first | (refine wpList_load_arr2 rfl _ _ rfl _ rfl (by kernel_rfl) _ (by assumption) (by first | (rw [lims_len]; kernel_rfl) | (rw [byts_len]; kernel_rfl) | (rw [us_len]; kernel_rfl) | kernel_rfl) ?_) | (refine wpList_store_arr rfl _ _ _ rfl _ _ rfl rfl _ (by first | assumption | exact Arr.new _ _ _) (by first | (rw [lims_len]; kernel_rfl) | (rw [byts_len]; kernel_rfl) | (rw [us_len]; kernel_rfl) | kernel_rfl) (by first | (rw [lims_len, lims_len]) | (rw [byts_len, byts_len]) | (rw [lims_len]; rfl) | (rw [byts_len]; rfl) | (rw [us_len, us_len]; rfl) | rfl) (by first | exact lims_one _ _ | exact byts_one _ | exact us_one _ | (intro v hv; simp at hv; rcases hv with rfl | rfl | rfl | rfl <;> rfl)) ?_))
  go_wp2_with (first | (refine wpList_load_arr2 rfl _ _ rfl _ rfl (by kernel_rfl) _ (by assumption) (by first | (rw [lims_len]; kernel_rfl) | (rw [byts_len]; kernel_rfl) | (rw [us_len]; kernel_rfl) | kernel_rfl) ?_) | (refine wpList_store_arr rfl _ _ _ rfl _ _ rfl rfl _ (by first | assumption | exact Arr.new _ _ _) (by first | (rw [lims_len]; kernel_rfl) | (rw [byts_len]; kernel_rfl) | (rw [us_len]; kernel_rfl) | kernel_rfl) (by first | (rw [lims_len, lims_len]) | (rw [byts_len, byts_len]) | (rw [lims_len]; rfl) | (rw [byts_len]; rfl) | (rw [us_len, us_len]; rfl) | rfl) (by first | exact lims_one _ _ | exact byts_one _ | exact us_one _ | (intro v hv; simp at hv; rcases hv with rfl | rfl | rfl | rfl <;> rfl)) ?_))
  refine (alive3_any _).mono ?_
  rintro e w_1 ⟨rfl, hb_1⟩
  have k1 := k1.below hb_1
  have k2 := k2.below hb_1
  have kb := bel kb hb_1
  clear hb_1
  have lt1 := k1.lt
  have lt2 := k2.lt
  go_upto_region 3 with (first | (refine wpList_load_arr2 rfl _ _ rfl _ rfl (by kernel_rfl) _ (by assumption) (by first | (rw [lims_len]; kernel_rfl) | (rw [byts_len]; kernel_rfl) | (rw [us_len]; kernel_rfl) | kernel_rfl) ?_) | (refine wpList_store_arr rfl _ _ _ rfl _ _ rfl rfl _ (by first | assumption | exact Arr.new _ _ _) (by first | (rw [lims_len]; kernel_rfl) | (rw [byts_len]; kernel_rfl) | (rw [us_len]; kernel_rfl) | kernel_rfl) (by first | (rw [lims_len, lims_len]) | (rw [byts_len, byts_len]) | (rw [lims_len]; rfl) | (rw [byts_len]; rfl) | (rw [us_len, us_len]; rfl) | rfl) (by first | exact lims_one _ _ | exact byts_one _ | exact us_one _ | (intro v hv; simp at hv; rcases hv with rfl | rfl | rfl | rfl <;> rfl)) ?_))
  refine wp_new1 (fun w9 hsz9 k6 hb9 => ?_)
  have k1 := k1.below hb9
  have k2 := k2.below hb9
  have kb := bel kb hb9
  generalize (w_1).heap.size = g at k6 lt1 lt2 ⊢
  have k6 : Arr w9 g (byts 0) := k6
  clear hsz hsz9 hb9
  go_wp2_with fail
  go_loopw [7] (fun kv wr => ∃ k : Nat, k ≤ 32 ∧ kv = .int .i64 k ∧ Arr wr w.heap.size (byts a) ∧ Arr wr (w.heap.size + 1) (byts b) ∧ Arr wr g (byts (256 ^ k - 1)) ∧ Below w.heap.size w wr) (fun kv _ => 32 - (intOf kv).toNat)
  case atStart => exact ⟨0, Nat.zero_le _, rfl, k1, k2, k6, kb⟩
  case round =>
    clear k1 k2 k6 kb
    obtain ⟨k, hk, rfl, k1, k2, k6, kb⟩ := hrel
    by_cases hlt : k < 32
    · have hcell := k6.cell (byts_get _ k hlt)
      have hfr := k6.frozen k
      go_wp2_with fail
      refine ⟨⟨k + 1, by omega, by go_num, k1.other (by simp; omega) _, k2.other (by simp; omega) _, ?_, kb.setCell (by simp; omega) _⟩, by simp [intOf]; omega⟩
      rw [← byts_fill k hlt]
      exact k6.set k _
    · obtain rfl : k = 32 := by omega
      have hcell := k6.cell (byts_get _ 0 (by decide))
      have hfr := k6.frozen 0
      go_upto_region 8 with fail
      refine code_cell k6 (fun w6 k6 hoth hbel => ?_)
      rw [set_h1] at k6
      have k1 := hoth _ _ (by omega) k1
      have k2 := hoth _ _ (by omega) k2
      have kb := hbel _ _ (by omega) kb
      clear hoth hbel hcell hfr
      have hcell := k6.cell (byts_get _ 31 (by decide))
      have hfr := k6.frozen 31
      go_upto_region 9 with fail
      refine code_cell k6 (fun w7 k6 hoth hbel => ?_)
      rw [set_h2] at k6
      have k1 := hoth _ _ (by omega) k1
      have k2 := hoth _ _ (by omega) k2
      have kb := hbel _ _ (by omega) kb
      clear hoth hbel hcell hfr
      go_upto_region 9 with (first | (refine wpList_load_arr2 rfl _ _ rfl _ rfl (by kernel_rfl) _ (by assumption) (by first | (rw [lims_len]; kernel_rfl) | (rw [byts_len]; kernel_rfl) | (rw [us_len]; kernel_rfl) | kernel_rfl) ?_) | (refine wpList_store_arr rfl _ _ _ rfl _ _ rfl rfl _ (by first | assumption | exact Arr.new _ _ _) (by first | (rw [lims_len]; kernel_rfl) | (rw [byts_len]; kernel_rfl) | (rw [us_len]; kernel_rfl) | kernel_rfl) (by first | (rw [lims_len, lims_len]) | (rw [byts_len, byts_len]) | (rw [lims_len]; rfl) | (rw [byts_len]; rfl) | (rw [us_len, us_len]; rfl) | rfl) (by first | exact lims_one _ _ | exact byts_one _ | exact us_one _ | (intro v hv; simp at hv; rcases hv with rfl | rfl | rfl | rfl <;> rfl)) ?_))
      go_wp2_with (first | (refine wpList_load_arr2 rfl _ _ rfl _ rfl (by kernel_rfl) _ (by assumption) (by first | (rw [lims_len]; kernel_rfl) | (rw [byts_len]; kernel_rfl) | (rw [us_len]; kernel_rfl) | kernel_rfl) ?_) | (refine wpList_store_arr rfl _ _ _ rfl _ _ rfl rfl _ (by first | assumption | exact Arr.new _ _ _) (by first | (rw [lims_len]; kernel_rfl) | (rw [byts_len]; kernel_rfl) | (rw [us_len]; kernel_rfl) | kernel_rfl) (by first | (rw [lims_len, lims_len]) | (rw [byts_len, byts_len]) | (rw [lims_len]; rfl) | (rw [byts_len]; rfl) | (rw [us_len, us_len]; rfl) | rfl) (by first | exact lims_one _ _ | exact byts_one _ | exact us_one _ | (intro v hv; simp at hv; rcases hv with rfl | rfl | rfl | rfl <;> rfl)) ?_))
      refine (c1.out _).mono ?_
      rintro e w_2 ⟨rfl, hb_2⟩
      have k1 := k1.below hb_2
      have k2 := k2.below hb_2
      have k6 := k6.below hb_2
      have kb := bel kb hb_2
      clear hb_2
      go_upto_region 10 with (first | (refine wpList_load_arr2 rfl _ _ rfl _ rfl (by kernel_rfl) _ (by assumption) (by first | (rw [lims_len]; kernel_rfl) | (rw [byts_len]; kernel_rfl) | (rw [us_len]; kernel_rfl) | kernel_rfl) ?_) | (refine wpList_store_arr rfl _ _ _ rfl _ _ rfl rfl _ (by first | assumption | exact Arr.new _ _ _) (by first | (rw [lims_len]; kernel_rfl) | (rw [byts_len]; kernel_rfl) | (rw [us_len]; kernel_rfl) | kernel_rfl) (by first | (rw [lims_len, lims_len]) | (rw [byts_len, byts_len]) | (rw [lims_len]; rfl) | (rw [byts_len]; rfl) | (rw [us_len, us_len]; rfl) | rfl) (by first | exact lims_one _ _ | exact byts_one _ | exact us_one _ | (intro v hv; simp at hv; rcases hv with rfl | rfl | rfl | rfl <;> rfl)) ?_))
      have hg_k8_k1 := k1.lt
      have hg_k8_k2 := k2.lt
      have hg_k8_k6 := k6.lt
      refine code_new (fun w_3 k8 hnew => ?_)
      have k1 := k1.below hnew
      have k2 := k2.below hnew
      have k6 := k6.below hnew
      have kb := bel kb hnew
      clear hnew
      generalize (w_2).heap.size = g_k8 at k8 hg_k8_k1 hg_k8_k2 hg_k8_k6 ⊢
      go_upto_region 10 with (first | (refine wpList_load_arr2 rfl _ _ rfl _ rfl (by kernel_rfl) _ (by assumption) (by first | (rw [lims_len]; kernel_rfl) | (rw [byts_len]; kernel_rfl) | (rw [us_len]; kernel_rfl) | kernel_rfl) ?_) | (refine wpList_store_arr rfl _ _ _ rfl _ _ rfl rfl _ (by first | assumption | exact Arr.new _ _ _) (by first | (rw [lims_len]; kernel_rfl) | (rw [byts_len]; kernel_rfl) | (rw [us_len]; kernel_rfl) | kernel_rfl) (by first | (rw [lims_len, lims_len]) | (rw [byts_len, byts_len]) | (rw [lims_len]; rfl) | (rw [byts_len]; rfl) | (rw [us_len, us_len]; rfl) | rfl) (by first | exact lims_one _ _ | exact byts_one _ | exact us_one _ | (intro v hv; simp at hv; rcases hv with rfl | rfl | rfl | rfl <;> rfl)) ?_))
      go_wp2_with (first | (refine wpList_load_arr2 rfl _ _ rfl _ rfl (by kernel_rfl) _ (by assumption) (by first | (rw [lims_len]; kernel_rfl) | (rw [byts_len]; kernel_rfl) | (rw [us_len]; kernel_rfl) | kernel_rfl) ?_) | (refine wpList_store_arr rfl _ _ _ rfl _ _ rfl rfl _ (by first | assumption | exact Arr.new _ _ _) (by first | (rw [lims_len]; kernel_rfl) | (rw [byts_len]; kernel_rfl) | (rw [us_len]; kernel_rfl) | kernel_rfl) (by first | (rw [lims_len, lims_len]) | (rw [byts_len, byts_len]) | (rw [lims_len]; rfl) | (rw [byts_len]; rfl) | (rw [us_len, us_len]; rfl) | rfl) (by first | exact lims_one _ _ | exact byts_one _ | exact us_one _ | (intro v hv; simp at hv; rcases hv with rfl | rfl | rfl | rfl <;> rfl)) ?_))
      refine (c2.out _).mono ?_
      rintro e w_4 ⟨rfl, hb_4⟩
      have k1 := k1.below hb_4
      have k2 := k2.below hb_4
      have k6 := k6.below hb_4
      have kb := bel kb hb_4
      clear hb_4
      go_upto_region 11 with (first | (refine wpList_load_arr2 rfl _ _ rfl _ rfl (by kernel_rfl) _ (by assumption) (by first | (rw [lims_len]; kernel_rfl) | (rw [byts_len]; kernel_rfl) | (rw [us_len]; kernel_rfl) | kernel_rfl) ?_) | (refine wpList_store_arr rfl _ _ _ rfl _ _ rfl rfl _ (by first | assumption | exact Arr.new _ _ _) (by first | (rw [lims_len]; kernel_rfl) | (rw [byts_len]; kernel_rfl) | (rw [us_len]; kernel_rfl) | kernel_rfl) (by first | (rw [lims_len, lims_len]) | (rw [byts_len, byts_len]) | (rw [lims_len]; rfl) | (rw [byts_len]; rfl) | (rw [us_len, us_len]; rfl) | rfl) (by first | exact lims_one _ _ | exact byts_one _ | exact us_one _ | (intro v hv; simp at hv; rcases hv with rfl | rfl | rfl | rfl <;> rfl)) ?_))
      have hg_k10_k1 := k1.lt
      have hg_k10_k2 := k2.lt
      have hg_k10_k6 := k6.lt
      refine code_new (fun w_5 k10 hnew => ?_)
      have k1 := k1.below hnew
      have k2 := k2.below hnew
      have k6 := k6.below hnew
      have kb := bel kb hnew
      clear hnew
      generalize (w_4).heap.size = g_k10 at k10 hg_k10_k1 hg_k10_k2 hg_k10_k6 ⊢
      go_upto_region 11 with (first | (refine wpList_load_arr2 rfl _ _ rfl _ rfl (by kernel_rfl) _ (by assumption) (by first | (rw [lims_len]; kernel_rfl) | (rw [byts_len]; kernel_rfl) | (rw [us_len]; kernel_rfl) | kernel_rfl) ?_) | (refine wpList_store_arr rfl _ _ _ rfl _ _ rfl rfl _ (by first | assumption | exact Arr.new _ _ _) (by first | (rw [lims_len]; kernel_rfl) | (rw [byts_len]; kernel_rfl) | (rw [us_len]; kernel_rfl) | kernel_rfl) (by first | (rw [lims_len, lims_len]) | (rw [byts_len, byts_len]) | (rw [lims_len]; rfl) | (rw [byts_len]; rfl) | (rw [us_len, us_len]; rfl) | rfl) (by first | exact lims_one _ _ | exact byts_one _ | exact us_one _ | (intro v hv; simp at hv; rcases hv with rfl | rfl | rfl | rfl <;> rfl)) ?_))
      go_wp2_with (first | (refine wpList_load_arr2 rfl _ _ rfl _ rfl (by kernel_rfl) _ (by assumption) (by first | (rw [lims_len]; kernel_rfl) | (rw [byts_len]; kernel_rfl) | (rw [us_len]; kernel_rfl) | kernel_rfl) ?_) | (refine wpList_store_arr rfl _ _ _ rfl _ _ rfl rfl _ (by first | assumption | exact Arr.new _ _ _) (by first | (rw [lims_len]; kernel_rfl) | (rw [byts_len]; kernel_rfl) | (rw [us_len]; kernel_rfl) | kernel_rfl) (by first | (rw [lims_len, lims_len]) | (rw [byts_len, byts_len]) | (rw [lims_len]; rfl) | (rw [byts_len]; rfl) | (rw [us_len, us_len]; rfl) | rfl) (by first | exact lims_one _ _ | exact byts_one _ | exact us_one _ | (intro v hv; simp at hv; rcases hv with rfl | rfl | rfl | rfl <;> rfl)) ?_))
      refine (fmul_r hm ha hb _).mono ?_
      rintro e w_6 ⟨rfl, hb_6⟩
      have k1 := k1.below hb_6
      have k2 := k2.below hb_6
      have k6 := k6.below hb_6
      have kb := bel kb hb_6
      clear hb_6
      go_wp2_with (first | (refine wpList_load_arr2 rfl _ _ rfl _ rfl (by kernel_rfl) _ (by assumption) (by first | (rw [lims_len]; kernel_rfl) | (rw [byts_len]; kernel_rfl) | (rw [us_len]; kernel_rfl) | kernel_rfl) ?_) | (refine wpList_store_arr rfl _ _ _ rfl _ _ rfl rfl _ (by first | assumption | exact Arr.new _ _ _) (by first | (rw [lims_len]; kernel_rfl) | (rw [byts_len]; kernel_rfl) | (rw [us_len]; kernel_rfl) | kernel_rfl) (by first | (rw [lims_len, lims_len]) | (rw [byts_len, byts_len]) | (rw [lims_len]; rfl) | (rw [byts_len]; rfl) | (rw [us_len, us_len]; rfl) | rfl) (by first | exact lims_one _ _ | exact byts_one _ | exact us_one _ | (intro v hv; simp at hv; rcases hv with rfl | rfl | rfl | rfl <;> rfl)) ?_))
      refine (c3.out _).mono ?_
      rintro e w_7 ⟨rfl, hb_7⟩
      have k1 := k1.below hb_7
      have k2 := k2.below hb_7
      have k6 := k6.below hb_7
      have kb := bel kb hb_7
      clear hb_7
      go_upto_region 12 with (first | (refine wpList_load_arr2 rfl _ _ rfl _ rfl (by kernel_rfl) _ (by assumption) (by first | (rw [lims_len]; kernel_rfl) | (rw [byts_len]; kernel_rfl) | (rw [us_len]; kernel_rfl) | kernel_rfl) ?_) | (refine wpList_store_arr rfl _ _ _ rfl _ _ rfl rfl _ (by first | assumption | exact Arr.new _ _ _) (by first | (rw [lims_len]; kernel_rfl) | (rw [byts_len]; kernel_rfl) | (rw [us_len]; kernel_rfl) | kernel_rfl) (by first | (rw [lims_len, lims_len]) | (rw [byts_len, byts_len]) | (rw [lims_len]; rfl) | (rw [byts_len]; rfl) | (rw [us_len, us_len]; rfl) | rfl) (by first | exact lims_one _ _ | exact byts_one _ | exact us_one _ | (intro v hv; simp at hv; rcases hv with rfl | rfl | rfl | rfl <;> rfl)) ?_))
      have hg_k12_k1 := k1.lt
      have hg_k12_k2 := k2.lt
      have hg_k12_k6 := k6.lt
      refine code_new (fun w_8 k12 hnew => ?_)
      have k1 := k1.below hnew
      have k2 := k2.below hnew
      have k6 := k6.below hnew
      have kb := bel kb hnew
      clear hnew
      generalize (w_7).heap.size = g_k12 at k12 hg_k12_k1 hg_k12_k2 hg_k12_k6 ⊢
      go_upto_region 12 with (first | (refine wpList_load_arr2 rfl _ _ rfl _ rfl (by kernel_rfl) _ (by assumption) (by first | (rw [lims_len]; kernel_rfl) | (rw [byts_len]; kernel_rfl) | (rw [us_len]; kernel_rfl) | kernel_rfl) ?_) | (refine wpList_store_arr rfl _ _ _ rfl _ _ rfl rfl _ (by first | assumption | exact Arr.new _ _ _) (by first | (rw [lims_len]; kernel_rfl) | (rw [byts_len]; kernel_rfl) | (rw [us_len]; kernel_rfl) | kernel_rfl) (by first | (rw [lims_len, lims_len]) | (rw [byts_len, byts_len]) | (rw [lims_len]; rfl) | (rw [byts_len]; rfl) | (rw [us_len, us_len]; rfl) | rfl) (by first | exact lims_one _ _ | exact byts_one _ | exact us_one _ | (intro v hv; simp at hv; rcases hv with rfl | rfl | rfl | rfl <;> rfl)) ?_))
      go_wp2_with (first | (refine wpList_load_arr2 rfl _ _ rfl _ rfl (by kernel_rfl) _ (by assumption) (by first | (rw [lims_len]; kernel_rfl) | (rw [byts_len]; kernel_rfl) | (rw [us_len]; kernel_rfl) | kernel_rfl) ?_) | (refine wpList_store_arr rfl _ _ _ rfl _ _ rfl rfl _ (by first | assumption | exact Arr.new _ _ _) (by first | (rw [lims_len]; kernel_rfl) | (rw [byts_len]; kernel_rfl) | (rw [us_len]; kernel_rfl) | kernel_rfl) (by first | (rw [lims_len, lims_len]) | (rw [byts_len, byts_len]) | (rw [lims_len]; rfl) | (rw [byts_len]; rfl) | (rw [us_len, us_len]; rfl) | rfl) (by first | exact lims_one _ _ | exact byts_one _ | exact us_one _ | (intro v hv; simp at hv; rcases hv with rfl | rfl | rfl | rfl <;> rfl)) ?_))
      refine (fcanon_r hc ha _).mono ?_
      rintro e w_9 ⟨rfl, hb_9⟩
      have k1 := k1.below hb_9
      have k2 := k2.below hb_9
      have k6 := k6.below hb_9
      have kb := bel kb hb_9
      clear hb_9
      go_upto_region 13 with (first | (refine wpList_load_arr2 rfl _ _ rfl _ rfl (by kernel_rfl) _ (by assumption) (by first | (rw [lims_len]; kernel_rfl) | (rw [byts_len]; kernel_rfl) | (rw [us_len]; kernel_rfl) | kernel_rfl) ?_) | (refine wpList_store_arr rfl _ _ _ rfl _ _ rfl rfl _ (by first | assumption | exact Arr.new _ _ _) (by first | (rw [lims_len]; kernel_rfl) | (rw [byts_len]; kernel_rfl) | (rw [us_len]; kernel_rfl) | kernel_rfl) (by first | (rw [lims_len, lims_len]) | (rw [byts_len, byts_len]) | (rw [lims_len]; rfl) | (rw [byts_len]; rfl) | (rw [us_len, us_len]; rfl) | rfl) (by first | exact lims_one _ _ | exact byts_one _ | exact us_one _ | (intro v hv; simp at hv; rcases hv with rfl | rfl | rfl | rfl <;> rfl)) ?_))
      have hg_k14_k1 := k1.lt
      have hg_k14_k2 := k2.lt
      have hg_k14_k6 := k6.lt
      refine code_new (fun w_10 k14 hnew => ?_)
      have k1 := k1.below hnew
      have k2 := k2.below hnew
      have k6 := k6.below hnew
      have kb := bel kb hnew
      clear hnew
      generalize (w_9).heap.size = g_k14 at k14 hg_k14_k1 hg_k14_k2 hg_k14_k6 ⊢
      go_upto_region 13 with (first | (refine wpList_load_arr2 rfl _ _ rfl _ rfl (by kernel_rfl) _ (by assumption) (by first | (rw [lims_len]; kernel_rfl) | (rw [byts_len]; kernel_rfl) | (rw [us_len]; kernel_rfl) | kernel_rfl) ?_) | (refine wpList_store_arr rfl _ _ _ rfl _ _ rfl rfl _ (by first | assumption | exact Arr.new _ _ _) (by first | (rw [lims_len]; kernel_rfl) | (rw [byts_len]; kernel_rfl) | (rw [us_len]; kernel_rfl) | kernel_rfl) (by first | (rw [lims_len, lims_len]) | (rw [byts_len, byts_len]) | (rw [lims_len]; rfl) | (rw [byts_len]; rfl) | (rw [us_len, us_len]; rfl) | rfl) (by first | exact lims_one _ _ | exact byts_one _ | exact us_one _ | (intro v hv; simp at hv; rcases hv with rfl | rfl | rfl | rfl <;> rfl)) ?_))
      go_wp2_with (first | (refine wpList_load_arr2 rfl _ _ rfl _ rfl (by kernel_rfl) _ (by assumption) (by first | (rw [lims_len]; kernel_rfl) | (rw [byts_len]; kernel_rfl) | (rw [us_len]; kernel_rfl) | kernel_rfl) ?_) | (refine wpList_store_arr rfl _ _ _ rfl _ _ rfl rfl _ (by first | assumption | exact Arr.new _ _ _) (by first | (rw [lims_len]; kernel_rfl) | (rw [byts_len]; kernel_rfl) | (rw [us_len]; kernel_rfl) | kernel_rfl) (by first | (rw [lims_len, lims_len]) | (rw [byts_len, byts_len]) | (rw [lims_len]; rfl) | (rw [byts_len]; rfl) | (rw [us_len, us_len]; rfl) | rfl) (by first | exact lims_one _ _ | exact byts_one _ | exact us_one _ | (intro v hv; simp at hv; rcases hv with rfl | rfl | rfl | rfl <;> rfl)) ?_))
      refine (fcanon_r hd hb _).mono ?_
      rintro e w_11 ⟨rfl, hb_11⟩
      have k1 := k1.below hb_11
      have k2 := k2.below hb_11
      have k6 := k6.below hb_11
      have k14 := k14.below hb_11
      have kb := bel kb hb_11
      clear hb_11
      go_upto_region 14 with (first | (refine wpList_load_arr2 rfl _ _ rfl _ rfl (by kernel_rfl) _ (by assumption) (by first | (rw [lims_len]; kernel_rfl) | (rw [byts_len]; kernel_rfl) | (rw [us_len]; kernel_rfl) | kernel_rfl) ?_) | (refine wpList_store_arr rfl _ _ _ rfl _ _ rfl rfl _ (by first | assumption | exact Arr.new _ _ _) (by first | (rw [lims_len]; kernel_rfl) | (rw [byts_len]; kernel_rfl) | (rw [us_len]; kernel_rfl) | kernel_rfl) (by first | (rw [lims_len, lims_len]) | (rw [byts_len, byts_len]) | (rw [lims_len]; rfl) | (rw [byts_len]; rfl) | (rw [us_len, us_len]; rfl) | rfl) (by first | exact lims_one _ _ | exact byts_one _ | exact us_one _ | (intro v hv; simp at hv; rcases hv with rfl | rfl | rfl | rfl <;> rfl)) ?_))
      have hg_k15_k1 := k1.lt
      have hg_k15_k2 := k2.lt
      have hg_k15_k6 := k6.lt
      have hg_k15_k14 := k14.lt
      refine code_new (fun w_12 k15 hnew => ?_)
      have k1 := k1.below hnew
      have k2 := k2.below hnew
      have k6 := k6.below hnew
      have k14 := k14.below hnew
      have kb := bel kb hnew
      clear hnew
      generalize (w_11).heap.size = g_k15 at k15 hg_k15_k1 hg_k15_k2 hg_k15_k6 hg_k15_k14 ⊢
      go_upto_region 14 with (first | (refine wpList_load_arr2 rfl _ _ rfl _ rfl (by kernel_rfl) _ (by assumption) (by first | (rw [lims_len]; kernel_rfl) | (rw [byts_len]; kernel_rfl) | (rw [us_len]; kernel_rfl) | kernel_rfl) ?_) | (refine wpList_store_arr rfl _ _ _ rfl _ _ rfl rfl _ (by first | assumption | exact Arr.new _ _ _) (by first | (rw [lims_len]; kernel_rfl) | (rw [byts_len]; kernel_rfl) | (rw [us_len]; kernel_rfl) | kernel_rfl) (by first | (rw [lims_len, lims_len]) | (rw [byts_len, byts_len]) | (rw [lims_len]; rfl) | (rw [byts_len]; rfl) | (rw [us_len, us_len]; rfl) | rfl) (by first | exact lims_one _ _ | exact byts_one _ | exact us_one _ | (intro v hv; simp at hv; rcases hv with rfl | rfl | rfl | rfl <;> rfl)) ?_))
      go_wp2_with (first | (refine wpList_load_arr2 rfl _ _ rfl _ rfl (by kernel_rfl) _ (by assumption) (by first | (rw [lims_len]; kernel_rfl) | (rw [byts_len]; kernel_rfl) | (rw [us_len]; kernel_rfl) | kernel_rfl) ?_) | (refine wpList_store_arr rfl _ _ _ rfl _ _ rfl rfl _ (by first | assumption | exact Arr.new _ _ _) (by first | (rw [lims_len]; kernel_rfl) | (rw [byts_len]; kernel_rfl) | (rw [us_len]; kernel_rfl) | kernel_rfl) (by first | (rw [lims_len, lims_len]) | (rw [byts_len, byts_len]) | (rw [lims_len]; rfl) | (rw [byts_len]; rfl) | (rw [us_len, us_len]; rfl) | rfl) (by first | exact lims_one _ _ | exact byts_one _ | exact us_one _ | (intro v hv; simp at hv; rcases hv with rfl | rfl | rfl | rfl <;> rfl)) ?_))
      refine (fpow_r hu ha h_lt _).mono ?_
      rintro e w_13 ⟨rfl, hb_13⟩
      have k1 := k1.below hb_13
      have k2 := k2.below hb_13
      have k6 := k6.below hb_13
      have k14 := k14.below hb_13
      have k15 := k15.below hb_13
      have kb := bel kb hb_13
      clear hb_13
      go_upto_region 15 with (first | (refine wpList_load_arr2 rfl _ _ rfl _ rfl (by kernel_rfl) _ (by assumption) (by first | (rw [lims_len]; kernel_rfl) | (rw [byts_len]; kernel_rfl) | (rw [us_len]; kernel_rfl) | kernel_rfl) ?_) | (refine wpList_store_arr rfl _ _ _ rfl _ _ rfl rfl _ (by first | assumption | exact Arr.new _ _ _) (by first | (rw [lims_len]; kernel_rfl) | (rw [byts_len]; kernel_rfl) | (rw [us_len]; kernel_rfl) | kernel_rfl) (by first | (rw [lims_len, lims_len]) | (rw [byts_len, byts_len]) | (rw [lims_len]; rfl) | (rw [byts_len]; rfl) | (rw [us_len, us_len]; rfl) | rfl) (by first | exact lims_one _ _ | exact byts_one _ | exact us_one _ | (intro v hv; simp at hv; rcases hv with rfl | rfl | rfl | rfl <;> rfl)) ?_))
      have hg_k16_k1 := k1.lt
      have hg_k16_k2 := k2.lt
      have hg_k16_k6 := k6.lt
      have hg_k16_k14 := k14.lt
      have hg_k16_k15 := k15.lt
      refine code_new (fun w_14 k16 hnew => ?_)
      have k1 := k1.below hnew
      have k2 := k2.below hnew
      have k6 := k6.below hnew
      have k14 := k14.below hnew
      have k15 := k15.below hnew
      have kb := bel kb hnew
      clear hnew
      generalize (w_13).heap.size = g_k16 at k16 hg_k16_k1 hg_k16_k2 hg_k16_k6 hg_k16_k14 hg_k16_k15 ⊢
      clear k1 k2 k6 k8 k10 k12
      by_cases c0 : c = 0
      · have qc0 := qc.out true (decide_eq_true c0)
        subst c0
        clear law
        go_wp2_with (first | (refine wpList_load_arr2 rfl _ _ rfl _ rfl (by kernel_rfl) _ (by assumption) (by first | (rw [lims_len]; kernel_rfl) | (rw [byts_len]; kernel_rfl) | (rw [us_len]; kernel_rfl) | kernel_rfl) ?_))
        go_ret
        exact ⟨rfl, kb⟩
      have qc0 := qc.out false (decide_eq_false c0)
      by_cases d0 : d = 0
      · have qd0 := qd.out true (decide_eq_true d0)
        subst d0
        replace c0 := Lib.hid c0
        clear law
        go_wp2_with (first | (refine wpList_load_arr2 rfl _ _ rfl _ rfl (by kernel_rfl) _ (by assumption) (by first | (rw [lims_len]; kernel_rfl) | (rw [byts_len]; kernel_rfl) | (rw [us_len]; kernel_rfl) | kernel_rfl) ?_))
        go_ret
        exact ⟨rfl, kb⟩
      have qd0 := qd.out false (decide_eq_false d0)
      obtain ⟨l1, l2, l3⟩ := law c0 d0
      subst l1
      replace c0 := Lib.hid c0
      replace d0 := Lib.hid d0
      replace l2 := Lib.hid l2
      replace l3 := Lib.hid l3
      clear law
      go_upto_region 17 with (first | (refine wpList_load_arr2 rfl _ _ rfl _ rfl (by kernel_rfl) _ (by assumption) (by first | (rw [lims_len]; kernel_rfl) | (rw [byts_len]; kernel_rfl) | (rw [us_len]; kernel_rfl) | kernel_rfl) ?_))
      clear qc0 qd0
      have qu := Lib.hid (fun b h => eq_num (m := u) (n := 1) (b := b) h lu (by decide))
      cases B1
      · have hu1 := l3.out rfl
        subst hu1
        have q1 := Lib.hid (eq_num (m := pN - 1) (n := 1) (b := false) (by decide) lu (by decide))
        have q2 := Lib.hid (eq_num (m := pN - 1) (n := pN - 1) (b := true) (by decide) lu lu)
        clear l2 l3 qu
        cases B2
        ·
          go_upto_region 17 with (first | (refine wpList_load_arr2 rfl _ _ rfl _ rfl (by kernel_rfl) _ (by assumption) (by first | (rw [lims_len]; kernel_rfl) | (rw [byts_len]; kernel_rfl) | (rw [us_len]; kernel_rfl) | kernel_rfl) ?_) | (refine wpList_store_arr rfl _ _ _ rfl _ _ rfl rfl _ (by first | assumption | exact Arr.new _ _ _) (by first | (rw [lims_len]; kernel_rfl) | (rw [byts_len]; kernel_rfl) | (rw [us_len]; kernel_rfl) | kernel_rfl) (by first | (rw [lims_len, lims_len]) | (rw [byts_len, byts_len]) | (rw [lims_len]; rfl) | (rw [byts_len]; rfl) | (rw [us_len, us_len]; rfl) | rfl) (by first | exact lims_one _ _ | exact byts_one _ | exact us_one _ | (intro v hv; simp at hv; rcases hv with rfl | rfl | rfl | rfl <;> rfl)) ?_))
          refine Tx.start (fun w' => Below (w_14).heap.size (w_14) w') 9999 23 rfl (by kernel_rfl) ?_
          have hS_15 : Below (w_14).heap.size (w_14) (World.drew w_14) := (Below.refl _ _).drew
          refine Tx.seg (A := ?_) 21 3 (by kernel_rfl) (by exact hS_15) [0, 1] (by kernel_rfl) ?_ ?_
          rotate_left
          · intro w' hB
            have e0 := k16.below hB
            iterate 2 (first | (refine rd_skip rfl rfl ?_; simp only [Act.put, List.setIfInBounds_toArray, List.set_cons_zero, List.set_cons_succ]) | (refine rd_load_arr rfl rfl _ _ rfl _ rfl (by kernel_rfl) _ (by assumption) (by first | (rw [lims_len]; kernel_rfl) | (rw [byts_len]; kernel_rfl) | (rw [us_len]; kernel_rfl) | kernel_rfl) ?_; simp only [Act.put, List.setIfInBounds_toArray, List.set_cons_zero, List.set_cons_succ]) | (refine rd_take (v := ?_) rfl rfl ?_ ?_; rotate_left; (focus (go_simp; try (with_reducible rfl))); simp only [Act.put, List.setIfInBounds_toArray, List.set_cons_zero, List.set_cons_succ]))
            exact rd_nil
          refine Tx.eff 2 7 rfl (by decide +kernel) (fun K hK => ?_)
          go_simp
          refine (cs.out _).mono ?_
          rintro e w_16 ⟨rfl, hb_16⟩
          have hS_16 := ext_trans hS_15 (Nat.le_refl _) hb_16
          refine hK (fun w' => Below (w_14).heap.size (w_14) w') _ _ hS_16 (fun _ h => h) ?_
          clear hK K hb_16 hS_15
          try simp only [Act.put, List.setIfInBounds_toArray, List.set_cons_zero, List.set_cons_succ]
          refine Tx.seg (A := ?_) 13 1023 (by kernel_rfl) (by exact hS_16) [3, 4, 5, 6, 7, 8, 9] (by kernel_rfl) ?_ ?_
          rotate_left
          · intro w' hB
            have e0 := k16.below hB
            have q1 := q1.out w'
            iterate 7 (first | (refine rd_skip rfl rfl ?_; simp only [Act.put, List.setIfInBounds_toArray, List.set_cons_zero, List.set_cons_succ]) | (refine rd_load_arr rfl rfl _ _ rfl _ rfl (by kernel_rfl) _ (by assumption) (by first | (rw [lims_len]; kernel_rfl) | (rw [byts_len]; kernel_rfl) | (rw [us_len]; kernel_rfl) | kernel_rfl) ?_; simp only [Act.put, List.setIfInBounds_toArray, List.set_cons_zero, List.set_cons_succ]) | (refine rd_take (v := ?_) rfl rfl ?_ ?_; rotate_left; (focus (go_simp; try (with_reducible rfl))); simp only [Act.put, List.setIfInBounds_toArray, List.set_cons_zero, List.set_cons_succ]))
            exact rd_nil
          refine Tx.eff 10 2047 rfl (by decide +kernel) (fun K hK => ?_)
          go_simp
          refine (cs.out _).mono ?_
          rintro e w_17 ⟨rfl, hb_17⟩
          have hS_17 := ext_trans hS_16 (Nat.le_refl _) hb_17
          refine hK (fun w' => Below (w_14).heap.size (w_14) w') _ _ hS_17 (fun _ h => h) ?_
          clear hK K hb_17 hS_16
          try simp only [Act.put, List.setIfInBounds_toArray, List.set_cons_zero, List.set_cons_succ]
          refine Tx.eff 11 4095 rfl (by decide +kernel) (fun K hK => ?_)
          go_simp
          refine (fsub0_r hsub (by decide) _).mono ?_
          rintro e w_18 ⟨rfl, hb_18⟩
          have hS_18 := ext_trans hS_17 (Nat.le_refl _) hb_18
          refine hK (fun w' => Below (w_14).heap.size (w_14) w') _ _ hS_18 (fun _ h => h) ?_
          clear hK K hb_18 hS_17
          try simp only [Act.put, List.setIfInBounds_toArray, List.set_cons_zero, List.set_cons_succ]
          refine Tx.seg (A := ?_) 0 8388607 (by kernel_rfl) (by exact hS_18) [12, 13, 14, 15, 16, 17, 18, 19, 20, 21, 22] (by kernel_rfl) ?_ ?_
          rotate_left
          · intro w' hB
            have q3 := q2.out w'
            iterate 11 (first | (refine rd_skip rfl rfl ?_; simp only [Act.put, List.setIfInBounds_toArray, List.set_cons_zero, List.set_cons_succ]) | (refine rd_load_arr rfl rfl _ _ rfl _ rfl (by kernel_rfl) _ (by assumption) (by first | (rw [lims_len]; kernel_rfl) | (rw [byts_len]; kernel_rfl) | (rw [us_len]; kernel_rfl) | kernel_rfl) ?_; simp only [Act.put, List.setIfInBounds_toArray, List.set_cons_zero, List.set_cons_succ]) | (refine rd_take (v := ?_) rfl rfl ?_ ?_; rotate_left; (focus (go_simp; try (with_reducible rfl))); simp only [Act.put, List.setIfInBounds_toArray, List.set_cons_zero, List.set_cons_succ]))
            exact rd_nil
          refine Tx.done (by kernel_rfl) ?_
          have k16 := k16.below hS_18
          have kb := bel kb hS_18
          clear hS_18
          go_wp2_with fail
          go_ret
          exact ⟨rfl, kb⟩
        ·
          go_upto_region 17 with (first | (refine wpList_load_arr2 rfl _ _ rfl _ rfl (by kernel_rfl) _ (by assumption) (by first | (rw [lims_len]; kernel_rfl) | (rw [byts_len]; kernel_rfl) | (rw [us_len]; kernel_rfl) | kernel_rfl) ?_) | (refine wpList_store_arr rfl _ _ _ rfl _ _ rfl rfl _ (by first | assumption | exact Arr.new _ _ _) (by first | (rw [lims_len]; kernel_rfl) | (rw [byts_len]; kernel_rfl) | (rw [us_len]; kernel_rfl) | kernel_rfl) (by first | (rw [lims_len, lims_len]) | (rw [byts_len, byts_len]) | (rw [lims_len]; rfl) | (rw [byts_len]; rfl) | (rw [us_len, us_len]; rfl) | rfl) (by first | exact lims_one _ _ | exact byts_one _ | exact us_one _ | (intro v hv; simp at hv; rcases hv with rfl | rfl | rfl | rfl <;> rfl)) ?_))
          refine Tx.start (fun w' => Below (w_14).heap.size (w_14) w') 9999 23 rfl (by kernel_rfl) ?_
          have hS_19 : Below (w_14).heap.size (w_14) (World.drew w_14) := (Below.refl _ _).drew
          refine Tx.seg (A := ?_) 21 3 (by kernel_rfl) (by exact hS_19) [0, 1] (by kernel_rfl) ?_ ?_
          rotate_left
          · intro w' hB
            have e0 := k16.below hB
            iterate 2 (first | (refine rd_skip rfl rfl ?_; simp only [Act.put, List.setIfInBounds_toArray, List.set_cons_zero, List.set_cons_succ]) | (refine rd_load_arr rfl rfl _ _ rfl _ rfl (by kernel_rfl) _ (by assumption) (by first | (rw [lims_len]; kernel_rfl) | (rw [byts_len]; kernel_rfl) | (rw [us_len]; kernel_rfl) | kernel_rfl) ?_; simp only [Act.put, List.setIfInBounds_toArray, List.set_cons_zero, List.set_cons_succ]) | (refine rd_take (v := ?_) rfl rfl ?_ ?_; rotate_left; (focus (go_simp; try (with_reducible rfl))); simp only [Act.put, List.setIfInBounds_toArray, List.set_cons_zero, List.set_cons_succ]))
            exact rd_nil
          refine Tx.eff 2 7 rfl (by decide +kernel) (fun K hK => ?_)
          go_simp
          refine (cs.out _).mono ?_
          rintro e w_20 ⟨rfl, hb_20⟩
          have hS_20 := ext_trans hS_19 (Nat.le_refl _) hb_20
          refine hK (fun w' => Below (w_14).heap.size (w_14) w') _ _ hS_20 (fun _ h => h) ?_
          clear hK K hb_20 hS_19
          try simp only [Act.put, List.setIfInBounds_toArray, List.set_cons_zero, List.set_cons_succ]
          refine Tx.seg (A := ?_) 13 1023 (by kernel_rfl) (by exact hS_20) [3, 4, 5, 6, 7, 8, 9] (by kernel_rfl) ?_ ?_
          rotate_left
          · intro w' hB
            have e0 := k16.below hB
            have q1 := q1.out w'
            iterate 7 (first | (refine rd_skip rfl rfl ?_; simp only [Act.put, List.setIfInBounds_toArray, List.set_cons_zero, List.set_cons_succ]) | (refine rd_load_arr rfl rfl _ _ rfl _ rfl (by kernel_rfl) _ (by assumption) (by first | (rw [lims_len]; kernel_rfl) | (rw [byts_len]; kernel_rfl) | (rw [us_len]; kernel_rfl) | kernel_rfl) ?_; simp only [Act.put, List.setIfInBounds_toArray, List.set_cons_zero, List.set_cons_succ]) | (refine rd_take (v := ?_) rfl rfl ?_ ?_; rotate_left; (focus (go_simp; try (with_reducible rfl))); simp only [Act.put, List.setIfInBounds_toArray, List.set_cons_zero, List.set_cons_succ]))
            exact rd_nil
          refine Tx.eff 10 2047 rfl (by decide +kernel) (fun K hK => ?_)
          go_simp
          refine (cs.out _).mono ?_
          rintro e w_21 ⟨rfl, hb_21⟩
          have hS_21 := ext_trans hS_20 (Nat.le_refl _) hb_21
          refine hK (fun w' => Below (w_14).heap.size (w_14) w') _ _ hS_21 (fun _ h => h) ?_
          clear hK K hb_21 hS_20
          try simp only [Act.put, List.setIfInBounds_toArray, List.set_cons_zero, List.set_cons_succ]
          refine Tx.eff 11 4095 rfl (by decide +kernel) (fun K hK => ?_)
          go_simp
          refine (fsub0_r hsub (by decide) _).mono ?_
          rintro e w_22 ⟨rfl, hb_22⟩
          have hS_22 := ext_trans hS_21 (Nat.le_refl _) hb_22
          refine hK (fun w' => Below (w_14).heap.size (w_14) w') _ _ hS_22 (fun _ h => h) ?_
          clear hK K hb_22 hS_21
          try simp only [Act.put, List.setIfInBounds_toArray, List.set_cons_zero, List.set_cons_succ]
          refine Tx.seg (A := ?_) 0 8388607 (by kernel_rfl) (by exact hS_22) [12, 13, 14, 15, 16, 17, 18, 19, 20, 21, 22] (by kernel_rfl) ?_ ?_
          rotate_left
          · intro w' hB
            have q3 := q2.out w'
            iterate 11 (first | (refine rd_skip rfl rfl ?_; simp only [Act.put, List.setIfInBounds_toArray, List.set_cons_zero, List.set_cons_succ]) | (refine rd_load_arr rfl rfl _ _ rfl _ rfl (by kernel_rfl) _ (by assumption) (by first | (rw [lims_len]; kernel_rfl) | (rw [byts_len]; kernel_rfl) | (rw [us_len]; kernel_rfl) | kernel_rfl) ?_; simp only [Act.put, List.setIfInBounds_toArray, List.set_cons_zero, List.set_cons_succ]) | (refine rd_take (v := ?_) rfl rfl ?_ ?_; rotate_left; (focus (go_simp; try (with_reducible rfl))); simp only [Act.put, List.setIfInBounds_toArray, List.set_cons_zero, List.set_cons_succ]))
            exact rd_nil
          refine Tx.done (by kernel_rfl) ?_
          have k16 := k16.below hS_22
          have kb := bel kb hS_22
          clear hS_22
          go_wp2_with fail
          go_ret
          exact ⟨rfl, kb⟩
      · have hu1 := l2.out rfl
        subst hu1
        have q1 := Lib.hid (eq_num (m := 1) (n := 1) (b := true) (by decide) lu (by decide))
        clear l2 l3 qu
        cases B2
        ·
          go_upto_region 17 with (first | (refine wpList_load_arr2 rfl _ _ rfl _ rfl (by kernel_rfl) _ (by assumption) (by first | (rw [lims_len]; kernel_rfl) | (rw [byts_len]; kernel_rfl) | (rw [us_len]; kernel_rfl) | kernel_rfl) ?_) | (refine wpList_store_arr rfl _ _ _ rfl _ _ rfl rfl _ (by first | assumption | exact Arr.new _ _ _) (by first | (rw [lims_len]; kernel_rfl) | (rw [byts_len]; kernel_rfl) | (rw [us_len]; kernel_rfl) | kernel_rfl) (by first | (rw [lims_len, lims_len]) | (rw [byts_len, byts_len]) | (rw [lims_len]; rfl) | (rw [byts_len]; rfl) | (rw [us_len, us_len]; rfl) | rfl) (by first | exact lims_one _ _ | exact byts_one _ | exact us_one _ | (intro v hv; simp at hv; rcases hv with rfl | rfl | rfl | rfl <;> rfl)) ?_))
          refine Tx.start (fun w' => Below (w_14).heap.size (w_14) w') 9999 23 rfl (by kernel_rfl) ?_
          have hS_23 : Below (w_14).heap.size (w_14) (World.drew w_14) := (Below.refl _ _).drew
          refine Tx.seg (A := ?_) 21 3 (by kernel_rfl) (by exact hS_23) [0, 1] (by kernel_rfl) ?_ ?_
          rotate_left
          · intro w' hB
            have e0 := k16.below hB
            iterate 2 (first | (refine rd_skip rfl rfl ?_; simp only [Act.put, List.setIfInBounds_toArray, List.set_cons_zero, List.set_cons_succ]) | (refine rd_load_arr rfl rfl _ _ rfl _ rfl (by kernel_rfl) _ (by assumption) (by first | (rw [lims_len]; kernel_rfl) | (rw [byts_len]; kernel_rfl) | (rw [us_len]; kernel_rfl) | kernel_rfl) ?_; simp only [Act.put, List.setIfInBounds_toArray, List.set_cons_zero, List.set_cons_succ]) | (refine rd_take (v := ?_) rfl rfl ?_ ?_; rotate_left; (focus (go_simp; try (with_reducible rfl))); simp only [Act.put, List.setIfInBounds_toArray, List.set_cons_zero, List.set_cons_succ]))
            exact rd_nil
          refine Tx.eff 2 7 rfl (by decide +kernel) (fun K hK => ?_)
          go_simp
          refine (cs.out _).mono ?_
          rintro e w_24 ⟨rfl, hb_24⟩
          have hS_24 := ext_trans hS_23 (Nat.le_refl _) hb_24
          refine hK (fun w' => Below (w_14).heap.size (w_14) w') _ _ hS_24 (fun _ h => h) ?_
          clear hK K hb_24 hS_23
          try simp only [Act.put, List.setIfInBounds_toArray, List.set_cons_zero, List.set_cons_succ]
          refine Tx.seg (A := ?_) 13 1023 (by kernel_rfl) (by exact hS_24) [3, 4, 5, 6, 7, 8, 9] (by kernel_rfl) ?_ ?_
          rotate_left
          · intro w' hB
            have e0 := k16.below hB
            have q1 := q1.out w'
            iterate 7 (first | (refine rd_skip rfl rfl ?_; simp only [Act.put, List.setIfInBounds_toArray, List.set_cons_zero, List.set_cons_succ]) | (refine rd_load_arr rfl rfl _ _ rfl _ rfl (by kernel_rfl) _ (by assumption) (by first | (rw [lims_len]; kernel_rfl) | (rw [byts_len]; kernel_rfl) | (rw [us_len]; kernel_rfl) | kernel_rfl) ?_; simp only [Act.put, List.setIfInBounds_toArray, List.set_cons_zero, List.set_cons_succ]) | (refine rd_take (v := ?_) rfl rfl ?_ ?_; rotate_left; (focus (go_simp; try (with_reducible rfl))); simp only [Act.put, List.setIfInBounds_toArray, List.set_cons_zero, List.set_cons_succ]))
            exact rd_nil
          refine Tx.eff 10 2047 rfl (by decide +kernel) (fun K hK => ?_)
          go_simp
          refine hK (fun w' => Below (w_14).heap.size (w_14) w') _ _ hS_24 (fun _ h => h) ?_
          clear hK K
          try simp only [Act.put, List.setIfInBounds_toArray, List.set_cons_zero, List.set_cons_succ]
          refine Tx.eff 11 4095 rfl (by decide +kernel) (fun K hK => ?_)
          go_simp
          refine hK (fun w' => Below (w_14).heap.size (w_14) w') _ _ hS_24 (fun _ h => h) ?_
          clear hK K
          try simp only [Act.put, List.setIfInBounds_toArray, List.set_cons_zero, List.set_cons_succ]
          refine Tx.seg (A := ?_) 0 8388607 (by kernel_rfl) (by exact hS_24) [12, 13, 14, 15, 16, 17, 18, 19, 20, 21, 22] (by kernel_rfl) ?_ ?_
          rotate_left
          · intro w' hB
            iterate 11 (first | (refine rd_skip rfl rfl ?_; simp only [Act.put, List.setIfInBounds_toArray, List.set_cons_zero, List.set_cons_succ]) | (refine rd_load_arr rfl rfl _ _ rfl _ rfl (by kernel_rfl) _ (by assumption) (by first | (rw [lims_len]; kernel_rfl) | (rw [byts_len]; kernel_rfl) | (rw [us_len]; kernel_rfl) | kernel_rfl) ?_; simp only [Act.put, List.setIfInBounds_toArray, List.set_cons_zero, List.set_cons_succ]) | (refine rd_take (v := ?_) rfl rfl ?_ ?_; rotate_left; (focus (go_simp; try (with_reducible rfl))); simp only [Act.put, List.setIfInBounds_toArray, List.set_cons_zero, List.set_cons_succ]))
            exact rd_nil
          refine Tx.done (by kernel_rfl) ?_
          have k16 := k16.below hS_24
          have kb := bel kb hS_24
          clear hS_24
          go_wp2_with fail
          go_ret
          exact ⟨rfl, kb⟩
        ·
          go_upto_region 17 with (first | (refine wpList_load_arr2 rfl _ _ rfl _ rfl (by kernel_rfl) _ (by assumption) (by first | (rw [lims_len]; kernel_rfl) | (rw [byts_len]; kernel_rfl) | (rw [us_len]; kernel_rfl) | kernel_rfl) ?_) | (refine wpList_store_arr rfl _ _ _ rfl _ _ rfl rfl _ (by first | assumption | exact Arr.new _ _ _) (by first | (rw [lims_len]; kernel_rfl) | (rw [byts_len]; kernel_rfl) | (rw [us_len]; kernel_rfl) | kernel_rfl) (by first | (rw [lims_len, lims_len]) | (rw [byts_len, byts_len]) | (rw [lims_len]; rfl) | (rw [byts_len]; rfl) | (rw [us_len, us_len]; rfl) | rfl) (by first | exact lims_one _ _ | exact byts_one _ | exact us_one _ | (intro v hv; simp at hv; rcases hv with rfl | rfl | rfl | rfl <;> rfl)) ?_))
          refine Tx.start (fun w' => Below (w_14).heap.size (w_14) w') 9999 23 rfl (by kernel_rfl) ?_
          have hS_25 : Below (w_14).heap.size (w_14) (World.drew w_14) := (Below.refl _ _).drew
          refine Tx.seg (A := ?_) 21 3 (by kernel_rfl) (by exact hS_25) [0, 1] (by kernel_rfl) ?_ ?_
          rotate_left
          · intro w' hB
            have e0 := k16.below hB
            iterate 2 (first | (refine rd_skip rfl rfl ?_; simp only [Act.put, List.setIfInBounds_toArray, List.set_cons_zero, List.set_cons_succ]) | (refine rd_load_arr rfl rfl _ _ rfl _ rfl (by kernel_rfl) _ (by assumption) (by first | (rw [lims_len]; kernel_rfl) | (rw [byts_len]; kernel_rfl) | (rw [us_len]; kernel_rfl) | kernel_rfl) ?_; simp only [Act.put, List.setIfInBounds_toArray, List.set_cons_zero, List.set_cons_succ]) | (refine rd_take (v := ?_) rfl rfl ?_ ?_; rotate_left; (focus (go_simp; try (with_reducible rfl))); simp only [Act.put, List.setIfInBounds_toArray, List.set_cons_zero, List.set_cons_succ]))
            exact rd_nil
          refine Tx.eff 2 7 rfl (by decide +kernel) (fun K hK => ?_)
          go_simp
          refine (cs.out _).mono ?_
          rintro e w_26 ⟨rfl, hb_26⟩
          have hS_26 := ext_trans hS_25 (Nat.le_refl _) hb_26
          refine hK (fun w' => Below (w_14).heap.size (w_14) w') _ _ hS_26 (fun _ h => h) ?_
          clear hK K hb_26 hS_25
          try simp only [Act.put, List.setIfInBounds_toArray, List.set_cons_zero, List.set_cons_succ]
          refine Tx.seg (A := ?_) 13 1023 (by kernel_rfl) (by exact hS_26) [3, 4, 5, 6, 7, 8, 9] (by kernel_rfl) ?_ ?_
          rotate_left
          · intro w' hB
            have e0 := k16.below hB
            have q1 := q1.out w'
            iterate 7 (first | (refine rd_skip rfl rfl ?_; simp only [Act.put, List.setIfInBounds_toArray, List.set_cons_zero, List.set_cons_succ]) | (refine rd_load_arr rfl rfl _ _ rfl _ rfl (by kernel_rfl) _ (by assumption) (by first | (rw [lims_len]; kernel_rfl) | (rw [byts_len]; kernel_rfl) | (rw [us_len]; kernel_rfl) | kernel_rfl) ?_; simp only [Act.put, List.setIfInBounds_toArray, List.set_cons_zero, List.set_cons_succ]) | (refine rd_take (v := ?_) rfl rfl ?_ ?_; rotate_left; (focus (go_simp; try (with_reducible rfl))); simp only [Act.put, List.setIfInBounds_toArray, List.set_cons_zero, List.set_cons_succ]))
            exact rd_nil
          refine Tx.eff 10 2047 rfl (by decide +kernel) (fun K hK => ?_)
          go_simp
          refine hK (fun w' => Below (w_14).heap.size (w_14) w') _ _ hS_26 (fun _ h => h) ?_
          clear hK K
          try simp only [Act.put, List.setIfInBounds_toArray, List.set_cons_zero, List.set_cons_succ]
          refine Tx.eff 11 4095 rfl (by decide +kernel) (fun K hK => ?_)
          go_simp
          refine hK (fun w' => Below (w_14).heap.size (w_14) w') _ _ hS_26 (fun _ h => h) ?_
          clear hK K
          try simp only [Act.put, List.setIfInBounds_toArray, List.set_cons_zero, List.set_cons_succ]
          refine Tx.seg (A := ?_) 0 8388607 (by kernel_rfl) (by exact hS_26) [12, 13, 14, 15, 16, 17, 18, 19, 20, 21, 22] (by kernel_rfl) ?_ ?_
          rotate_left
          · intro w' hB
            iterate 11 (first | (refine rd_skip rfl rfl ?_; simp only [Act.put, List.setIfInBounds_toArray, List.set_cons_zero, List.set_cons_succ]) | (refine rd_load_arr rfl rfl _ _ rfl _ rfl (by kernel_rfl) _ (by assumption) (by first | (rw [lims_len]; kernel_rfl) | (rw [byts_len]; kernel_rfl) | (rw [us_len]; kernel_rfl) | kernel_rfl) ?_; simp only [Act.put, List.setIfInBounds_toArray, List.set_cons_zero, List.set_cons_succ]) | (refine rd_take (v := ?_) rfl rfl ?_ ?_; rotate_left; (focus (go_simp; try (with_reducible rfl))); simp only [Act.put, List.setIfInBounds_toArray, List.set_cons_zero, List.set_cons_succ]))
            exact rd_nil
          refine Tx.done (by kernel_rfl) ?_
          have k16 := k16.below hS_26
          have kb := bel kb hS_26
          clear hS_26
          go_wp2_with fail
          go_ret
          exact ⟨rfl, kb⟩

end Go.Proofs.Ytdggikbaemigbaa
