import Derived.Test.YtibdgkhkhmdihaaGreatDoorJa13
import Derived.Test.YtibdgkhkhmdihaaGreatDoorJa07
import Derived.Lib.Hide
import Derived.ChangeKeysEq
import Derived.Laws.StructEq
import Derived.Test.YtibdgkhkhmdihaaGreatDoorJa01
import Derived.ProofKit
import Derived.OpenShut
import Derived.Deep.Matrix
import Derived.Test.YtibdgkhkhmdihaaGreatDoorJa04

namespace Go.Proofs.YtibdgkhkhmdihaaGreatDoor
open Go.RowKit
set_option maxHeartbeats 2000000 in
set_option maxRecDepth 100000 in
theorem times_any (a b : Nat) (ha : a < 18446744073709551616 ^ 4) (hb : b < 18446744073709551616 ^ 4) (w : World) :
    Calls Tryz.prog 119 #[.agg (lims 4 a).toArray, .agg (lims 4 b).toArray] w fun e w' => e = .returned (.agg (lims 4 (a * b % pN)).toArray) ∧ Below w.heap.size w w' := by
  have am := limMul_any a b hb
  rw [Nat.mod_eq_of_lt ha] at am
  obtain ⟨V, hV⟩ : ∃ V, a * b = V := ⟨_, rfl⟩
  have hVl : V < 18446744073709551616 ^ 4 * 18446744073709551616 ^ 4 := by rw [← hV]; exact Nat.mul_lt_mul'' ha hb
  rw [hV] at am ⊢
  replace am := Lib.hid am
  replace hVl := Lib.hid hVl
  clear hV ha hb
  obtain ⟨r, hr⟩ : ∃ r, V % pN = r := ⟨_, rfl⟩
  rw [hr]
  replace hr := Lib.hid hr
  go_enter Tryz.func119, Tryz.ntmps119
  go_upto_region 1 with fail
  refine wp_new3 (fun W hsz k1 k2 k3 kb => ?_)
  have k3 : Arr W (w.heap.size + 1 + 1) (lims 4 0) := k3
  go_wp2_with (first | (refine wpList_load_arr2 rfl _ _ rfl _ rfl (by decide +kernel) _ (by assumption) (by first | (rw [lims_len]; kernel_rfl) | (rw [el_rep]; kernel_rfl) | (rw [el_len]; kernel_rfl) | (rw [byts_len]; kernel_rfl) | (rw [us_len]; kernel_rfl) | (rw [bytn_len]; kernel_rfl) | (rw [ens_len, digs_len]; kernel_rfl) | (rw [ptL_len]; kernel_rfl) | (rw [pcs_len]; kernel_rfl) | kernel_rfl) ?_) | (refine wpList_store_arr rfl _ _ _ rfl _ _ rfl rfl _ (by first | assumption | exact Arr.new _ _ _) (by first | (rw [lims_len]; kernel_rfl) | (rw [el_rep]; kernel_rfl) | (rw [el_len]; kernel_rfl) | (rw [byts_len]; kernel_rfl) | (rw [us_len]; kernel_rfl) | (rw [bytn_len]; kernel_rfl) | (rw [ens_len, digs_len]; kernel_rfl) | (rw [ptL_len]; kernel_rfl) | (rw [pcs_len]; kernel_rfl) | kernel_rfl) (by first | (rw [lims_len, lims_len]) | (rw [el_rep, el_rep]) | (rw [el_rep, el_len]; rfl) | (rw [el_len, el_rep]; rfl) | (rw [el_len, el_len]; rfl) | (rw [byts_len, byts_len]) | (rw [lims_len]; rfl) | (rw [byts_len]; rfl) | (rw [us_len, us_len]; rfl) | (rw [bytn_len, bytn_len]) | (rw [bytn_len]; rfl) | (rw [ptL_len, ptL_len]) | (rw [pcs_len, pcs_len]) | (rw [ptL_len, pcs_len]) | (rw [pcs_len, ptL_len]) | (rw [ens_len, ens_len, digs_len, digs_len]) | rfl) (by first | exact lims_one _ _ | exact el_one _ | exact byts_one _ | exact us_one _ | exact bytn_one _ _ | exact ens_one _ | exact ptL_one _ _ _ _ | exact pcs_one _ | (intro v hv; simp at hv; rcases hv with rfl | rfl | rfl | rfl <;> rfl)) ?_))
  refine (am.out _).mono ?_
  rintro e w_1 ⟨rfl, hb_1⟩
  have k3 := k3.below hb_1
  have kb := bel kb hb_1
  clear hb_1
  have hg3 := k3.lt
  go_upto_region 2 with (first | (refine wpList_load_arr2 rfl _ _ rfl _ rfl (by decide +kernel) _ (by assumption) (by first | (rw [lims_len]; kernel_rfl) | (rw [el_rep]; kernel_rfl) | (rw [el_len]; kernel_rfl) | (rw [byts_len]; kernel_rfl) | (rw [us_len]; kernel_rfl) | (rw [bytn_len]; kernel_rfl) | (rw [ens_len, digs_len]; kernel_rfl) | (rw [ptL_len]; kernel_rfl) | (rw [pcs_len]; kernel_rfl) | kernel_rfl) ?_) | (refine wpList_store_arr rfl _ _ _ rfl _ _ rfl rfl _ (by first | assumption | exact Arr.new _ _ _) (by first | (rw [lims_len]; kernel_rfl) | (rw [el_rep]; kernel_rfl) | (rw [el_len]; kernel_rfl) | (rw [byts_len]; kernel_rfl) | (rw [us_len]; kernel_rfl) | (rw [bytn_len]; kernel_rfl) | (rw [ens_len, digs_len]; kernel_rfl) | (rw [ptL_len]; kernel_rfl) | (rw [pcs_len]; kernel_rfl) | kernel_rfl) (by first | (rw [lims_len, lims_len]) | (rw [el_rep, el_rep]) | (rw [el_rep, el_len]; rfl) | (rw [el_len, el_rep]; rfl) | (rw [el_len, el_len]; rfl) | (rw [byts_len, byts_len]) | (rw [lims_len]; rfl) | (rw [byts_len]; rfl) | (rw [us_len, us_len]; rfl) | (rw [bytn_len, bytn_len]) | (rw [bytn_len]; rfl) | (rw [ptL_len, ptL_len]) | (rw [pcs_len, pcs_len]) | (rw [ptL_len, pcs_len]) | (rw [pcs_len, ptL_len]) | (rw [ens_len, ens_len, digs_len, digs_len]) | rfl) (by first | exact lims_one _ _ | exact el_one _ | exact byts_one _ | exact us_one _ | exact bytn_one _ _ | exact ens_one _ | exact ptL_one _ _ _ _ | exact pcs_one _ | (intro v hv; simp at hv; rcases hv with rfl | rfl | rfl | rfl <;> rfl)) ?_))
  refine code_new (fun w9 k5 hb9 => ?_)
  have k3 := k3.below hb9
  have kb := bel kb hb9
  clear hb9 k1 k2 hsz
  go_upto_region 3 with fail
  have hg5 := k5.lt
  refine wp_new1 (fun w8 hsz k6 hb8 => ?_)
  have k6 : Arr w8 w9.heap.size (us [0, 0, 0, 0]) := k6
  have k3 := k3.below hb8
  have k5 := k5.below hb8
  have kb := bel kb hb8
  have hzero : ∀ p, p < 4 → ([0, 0, 0, 0] : List Nat)[p]? = some 0 := by decide
  clear hb8 hsz
  go_wp2_with fail
  go_loopw [7, 15] (fun cv kv wr => ∃ (k c : Nat) (es : List Nat), k ≤ 4 ∧ c ≤ 38 ∧ cv = .int .u64 (c : Int) ∧ kv = .int .i64 k ∧ Arr wr (w.heap.size + 1 + 1) (lims 4 0) ∧ Arr wr w_1.heap.size (lims 8 V) ∧ Arr wr w9.heap.size (us es) ∧ Below w.heap.size w wr ∧
      es.length = 4 ∧ (∀ d ∈ es, d < 18446744073709551616) ∧ val 18446744073709551616 es + 18446744073709551616 ^ k * c = V % 18446744073709551616 ^ k + 38 * (V / 18446744073709551616 ^ 4 % 18446744073709551616 ^ k) ∧ (∀ p, k ≤ p → p < 4 → es[p]? = some 0)) (fun _ kv _ => 4 - (intOf kv).toNat)
  case atStart => exact ⟨0, 0, [0, 0, 0, 0], Nat.zero_le _, Nat.zero_le _, rfl, rfl, k3, k5, k6, kb, rfl, by decide, by rw [Nat.pow_zero, Nat.mod_one, Nat.mod_one]; rfl, fun p _ hp => hzero p hp⟩
  case round =>
    obtain ⟨k, c, es, hk, hc, rfl, rfl, j3, j5, j6, jb, jlen, jlt, jval, jz⟩ := hrel
    clear k3 k5 k6 kb hzero
    by_cases hk4 : k < 4
    · obtain ⟨h, hh⟩ : ∃ h, V / 18446744073709551616 ^ (k + 4) % 18446744073709551616 = h := ⟨_, rfl⟩
      obtain ⟨l, hl⟩ : ∃ l, V / 18446744073709551616 ^ k % 18446744073709551616 = l := ⟨_, rfl⟩
      have hhl : h < 18446744073709551616 := by rw [← hh]; exact Nat.mod_lt _ (by decide)
      have hll : l < 18446744073709551616 := by rw [← hl]; exact Nat.mod_lt _ (by decide)
      have c1 := j5.cell (lims_get 8 V (k + 4) (by omega))
      have c2 := j5.cell (lims_get 8 V k (by omega))
      rw [hh] at c1
      rw [hl] at c2
      have c3 := j6.cell (us_get es k 0 (jz k (Nat.le_refl _) hk4))
      have hfr := j6.frozen k
      obtain ⟨p0, hp0⟩ : ∃ p, h * 38 % 18446744073709551616 = p := ⟨_, rfl⟩
      obtain ⟨p1, hp1⟩ : ∃ p, h * 38 / 18446744073709551616 = p := ⟨_, rfl⟩
      obtain ⟨s1, hs1⟩ : ∃ p, (p0 + c) % 18446744073709551616 = p := ⟨_, rfl⟩
      obtain ⟨t1, ht1⟩ : ∃ p, (p0 + c) / 18446744073709551616 = p := ⟨_, rfl⟩
      obtain ⟨s2, hs2⟩ : ∃ p, (s1 + l) % 18446744073709551616 = p := ⟨_, rfl⟩
      obtain ⟨t2, ht2⟩ : ∃ p, (s1 + l) / 18446744073709551616 = p := ⟨_, rfl⟩
      have hm := fun w => mul64 h 38 hhl (by decide) w
      rw [hp0, hp1] at hm
      have a1 := fun w => add64z p0 c w
      rw [hs1, ht1] at a1
      have a2 := fun w => add64z s1 l w
      rw [hs2, ht2] at a2
      replace hm := Lib.hid hm
      replace a1 := Lib.hid a1
      replace a2 := Lib.hid a2
      have q1 : p1 + t1 + t2 ≤ 38 := by omega
      have hst : s2 + 18446744073709551616 * (p1 + t1 + t2) = h * 38 + l + c := by omega
      have hs2l : s2 < 18446744073709551616 := by omega
      replace hst := Lib.hid hst
      replace jlen := Lib.hid jlen
      replace jlt := Lib.hid jlt
      replace jval := Lib.hid jval
      have hd := Lib.hid (jz k (Nat.le_refl _) hk4)
      replace jz := Lib.hid jz
      replace hh := Lib.hid hh
      replace hl := Lib.hid hl
      clear hp0 hp1 hs1 ht1 hs2 ht2
      go_wp2_with (first | (simp only [a1.out, a2.out]; done) | (refine (hm.out _).mono ?_; rintro e w' ⟨rfl, rfl⟩) | simp only [a1.out, a2.out])
      refine ⟨⟨k + 1, p1 + t1 + t2, es.set k s2, by omega, q1, by go_num, by go_num, j3.other (by simp; omega) _, j5.other (by simp; omega) _, ?_, jb.setCell (by simp; omega) _, by rw [List.length_set]; exact jlen.out, set_lt jlt.out hs2l, ?_, ?_⟩, by simp [intOf]; omega⟩
      · have := j6.set k (.int .u64 (s2 : Int))
        rw [us_set] at this
        exact this
      · have h1 := val_set 18446744073709551616 es k 0 s2 hd.out
        have h2 := jval.out
        have h3 := hst.out
        have h4 := mod_pow_succ' 18446744073709551616 k V
        have h5 := mod_pow_succ' 18446744073709551616 k (V / 18446744073709551616 ^ 4)
        rw [hl.out] at h4
        rw [Nat.div_div_eq_div_mul, ← Nat.pow_add, Nat.add_comm 4 k, hh.out] at h5
        rw [h4, h5, Nat.pow_succ]
        clear h4 h5 hm a1 a2 jlen jlt jval jz hst hd hh hl j3 j5 j6 jb c1 c2 c3 hfr hVl am hr
        generalize val 18446744073709551616 (es.set k s2) = V' at *
        generalize val 18446744073709551616 es = Ve at *
        generalize V % 18446744073709551616 ^ k = A at *
        generalize V / 18446744073709551616 ^ 4 % 18446744073709551616 ^ k = D at *
        generalize 18446744073709551616 ^ k = K at *
        generalize p1 + t1 + t2 = t at *
        have h5 := congrArg (K * ·) h3
        simp only [Nat.mul_add] at h5 ⊢
        have e1 : K * 18446744073709551616 * t = K * (18446744073709551616 * t) := Nat.mul_assoc _ _ _
        have e2 : 38 * (K * h) = K * (h * 38) := by rw [Nat.mul_comm h 38, Nat.mul_left_comm]
        omega
      · intro p h1 h2
        rw [List.getElem?_set_ne (by omega)]
        exact jz.out p (by omega) h2
    · obtain rfl : k = 4 := by omega
      have hnl := val_lt 18446744073709551616 (by decide) es jlt
      rw [jlen] at hnl
      have hus : us es = lims 4 (val 18446744073709551616 es) := by
        have := digs_val 18446744073709551616 (by decide) es jlt
        rw [jlen] at this
        rw [lims_us, this]
      rw [hus] at j6
      have hV4 : V / 18446744073709551616 ^ 4 < 18446744073709551616 ^ 4 := Nat.div_lt_of_lt_mul hVl.out
      have af := fun w => fold_any (val 18446744073709551616 es) c hnl (by omega) w
      rw [jval, Nat.mod_eq_of_lt hV4, ← mod_38, Nat.mod_add_div, hr.out] at af
      obtain ⟨n, hn⟩ : ∃ n, val 18446744073709551616 es = n := ⟨_, rfl⟩
      rw [hn] at af j6
      replace af := Lib.hid af
      clear hnl hus hV4 jval jz jlt jlen hn hVl hr am
      go_wp2_with (first | (refine wpList_load_arr2 rfl _ _ rfl _ rfl (by decide +kernel) _ (by assumption) (by first | (rw [lims_len]; kernel_rfl) | (rw [el_rep]; kernel_rfl) | (rw [el_len]; kernel_rfl) | (rw [byts_len]; kernel_rfl) | (rw [us_len]; kernel_rfl) | (rw [bytn_len]; kernel_rfl) | (rw [ens_len, digs_len]; kernel_rfl) | (rw [ptL_len]; kernel_rfl) | (rw [pcs_len]; kernel_rfl) | kernel_rfl) ?_) | (refine wpList_store_arr rfl _ _ _ rfl _ _ rfl rfl _ (by first | assumption | exact Arr.new _ _ _) (by first | (rw [lims_len]; kernel_rfl) | (rw [el_rep]; kernel_rfl) | (rw [el_len]; kernel_rfl) | (rw [byts_len]; kernel_rfl) | (rw [us_len]; kernel_rfl) | (rw [bytn_len]; kernel_rfl) | (rw [ens_len, digs_len]; kernel_rfl) | (rw [ptL_len]; kernel_rfl) | (rw [pcs_len]; kernel_rfl) | kernel_rfl) (by first | (rw [lims_len, lims_len]) | (rw [el_rep, el_rep]) | (rw [el_rep, el_len]; rfl) | (rw [el_len, el_rep]; rfl) | (rw [el_len, el_len]; rfl) | (rw [byts_len, byts_len]) | (rw [lims_len]; rfl) | (rw [byts_len]; rfl) | (rw [us_len, us_len]; rfl) | (rw [bytn_len, bytn_len]) | (rw [bytn_len]; rfl) | (rw [ptL_len, ptL_len]) | (rw [pcs_len, pcs_len]) | (rw [ptL_len, pcs_len]) | (rw [pcs_len, ptL_len]) | (rw [ens_len, ens_len, digs_len, digs_len]) | rfl) (by first | exact lims_one _ _ | exact el_one _ | exact byts_one _ | exact us_one _ | exact bytn_one _ _ | exact ens_one _ | exact ptL_one _ _ _ _ | exact pcs_one _ | (intro v hv; simp at hv; rcases hv with rfl | rfl | rfl | rfl <;> rfl)) ?_))
      refine (af.out _).mono ?_
      rintro e w7 ⟨rfl, hb7⟩
      have j3 := j3.below hb7
      have jb := bel jb hb7
      clear hb7
      go_wp2_with (first | (refine wpList_load_arr2 rfl _ _ rfl _ rfl (by decide +kernel) _ (by assumption) (by first | (rw [lims_len]; kernel_rfl) | (rw [el_rep]; kernel_rfl) | (rw [el_len]; kernel_rfl) | (rw [byts_len]; kernel_rfl) | (rw [us_len]; kernel_rfl) | (rw [bytn_len]; kernel_rfl) | (rw [ens_len, digs_len]; kernel_rfl) | (rw [ptL_len]; kernel_rfl) | (rw [pcs_len]; kernel_rfl) | kernel_rfl) ?_) | (refine wpList_store_arr rfl _ _ _ rfl _ _ rfl rfl _ (by first | assumption | exact Arr.new _ _ _) (by first | (rw [lims_len]; kernel_rfl) | (rw [el_rep]; kernel_rfl) | (rw [el_len]; kernel_rfl) | (rw [byts_len]; kernel_rfl) | (rw [us_len]; kernel_rfl) | (rw [bytn_len]; kernel_rfl) | (rw [ens_len, digs_len]; kernel_rfl) | (rw [ptL_len]; kernel_rfl) | (rw [pcs_len]; kernel_rfl) | kernel_rfl) (by first | (rw [lims_len, lims_len]) | (rw [el_rep, el_rep]) | (rw [el_rep, el_len]; rfl) | (rw [el_len, el_rep]; rfl) | (rw [el_len, el_len]; rfl) | (rw [byts_len, byts_len]) | (rw [lims_len]; rfl) | (rw [byts_len]; rfl) | (rw [us_len, us_len]; rfl) | (rw [bytn_len, bytn_len]) | (rw [bytn_len]; rfl) | (rw [ptL_len, ptL_len]) | (rw [pcs_len, pcs_len]) | (rw [ptL_len, pcs_len]) | (rw [pcs_len, ptL_len]) | (rw [ens_len, ens_len, digs_len, digs_len]) | rfl) (by first | exact lims_one _ _ | exact el_one _ | exact byts_one _ | exact us_one _ | exact bytn_one _ _ | exact ens_one _ | exact ptL_one _ _ _ _ | exact pcs_one _ | (intro v hv; simp at hv; rcases hv with rfl | rfl | rfl | rfl <;> rfl)) ?_))
      exact bodyPost_ret (results_arr2 Tryz.results119 _ _ _ rfl (by kernel_rfl) _ (by first | assumption | exact Arr.setRow (by assumption) _) (by first | (rw [lims_len]; kernel_rfl) | (rw [el_rep]; kernel_rfl) | (rw [el_len]; kernel_rfl) | (rw [byts_len]; kernel_rfl) | (rw [us_len]; kernel_rfl) | (rw [bytn_len]; kernel_rfl) | (rw [ens_len, digs_len]; kernel_rfl) | (rw [ptL_len]; kernel_rfl) | (rw [pcs_len]; kernel_rfl) | kernel_rfl)) rfl ⟨rfl, below_setRow jb (by omega) _⟩
end Go.Proofs.YtibdgkhkhmdihaaGreatDoor


namespace Go.Proofs.YtibdgkhkhmdihaaGreatDoor
open Go.RowKit
theorem p_lt4 (n : Nat) : n % pN < 18446744073709551616 ^ 4 := Nat.lt_trans (Nat.mod_lt _ pN_pos) (by decide)
theorem pow_bit (a e m r b : Nat) (hr : a ^ (e / 2 ^ (m + 1)) % pN = r) (hb : e / 2 ^ m % 2 = b) : a ^ (e / 2 ^ m) % pN = (r * r % pN) * a ^ b % pN := by
  have e1 : e / 2 ^ m = e / 2 ^ (m + 1) + e / 2 ^ (m + 1) + b := by
    rw [Nat.pow_succ, ← Nat.div_div_eq_div_mul]; omega
  rw [e1, Nat.pow_add, Nat.pow_add, ← hr, ← Nat.mul_mod (a ^ (e / 2 ^ (m + 1))), Nat.mod_mul_mod]
set_option maxHeartbeats 2000000 in
set_option maxRecDepth 100000 in
theorem power_any (a x : Nat) (ha : a < 18446744073709551616 ^ 4) (hx : x < 18446744073709551616 ^ 4) (w : World) :
    Calls Tryz.prog 185 #[.agg (lims 4 a).toArray, .agg (lims 4 x).toArray] w fun e w' => e = .returned (.agg (lims 4 (a ^ x % pN)).toArray) ∧ Below w.heap.size w w' := by
  have l1 : (lims 4 1).toArray = #[.int .u64 1, .int .u64 0, .int .u64 0, .int .u64 0] := lims_small 1 (by decide)
  have l1' : us [1, 0, 0, 0] = lims 4 1 := by rfl
  replace l1' := Lib.hid l1'
  clear l1
  go_enter Tryz.func185, Tryz.ntmps185
  go_upto_region 1 with fail
  refine wp_new3 (fun W hsz k1 k2 k3 kb => ?_)
  have k3 : Arr W (w.heap.size + 1 + 1) (lims 4 0) := k3
  go_upto_region 2 with (first | (refine wpList_load_arr2 rfl _ _ rfl _ rfl (by decide +kernel) _ (by assumption) (by first | (rw [lims_len]; kernel_rfl) | (rw [el_rep]; kernel_rfl) | (rw [el_len]; kernel_rfl) | (rw [byts_len]; kernel_rfl) | (rw [us_len]; kernel_rfl) | (rw [bytn_len]; kernel_rfl) | (rw [ens_len, digs_len]; kernel_rfl) | (rw [ptL_len]; kernel_rfl) | (rw [pcs_len]; kernel_rfl) | kernel_rfl) ?_) | (refine wpList_store_arr rfl _ _ _ rfl _ _ rfl rfl _ (by first | assumption | exact Arr.new _ _ _) (by first | (rw [lims_len]; kernel_rfl) | (rw [el_rep]; kernel_rfl) | (rw [el_len]; kernel_rfl) | (rw [byts_len]; kernel_rfl) | (rw [us_len]; kernel_rfl) | (rw [bytn_len]; kernel_rfl) | (rw [ens_len, digs_len]; kernel_rfl) | (rw [ptL_len]; kernel_rfl) | (rw [pcs_len]; kernel_rfl) | kernel_rfl) (by first | (rw [lims_len, lims_len]) | (rw [el_rep, el_rep]) | (rw [el_rep, el_len]; rfl) | (rw [el_len, el_rep]; rfl) | (rw [el_len, el_len]; rfl) | (rw [byts_len, byts_len]) | (rw [lims_len]; rfl) | (rw [byts_len]; rfl) | (rw [us_len, us_len]; rfl) | (rw [bytn_len, bytn_len]) | (rw [bytn_len]; rfl) | (rw [ptL_len, ptL_len]) | (rw [pcs_len, pcs_len]) | (rw [ptL_len, pcs_len]) | (rw [pcs_len, ptL_len]) | (rw [ens_len, ens_len, digs_len, digs_len]) | rfl) (by first | exact lims_one _ _ | exact el_one _ | exact byts_one _ | exact us_one _ | exact bytn_one _ _ | exact ens_one _ | exact ptL_one _ _ _ _ | exact pcs_one _ | (intro v hv; simp at hv; rcases hv with rfl | rfl | rfl | rfl <;> rfl)) ?_))
  refine wp_new1 (fun w9 hsz9 k4 hb9 => ?_)
  have k4 : Arr w9 W.heap.size (us [1, 0, 0, 0]) := k4
  rw [l1'.out, hsz] at k4
  have k1 := k1.below hb9
  have k2 := k2.below hb9
  have k3 := k3.below hb9
  have kb := bel kb hb9
  clear hb9 hsz9
  go_wp2_with fail
  go_loopw [6] (fun kv wr => ∃ (j n : Nat), j ≤ 256 ∧ kv = .int .i64 ((j : Int) - 1) ∧ a ^ (x / 2 ^ j) % pN = n ∧ Arr wr w.heap.size (lims 4 a) ∧ Arr wr (w.heap.size + 1) (lims 4 x) ∧ Arr wr (w.heap.size + 1 + 1) (lims 4 0) ∧ Arr wr (w.heap.size + 3) (lims 4 n) ∧ Below w.heap.size w wr) (fun kv _ => (intOf kv + 1).toNat)
  case atStart =>
    refine ⟨256, 1, Nat.le_refl _, rfl, ?_, k1, k2, k3, ?_, kb⟩
    · rw [Nat.div_eq_of_lt (Nat.lt_of_lt_of_le hx (by decide)), Nat.pow_zero]
      decide
    · exact k4
  case round =>
    clear k1 k2 k3 k4 kb hsz
    obtain ⟨j, n, hj, rfl, hn, k1, k2, k3, k4, kb⟩ := hrel
    have hnq : n < 18446744073709551616 ^ 4 := by rw [← hn]; exact p_lt4 _
    replace hn := Lib.hid hn
    rcases Nat.eq_zero_or_pos j with rfl | hj0
    · have e : ((0 : Nat) : Int) - 1 = -1 := rfl
      rw [e]
      go_wp2_with (first | (refine wpList_load_arr2 rfl _ _ rfl _ rfl (by decide +kernel) _ (by assumption) (by first | (rw [lims_len]; kernel_rfl) | (rw [el_rep]; kernel_rfl) | (rw [el_len]; kernel_rfl) | (rw [byts_len]; kernel_rfl) | (rw [us_len]; kernel_rfl) | (rw [bytn_len]; kernel_rfl) | (rw [ens_len, digs_len]; kernel_rfl) | (rw [ptL_len]; kernel_rfl) | (rw [pcs_len]; kernel_rfl) | kernel_rfl) ?_) | (refine wpList_store_arr rfl _ _ _ rfl _ _ rfl rfl _ (by first | assumption | exact Arr.new _ _ _) (by first | (rw [lims_len]; kernel_rfl) | (rw [el_rep]; kernel_rfl) | (rw [el_len]; kernel_rfl) | (rw [byts_len]; kernel_rfl) | (rw [us_len]; kernel_rfl) | (rw [bytn_len]; kernel_rfl) | (rw [ens_len, digs_len]; kernel_rfl) | (rw [ptL_len]; kernel_rfl) | (rw [pcs_len]; kernel_rfl) | kernel_rfl) (by first | (rw [lims_len, lims_len]) | (rw [el_rep, el_rep]) | (rw [el_rep, el_len]; rfl) | (rw [el_len, el_rep]; rfl) | (rw [el_len, el_len]; rfl) | (rw [byts_len, byts_len]) | (rw [lims_len]; rfl) | (rw [byts_len]; rfl) | (rw [us_len, us_len]; rfl) | (rw [bytn_len, bytn_len]) | (rw [bytn_len]; rfl) | (rw [ptL_len, ptL_len]) | (rw [pcs_len, pcs_len]) | (rw [ptL_len, pcs_len]) | (rw [pcs_len, ptL_len]) | (rw [ens_len, ens_len, digs_len, digs_len]) | rfl) (by first | exact lims_one _ _ | exact el_one _ | exact byts_one _ | exact us_one _ | exact bytn_one _ _ | exact ens_one _ | exact ptL_one _ _ _ _ | exact pcs_one _ | (intro v hv; simp at hv; rcases hv with rfl | rfl | rfl | rfl <;> rfl)) ?_))
      exact bodyPost_ret (results_arr2 Tryz.results185 _ _ _ rfl (by kernel_rfl) _ (by first | assumption | exact Arr.setRow (by assumption) _) (by first | (rw [lims_len]; kernel_rfl) | (rw [el_rep]; kernel_rfl) | (rw [el_len]; kernel_rfl) | (rw [byts_len]; kernel_rfl) | (rw [us_len]; kernel_rfl) | (rw [bytn_len]; kernel_rfl) | (rw [ens_len, digs_len]; kernel_rfl) | (rw [ptL_len]; kernel_rfl) | (rw [pcs_len]; kernel_rfl) | kernel_rfl)) rfl ⟨by rw [← hn.out, Nat.pow_zero, Nat.div_one], below_setRow kb (by omega) _⟩
    · obtain ⟨m, rfl⟩ : ∃ m, j = m + 1 := ⟨j - 1, by omega⟩
      have e : ((m + 1 : Nat) : Int) - 1 = (m : Int) := by omega
      rw [e]
      clear e
      obtain ⟨t, ht⟩ : ∃ t, x / 2 ^ m % 2 = t := ⟨_, rfl⟩
      have ht2 : t < 2 := by omega
      have hstep := pow_bit a x m n t hn.out ht
      obtain ⟨q, hq⟩ : ∃ q, n * n % pN = q := ⟨_, rfl⟩
      have hql : q < 18446744073709551616 ^ 4 := by rw [← hq]; exact p_lt4 _
      have c1 := fun w => times_any n n hnq hnq w
      rw [hq] at c1 hstep
      have c2 := fun w => limBit_any x m (by omega) w
      rw [ht] at c2
      have c3 := fun w => times_any q a hql ha w
      obtain ⟨r, hr⟩ : ∃ r, q * a % pN = r := ⟨_, rfl⟩
      rw [hr] at c3
      have hstep1 : t = 1 → a ^ (x / 2 ^ m) % pN = r := by rintro rfl; rw [hstep, Nat.pow_one, hr]
      have hstep0 : t = 0 → a ^ (x / 2 ^ m) % pN = q := by rintro rfl; rw [hstep, Nat.pow_zero, Nat.mul_one, ← hq, Nat.mod_mod]
      replace c1 := Lib.hid c1
      replace c2 := Lib.hid c2
      replace c3 := Lib.hid c3
      replace hstep1 := Lib.hid hstep1
      replace hstep0 := Lib.hid hstep0
      clear hstep hq ht hr hn
      go_wp2_with (first | (refine wpList_load_arr2 rfl _ _ rfl _ rfl (by decide +kernel) _ (by assumption) (by first | (rw [lims_len]; kernel_rfl) | (rw [el_rep]; kernel_rfl) | (rw [el_len]; kernel_rfl) | (rw [byts_len]; kernel_rfl) | (rw [us_len]; kernel_rfl) | (rw [bytn_len]; kernel_rfl) | (rw [ens_len, digs_len]; kernel_rfl) | (rw [ptL_len]; kernel_rfl) | (rw [pcs_len]; kernel_rfl) | kernel_rfl) ?_) | (refine wpList_store_arr rfl _ _ _ rfl _ _ rfl rfl _ (by first | assumption | exact Arr.new _ _ _) (by first | (rw [lims_len]; kernel_rfl) | (rw [el_rep]; kernel_rfl) | (rw [el_len]; kernel_rfl) | (rw [byts_len]; kernel_rfl) | (rw [us_len]; kernel_rfl) | (rw [bytn_len]; kernel_rfl) | (rw [ens_len, digs_len]; kernel_rfl) | (rw [ptL_len]; kernel_rfl) | (rw [pcs_len]; kernel_rfl) | kernel_rfl) (by first | (rw [lims_len, lims_len]) | (rw [el_rep, el_rep]) | (rw [el_rep, el_len]; rfl) | (rw [el_len, el_rep]; rfl) | (rw [el_len, el_len]; rfl) | (rw [byts_len, byts_len]) | (rw [lims_len]; rfl) | (rw [byts_len]; rfl) | (rw [us_len, us_len]; rfl) | (rw [bytn_len, bytn_len]) | (rw [bytn_len]; rfl) | (rw [ptL_len, ptL_len]) | (rw [pcs_len, pcs_len]) | (rw [ptL_len, pcs_len]) | (rw [pcs_len, ptL_len]) | (rw [ens_len, ens_len, digs_len, digs_len]) | rfl) (by first | exact lims_one _ _ | exact el_one _ | exact byts_one _ | exact us_one _ | exact bytn_one _ _ | exact ens_one _ | exact ptL_one _ _ _ _ | exact pcs_one _ | (intro v hv; simp at hv; rcases hv with rfl | rfl | rfl | rfl <;> rfl)) ?_))
      refine (c1.out _).mono ?_
      rintro e w_1 ⟨rfl, hb_1⟩
      have k1 := k1.below hb_1
      have k2 := k2.below hb_1
      have k3 := k3.below hb_1
      have k4 := k4.below hb_1
      have kb := bel kb hb_1
      clear hb_1
      go_upto_region 6 with (first | (refine wpList_store_arr rfl _ _ _ rfl _ _ rfl rfl _ (by first | assumption | exact Arr.new _ _ _) (by first | (rw [lims_len]; kernel_rfl) | (rw [el_rep]; kernel_rfl) | (rw [el_len]; kernel_rfl) | (rw [byts_len]; kernel_rfl) | (rw [us_len]; kernel_rfl) | (rw [bytn_len]; kernel_rfl) | (rw [ens_len, digs_len]; kernel_rfl) | (rw [ptL_len]; kernel_rfl) | (rw [pcs_len]; kernel_rfl) | kernel_rfl) (by first | (rw [lims_len, lims_len]) | (rw [el_rep, el_rep]) | (rw [el_rep, el_len]; rfl) | (rw [el_len, el_rep]; rfl) | (rw [el_len, el_len]; rfl) | (rw [byts_len, byts_len]) | (rw [lims_len]; rfl) | (rw [byts_len]; rfl) | (rw [us_len, us_len]; rfl) | (rw [bytn_len, bytn_len]) | (rw [bytn_len]; rfl) | (rw [ptL_len, ptL_len]) | (rw [pcs_len, pcs_len]) | (rw [ptL_len, pcs_len]) | (rw [pcs_len, ptL_len]) | (rw [ens_len, ens_len, digs_len, digs_len]) | rfl) (by first | exact lims_one _ _ | exact el_one _ | exact byts_one _ | exact us_one _ | exact bytn_one _ _ | exact ens_one _ | exact ptL_one _ _ _ _ | exact pcs_one _ | (intro v hv; simp at hv; rcases hv with rfl | rfl | rfl | rfl <;> rfl)) ?_))
      refine code_row k4 (fun w_2 k4 hoth hbel => ?_)
      have k1 := hoth _ _ (by omega) k1
      have k2 := hoth _ _ (by omega) k2
      have k3 := hoth _ _ (by omega) k3
      have kb := hbel _ _ (by omega) kb
      clear hoth hbel
      go_wp2_with (first | (refine wpList_load_arr2 rfl _ _ rfl _ rfl (by decide +kernel) _ (by assumption) (by first | (rw [lims_len]; kernel_rfl) | (rw [el_rep]; kernel_rfl) | (rw [el_len]; kernel_rfl) | (rw [byts_len]; kernel_rfl) | (rw [us_len]; kernel_rfl) | (rw [bytn_len]; kernel_rfl) | (rw [ens_len, digs_len]; kernel_rfl) | (rw [ptL_len]; kernel_rfl) | (rw [pcs_len]; kernel_rfl) | kernel_rfl) ?_))
      refine (c2.out _).mono ?_
      rintro e w_3 ⟨rfl, hb_3⟩
      have k1 := k1.below hb_3
      have k2 := k2.below hb_3
      have k3 := k3.below hb_3
      have k4 := k4.below hb_3
      have kb := bel kb hb_3
      clear hb_3
      by_cases h1 : t = 1
      · obtain rfl := h1
        go_wp2_with (first | (refine wpList_load_arr2 rfl _ _ rfl _ rfl (by decide +kernel) _ (by assumption) (by first | (rw [lims_len]; kernel_rfl) | (rw [el_rep]; kernel_rfl) | (rw [el_len]; kernel_rfl) | (rw [byts_len]; kernel_rfl) | (rw [us_len]; kernel_rfl) | (rw [bytn_len]; kernel_rfl) | (rw [ens_len, digs_len]; kernel_rfl) | (rw [ptL_len]; kernel_rfl) | (rw [pcs_len]; kernel_rfl) | kernel_rfl) ?_))
        refine (c3.out _).mono ?_
        rintro e w_4 ⟨rfl, hb_4⟩
        have k1 := k1.below hb_4
        have k2 := k2.below hb_4
        have k3 := k3.below hb_4
        have k4 := k4.below hb_4
        have kb := bel kb hb_4
        clear hb_4
        go_wp2_with (first | (refine wpList_store_arr rfl _ _ _ rfl _ _ rfl rfl _ (by first | assumption | exact Arr.new _ _ _) (by first | (rw [lims_len]; kernel_rfl) | (rw [el_rep]; kernel_rfl) | (rw [el_len]; kernel_rfl) | (rw [byts_len]; kernel_rfl) | (rw [us_len]; kernel_rfl) | (rw [bytn_len]; kernel_rfl) | (rw [ens_len, digs_len]; kernel_rfl) | (rw [ptL_len]; kernel_rfl) | (rw [pcs_len]; kernel_rfl) | kernel_rfl) (by first | (rw [lims_len, lims_len]) | (rw [el_rep, el_rep]) | (rw [el_rep, el_len]; rfl) | (rw [el_len, el_rep]; rfl) | (rw [el_len, el_len]; rfl) | (rw [byts_len, byts_len]) | (rw [lims_len]; rfl) | (rw [byts_len]; rfl) | (rw [us_len, us_len]; rfl) | (rw [bytn_len, bytn_len]) | (rw [bytn_len]; rfl) | (rw [ptL_len, ptL_len]) | (rw [pcs_len, pcs_len]) | (rw [ptL_len, pcs_len]) | (rw [pcs_len, ptL_len]) | (rw [ens_len, ens_len, digs_len, digs_len]) | rfl) (by first | exact lims_one _ _ | exact el_one _ | exact byts_one _ | exact us_one _ | exact bytn_one _ _ | exact ens_one _ | exact ptL_one _ _ _ _ | exact pcs_one _ | (intro v hv; simp at hv; rcases hv with rfl | rfl | rfl | rfl <;> rfl)) ?_))
        refine ⟨⟨m, r, by omega, by go_num, hstep1.out (by trivial), k1.row_other (by omega) _, k2.row_other (by omega) _, k3.row_other (by omega) _, k4.setRow _, below_setRow kb (by omega) _⟩, by simp [intOf]⟩
      · obtain rfl : t = 0 := by omega
        go_wp2_with fail
        exact ⟨⟨m, q, by omega, by go_num, hstep0.out (by trivial), k1, k2, k3, k4, kb⟩, by simp [intOf]⟩
set_option maxHeartbeats 2000000 in
set_option maxRecDepth 100000 in
theorem inverse_any (a : Nat) (ha : a < 18446744073709551616 ^ 4) (w : World) :
    Calls Tryz.prog 124 #[.agg (lims 4 a).toArray] w fun e w' => e = .returned (.agg (lims 4 (a ^ (pN - 2) % pN)).toArray) ∧ Below w.heap.size w w' := by
  have c1 := Lib.hid (fun w => prime_any w)
  have l2 : (lims 4 2).toArray = #[.int .u64 2, .int .u64 0, .int .u64 0, .int .u64 0] := lims_small 2 (by decide)
  have c2 := fun w => limSub_any pN 2 (by decide) w
  rw [borrow_all (by decide) (by decide), if_neg (by decide), show lims 4 (pN + 18446744073709551616 ^ 4 - 2) = lims 4 (pN - 2) from lims_mod _ _ ⟨1, by decide⟩, l2] at c2
  have c3 := Lib.hid (fun w => power_any a (pN - 2) ha (by decide) w)
  replace c2 := Lib.hid c2
  clear l2
  go_enter Tryz.func124, Tryz.ntmps124
  go_upto_region 1 with fail
  refine wp_new2 (fun W hsz k1 k2 kb => ?_)
  have k2 : Arr W (w.heap.size + 1) (lims 4 0) := k2
  go_wp2_with fail
  refine (c1.out _).mono ?_
  rintro e w_5 ⟨rfl, hb_5⟩
  have k1 := k1.below hb_5
  have k2 := k2.below hb_5
  have kb := bel kb hb_5
  clear hb_5
  go_wp2_with fail
  refine (c2.out _).mono ?_
  rintro e w_6 ⟨rfl, hb_6⟩
  have k1 := k1.below hb_6
  have k2 := k2.below hb_6
  have kb := bel kb hb_6
  clear hb_6
  go_upto_region 2 with (first | (refine wpList_store_arr rfl _ _ _ rfl _ _ rfl rfl _ (by first | assumption | exact Arr.new _ _ _) (by first | (rw [lims_len]; kernel_rfl) | (rw [el_rep]; kernel_rfl) | (rw [el_len]; kernel_rfl) | (rw [byts_len]; kernel_rfl) | (rw [us_len]; kernel_rfl) | (rw [bytn_len]; kernel_rfl) | (rw [ens_len, digs_len]; kernel_rfl) | (rw [ptL_len]; kernel_rfl) | (rw [pcs_len]; kernel_rfl) | kernel_rfl) (by first | (rw [lims_len, lims_len]) | (rw [el_rep, el_rep]) | (rw [el_rep, el_len]; rfl) | (rw [el_len, el_rep]; rfl) | (rw [el_len, el_len]; rfl) | (rw [byts_len, byts_len]) | (rw [lims_len]; rfl) | (rw [byts_len]; rfl) | (rw [us_len, us_len]; rfl) | (rw [bytn_len, bytn_len]) | (rw [bytn_len]; rfl) | (rw [ptL_len, ptL_len]) | (rw [pcs_len, pcs_len]) | (rw [ptL_len, pcs_len]) | (rw [pcs_len, ptL_len]) | (rw [ens_len, ens_len, digs_len, digs_len]) | rfl) (by first | exact lims_one _ _ | exact el_one _ | exact byts_one _ | exact us_one _ | exact bytn_one _ _ | exact ens_one _ | exact ptL_one _ _ _ _ | exact pcs_one _ | (intro v hv; simp at hv; rcases hv with rfl | rfl | rfl | rfl <;> rfl)) ?_))
  refine code_new (fun w9 k4 hb9 => ?_)
  have k1 := k1.below hb9
  have k2 := k2.below hb9
  have kb := bel kb hb9
  clear hb9
  go_wp2_with (first | (refine wpList_load_arr2 rfl _ _ rfl _ rfl (by decide +kernel) _ (by assumption) (by first | (rw [lims_len]; kernel_rfl) | (rw [el_rep]; kernel_rfl) | (rw [el_len]; kernel_rfl) | (rw [byts_len]; kernel_rfl) | (rw [us_len]; kernel_rfl) | (rw [bytn_len]; kernel_rfl) | (rw [ens_len, digs_len]; kernel_rfl) | (rw [ptL_len]; kernel_rfl) | (rw [pcs_len]; kernel_rfl) | kernel_rfl) ?_) | (refine wpList_store_arr rfl _ _ _ rfl _ _ rfl rfl _ (by first | assumption | exact Arr.new _ _ _) (by first | (rw [lims_len]; kernel_rfl) | (rw [el_rep]; kernel_rfl) | (rw [el_len]; kernel_rfl) | (rw [byts_len]; kernel_rfl) | (rw [us_len]; kernel_rfl) | (rw [bytn_len]; kernel_rfl) | (rw [ens_len, digs_len]; kernel_rfl) | (rw [ptL_len]; kernel_rfl) | (rw [pcs_len]; kernel_rfl) | kernel_rfl) (by first | (rw [lims_len, lims_len]) | (rw [el_rep, el_rep]) | (rw [el_rep, el_len]; rfl) | (rw [el_len, el_rep]; rfl) | (rw [el_len, el_len]; rfl) | (rw [byts_len, byts_len]) | (rw [lims_len]; rfl) | (rw [byts_len]; rfl) | (rw [us_len, us_len]; rfl) | (rw [bytn_len, bytn_len]) | (rw [bytn_len]; rfl) | (rw [ptL_len, ptL_len]) | (rw [pcs_len, pcs_len]) | (rw [ptL_len, pcs_len]) | (rw [pcs_len, ptL_len]) | (rw [ens_len, ens_len, digs_len, digs_len]) | rfl) (by first | exact lims_one _ _ | exact el_one _ | exact byts_one _ | exact us_one _ | exact bytn_one _ _ | exact ens_one _ | exact ptL_one _ _ _ _ | exact pcs_one _ | (intro v hv; simp at hv; rcases hv with rfl | rfl | rfl | rfl <;> rfl)) ?_))
  refine (c3.out _).mono ?_
  rintro e w_7 ⟨rfl, hb_7⟩
  have k2 := k2.below hb_7
  have kb := bel kb hb_7
  clear hb_7
  go_wp2_with (first | (refine wpList_load_arr2 rfl _ _ rfl _ rfl (by decide +kernel) _ (by assumption) (by first | (rw [lims_len]; kernel_rfl) | (rw [el_rep]; kernel_rfl) | (rw [el_len]; kernel_rfl) | (rw [byts_len]; kernel_rfl) | (rw [us_len]; kernel_rfl) | (rw [bytn_len]; kernel_rfl) | (rw [ens_len, digs_len]; kernel_rfl) | (rw [ptL_len]; kernel_rfl) | (rw [pcs_len]; kernel_rfl) | kernel_rfl) ?_) | (refine wpList_store_arr rfl _ _ _ rfl _ _ rfl rfl _ (by first | assumption | exact Arr.new _ _ _) (by first | (rw [lims_len]; kernel_rfl) | (rw [el_rep]; kernel_rfl) | (rw [el_len]; kernel_rfl) | (rw [byts_len]; kernel_rfl) | (rw [us_len]; kernel_rfl) | (rw [bytn_len]; kernel_rfl) | (rw [ens_len, digs_len]; kernel_rfl) | (rw [ptL_len]; kernel_rfl) | (rw [pcs_len]; kernel_rfl) | kernel_rfl) (by first | (rw [lims_len, lims_len]) | (rw [el_rep, el_rep]) | (rw [el_rep, el_len]; rfl) | (rw [el_len, el_rep]; rfl) | (rw [el_len, el_len]; rfl) | (rw [byts_len, byts_len]) | (rw [lims_len]; rfl) | (rw [byts_len]; rfl) | (rw [us_len, us_len]; rfl) | (rw [bytn_len, bytn_len]) | (rw [bytn_len]; rfl) | (rw [ptL_len, ptL_len]) | (rw [pcs_len, pcs_len]) | (rw [ptL_len, pcs_len]) | (rw [pcs_len, ptL_len]) | (rw [ens_len, ens_len, digs_len, digs_len]) | rfl) (by first | exact lims_one _ _ | exact el_one _ | exact byts_one _ | exact us_one _ | exact bytn_one _ _ | exact ens_one _ | exact ptL_one _ _ _ _ | exact pcs_one _ | (intro v hv; simp at hv; rcases hv with rfl | rfl | rfl | rfl <;> rfl)) ?_))
  exact bodyPost_ret (results_arr2 Tryz.results124 _ _ _ rfl (by kernel_rfl) _ (by first | assumption | exact Arr.setRow (by assumption) _) (by first | (rw [lims_len]; kernel_rfl) | (rw [el_rep]; kernel_rfl) | (rw [el_len]; kernel_rfl) | (rw [byts_len]; kernel_rfl) | (rw [us_len]; kernel_rfl) | (rw [bytn_len]; kernel_rfl) | (rw [ens_len, digs_len]; kernel_rfl) | (rw [ptL_len]; kernel_rfl) | (rw [pcs_len]; kernel_rfl) | kernel_rfl)) rfl ⟨rfl, below_setRow kb (by omega) _⟩
end Go.Proofs.YtibdgkhkhmdihaaGreatDoor


/- Elementary number theory: prime numbers, the little theorem of Fermat, and a proof that 2^255 - 19 is prime. No condition. -/
namespace Go.Proofs.YtibdgkhkhmdihaaGreatDoor
namespace Nt
/-- Pascal's numbers. -/
def ch : Nat → Nat → Nat
  | _, 0 => 1
  | 0, _ + 1 => 0
  | n + 1, k + 1 => ch n k + ch n (k + 1)
end Nt
end Go.Proofs.YtibdgkhkhmdihaaGreatDoor


namespace Go.Proofs.YtibdgkhkhmdihaaGreatDoor
open Go.RowKit
def hN : Nat := 28948022309329048855892746252171976963317496166410141009864396001978282409974
end Go.Proofs.YtibdgkhkhmdihaaGreatDoor


namespace Go.Proofs.YtibdgkhkhmdihaaGreatDoor
open Go.RowKit
theorem plus_r {a b r : Nat} (hr : Hid ((a + b) % pN = r)) (ha : a < 18446744073709551616 ^ 4) (hb : b < 18446744073709551616 ^ 4) (w : World) :
    Calls Tryz.prog 182 #[.agg (lims 4 a).toArray, .agg (lims 4 b).toArray] w fun e w' => e = .returned (.agg (lims 4 r).toArray) ∧ Below w.heap.size w w' := by rw [← hr.out]; exact plus_any a b ha hb w
theorem minus_r {a b r : Nat} (hr : Hid ((a + pN - b) % pN = r)) (ha : a < pN) (hb : b < pN) (w : World) :
    Calls Tryz.prog 181 #[.agg (lims 4 a).toArray, .agg (lims 4 b).toArray] w fun e w' => e = .returned (.agg (lims 4 r).toArray) ∧ Below w.heap.size w w' := by rw [← hr.out]; exact minus_any a b ha hb w
theorem times_r {a b r : Nat} (hr : Hid (a * b % pN = r)) (ha : a < 18446744073709551616 ^ 4) (hb : b < 18446744073709551616 ^ 4) (w : World) :
    Calls Tryz.prog 119 #[.agg (lims 4 a).toArray, .agg (lims 4 b).toArray] w fun e w' => e = .returned (.agg (lims 4 r).toArray) ∧ Below w.heap.size w w' := by rw [← hr.out]; exact times_any a b ha hb w
end Go.Proofs.YtibdgkhkhmdihaaGreatDoor

