/- The law PolyPads: its walk. -/
import Derived.Test.YtfljonglibpgcaaPl5
namespace Go.Proofs.Ytfljonglibpgcaa
open Go.RowKit

set_option maxHeartbeats 8000000 in
set_option maxRecDepth 100000 in
theorem polyPads_walk (K : Nat) (d : Option Addr) (cap : Nat) (bs : List UInt8) (a2 : Int) (w : World) (hK : K < 256 ^ 32) (hs : Sl w (.slice d bs.length cap) (u8s bs)) (w2 : (Lit.int .u8 a2).wf = true) :
    Calls Try.prog 5 #[.agg (byts K).toArray, .slice d bs.length cap, .int .u8 a2] w fun e w' => e = .returned (.bool true) ∧ Below w.heap.size w w' := by
  have hlen := hs.len
  rw [u8s_len] at hlen
  obtain ⟨-, hlc, hcm⟩ := hlen
  unfold maxLen at hcm
  replace hs := Lib.hid hs
  have hz' := wf_u8 w2
  clear w2
  by_cases hbig : 500 < bs.length
  · have iw : (500 : Int) < (bs.length : Int) := by omega
    go_enter Try.func5, Try.ntmps5
    go_upto_region 1 with fail
    refine wp_new1 (fun W hsz k2 kb => ?_)
    clear hsz
    go_wp2_with fail
    refine (alive10_any _).mono ?_
    rintro e w1 ⟨rfl, hb1⟩
    have kb := bel kb hb1
    go_wp2_with fail
    go_ret
    exact ⟨rfl, kb⟩
  have iw : ¬ (500 : Int) < (bs.length : Int) := by omega
  obtain ⟨z, rfl⟩ : ∃ n : Nat, a2 = (n : Int) := ⟨a2.toNat, by omega⟩
  obtain ⟨v3, v4, v15, M1, M2, M, f3, f4, f15, e3, e4, e15, d4, d15, hM, hMr, hMs⟩ := pads_key K z hK (by omega)
  obtain ⟨L, hL⟩ : ∃ L, K % 2 ^ 128 = L := ⟨_, rfl⟩
  have hLl : L < 256 ^ 32 := by omega
  have hL0 : L / 2 ^ 128 = 0 := by omega
  have hLr : polyR L = polyR K := by rw [← hL, polyR_low]
  obtain ⟨S, hS⟩ : ∃ S, K / 2 ^ 128 = S := ⟨_, rfl⟩
  rw [hS] at hMs
  have c1 := fun d cap w (h : Sls w (.slice d 1 cap) [bs]) => psum_any L hLl d cap [bs] w h
  have c2 := fun d cap w (h : Sls w (.slice d 1 cap) [bs]) => psum_any K hK d cap [bs] w h
  have c3 := fun d cap w (h : Sls w (.slice d 1 cap) [bs]) => psum_any M hM d cap [bs] w h
  rw [show [bs].flatten = bs by simp, hL0, hLr] at c1
  rw [show [bs].flatten = bs by simp, hS] at c2
  rw [show [bs].flatten = bs by simp, hMr, hMs] at c3
  obtain ⟨T, hT⟩ : ∃ T, polyT (polyR K) 0 bs = T := ⟨_, rfl⟩
  obtain ⟨U, hU⟩ : ∃ U, polyT (polyR K) S bs = U := ⟨_, rfl⟩
  rw [hT] at c1
  rw [hU] at c2 c3
  have hTU : bytn 16 U = bytn 16 (T + S) := by
    rw [bytn_low (T + S), ← hU, ← hT, polyT, polyT, Nat.mod_add_mod, Nat.add_assoc _ 0 S, Nat.zero_add]
  have hsd : ∀ i, S / 256 ^ i % 256 = K / 256 ^ (16 + i) % 256 := fun i => by rw [← hS, hi_digit]
  have hdig := fun i => carry_digit 256 i T S (by decide)
  have hcs := fun i => carry_step 256 i T S (by decide)
  have hc0 := carry_zero 256 T S
  have hcl := fun i => carry_le 256 i T S (by decide)
  have q := Lib.hid (fun w => eq_tag_same U w)
  have hll : (byts L).length = (byts K).length := by rw [byts_len, byts_len]
  have hlz : ∀ i, 16 ≤ i → i < 32 → (byts L)[i]? = some (.int .u8 0) := by
    intro i h1 h2
    obtain ⟨t, rfl⟩ : ∃ t, i = 16 + t := ⟨i - 16, by omega⟩
    rw [byts_get _ _ h2, ← hi_digit, hL0, Nat.zero_div]; rfl
  have hm16 : mixl 16 (byts L) (byts K) = byts K := by
    apply List.ext_getElem?
    intro j
    by_cases hj : j < 32
    · rw [mixl_get hll (by rw [byts_len]; exact hj)]
      split
      · rename_i h16
        have e : (2 : Nat) ^ 128 = 256 ^ j * (256 * 256 ^ (15 - j)) := by
          rw [← Nat.mul_assoc, ← Nat.pow_succ, ← Nat.pow_add, show j + 1 + (15 - j) = 16 by omega]
        rw [byts_get _ _ hj, byts_get _ _ hj, ← hL, e, Nat.mod_mul_right_div_self, Nat.mod_mul_right_mod]
      · rfl
    · rw [List.getElem?_eq_none (by rw [mixl_len hll, byts_len]; omega), List.getElem?_eq_none (by rw [byts_len]; omega)]
  have hall := mixl_all hll
  rw [byts_len] at hall
  have hk0 : ∀ i, i < 32 → (mixl i (byts L) (byts K))[i]? = some (.int .u8 ((K / 256 ^ i % 256 : Nat) : Int)) := by
    intro i hi
    rw [mixl_get hll (by rw [byts_len]; omega), if_neg (Nat.lt_irrefl i), byts_get _ _ hi]
  have g3 := byts_get K 3 (by decide)
  have g4 := byts_get M1 4 (by decide)
  have g15 := byts_get M2 15 (by decide)
  rw [d4] at g4
  rw [d15] at g15
  obtain ⟨x3, hx3⟩ : ∃ x, K / 256 ^ 3 % 256 = x := ⟨_, rfl⟩
  obtain ⟨x4, hx4⟩ : ∃ x, K / 256 ^ 4 % 256 = x := ⟨_, rfl⟩
  obtain ⟨x15, hx15⟩ : ∃ x, K / 256 ^ 15 % 256 = x := ⟨_, rfl⟩
  rw [hx3] at g3 f3
  rw [hx4] at g4 f4
  rw [hx15] at g15 f15
  clear hM hMr hMs hLl hL0 hLr hL hS hT hU hK d4 d15 hx3 hx4 hx15 hbig
  replace c1 := Lib.hid c1
  replace c2 := Lib.hid c2
  replace c3 := Lib.hid c3
  replace hTU := Lib.hid hTU
  replace hsd := Lib.hid hsd
  replace hdig := Lib.hid hdig
  replace hcs := Lib.hid hcs
  replace hc0 := Lib.hid hc0
  replace hcl := Lib.hid hcl
  replace hll := Lib.hid hll
  replace hlz := Lib.hid hlz
  replace hm16 := Lib.hid hm16
  replace hall := Lib.hid hall
  replace hk0 := Lib.hid hk0
  replace g3 := Lib.hid g3
  replace g4 := Lib.hid g4
  replace g15 := Lib.hid g15
  replace e3 := Lib.hid e3
  replace e4 := Lib.hid e4
  replace e15 := Lib.hid e15
  replace f3 := Lib.hid f3
  replace f4 := Lib.hid f4
  replace f15 := Lib.hid f15
  go_enter Try.func5, Try.ntmps5
  go_upto_region 1 with fail
  refine wp_new1 (fun W hsz k3 kb => ?_)
  clear hsz
  have k3 : Arr W w.heap.size (byts K) := k3
  go_wp2_with fail
  refine (alive10_any _).mono ?_
  rintro e w1 ⟨rfl, hb1⟩
  have k3 := k3.below hb1
  have kb := bel kb hb1
  clear hb1
  go_upto_region 5 with (first | (refine wpList_load_arr2 rfl _ _ rfl _ rfl (by kernel_rfl) _ (by assumption) (by first | (rw [lims_len]; kernel_rfl) | (rw [el_rep]; kernel_rfl) | (rw [el_len]; kernel_rfl) | (rw [byts_len]; kernel_rfl) | (rw [us_len]; kernel_rfl) | (rw [bytn_len]; kernel_rfl) | (rw [ens_len, digs_len]; kernel_rfl) | kernel_rfl) ?_) | (refine wpList_store_arr rfl _ _ _ rfl _ _ rfl rfl _ (by first | assumption | exact Arr.new _ _ _) (by first | (rw [lims_len]; kernel_rfl) | (rw [el_rep]; kernel_rfl) | (rw [el_len]; kernel_rfl) | (rw [byts_len]; kernel_rfl) | (rw [us_len]; kernel_rfl) | (rw [bytn_len]; kernel_rfl) | (rw [ens_len, digs_len]; kernel_rfl) | kernel_rfl) (by first | (rw [lims_len, lims_len]) | (rw [el_rep, el_rep]) | (rw [el_rep, el_len]; rfl) | (rw [el_len, el_rep]; rfl) | (rw [el_len, el_len]; rfl) | (rw [byts_len, byts_len]) | (rw [lims_len]; rfl) | (rw [byts_len]; rfl) | (rw [us_len, us_len]; rfl) | (rw [bytn_len, bytn_len]) | (rw [bytn_len]; rfl) | (rw [ens_len, ens_len, digs_len, digs_len]) | rfl) (by first | exact lims_one _ _ | exact el_one _ | exact byts_one _ | exact us_one _ | exact bytn_one _ _ | exact ens_one _ | (intro v hv; simp at hv; rcases hv with rfl | rfl | rfl | rfl <;> rfl)) ?_))
  have hg_k8_k3 := k3.lt
  refine code_new (fun w_1 k8 hnew => ?_)
  have k3 := k3.below hnew
  have kb := bel kb hnew
  clear hnew
  generalize (w1).heap.size = g_k8 at k8 hg_k8_k3 ⊢
  have k8 : Arr w_1 g_k8 (mixl 16 (byts L) (byts K)) := by rw [hm16.out]; exact k8
  go_wp2_with fail
  go_loopw [9] (fun iv wr => ∃ i : Nat, 16 ≤ i ∧ i ≤ 32 ∧ iv = .int .i64 i ∧ Arr wr w.heap.size (byts K) ∧ Arr wr g_k8 (mixl i (byts L) (byts K)) ∧ Below w.heap.size w wr) (fun iv _ => 32 - (intOf iv).toNat)
  case atStart => exact ⟨16, by omega, by omega, rfl, k3, k8, kb⟩
  case round =>
    clear k3 k8 kb
    obtain ⟨i, hi0, hi, rfl, k3, k8, kb⟩ := hrel
    by_cases hlt : i < 32
    · have g1 := hk0.out i hlt
      have hset := mixl_set hll.out (hlz.out i hi0 hlt)
      have hcel := k8.cell g1
      have hfro := k8.frozen i
      replace g1 := Lib.hid g1
      replace hset := Lib.hid hset
      go_wp2_with fail
      refine ⟨⟨i + 1, by omega, by omega, by go_num, k3.other (by simp; omega) _, ?_, kb.setCell (by simp; omega) _⟩, by simp [intOf]; omega⟩
      have := k8.set i (.int .u8 0)
      rw [hset.out] at this
      exact this
    · have hi32 : i = 32 := by omega
      rw [hi32, hall.out] at k8
      have hs1 := Lib.hid (Sls.new1 (hs.out.below kb))
      clear hlz hm16 hall hk0 hll hi hi0
      go_upto_region 9 with fail
      clear hi32 hlt
      go_wp2_with (refine wpList_load_arr2 rfl _ _ rfl _ rfl (by kernel_rfl) _ (by assumption) (by first | (rw [lims_len]; kernel_rfl) | (rw [el_rep]; kernel_rfl) | (rw [el_len]; kernel_rfl) | (rw [byts_len]; kernel_rfl) | (rw [us_len]; kernel_rfl) | (rw [bytn_len]; kernel_rfl) | (rw [ens_len, digs_len]; kernel_rfl) | kernel_rfl) ?_)
      refine (c1.out _ _ _ (hs1.out _)).mono ?_
      rintro e w2 ⟨rfl, hb2⟩
      have hb3 := bel (below_alloc wr _) hb2
      have k3 := k3.below hb3
      have kb := bel kb hb3
      clear hb2 hb3 k8 hs1
      go_upto_region 10 with (refine wpList_store_arr rfl _ _ _ rfl _ _ rfl rfl _ (by first | assumption | exact Arr.new _ _ _) (by first | (rw [lims_len]; kernel_rfl) | (rw [el_rep]; kernel_rfl) | (rw [el_len]; kernel_rfl) | (rw [byts_len]; kernel_rfl) | (rw [us_len]; kernel_rfl) | (rw [bytn_len]; kernel_rfl) | (rw [ens_len, digs_len]; kernel_rfl) | kernel_rfl) (by first | (rw [lims_len, lims_len]) | (rw [el_rep, el_rep]) | (rw [el_rep, el_len]; rfl) | (rw [el_len, el_rep]; rfl) | (rw [el_len, el_len]; rfl) | (rw [byts_len, byts_len]) | (rw [lims_len]; rfl) | (rw [byts_len]; rfl) | (rw [us_len, us_len]; rfl) | (rw [bytn_len, bytn_len]) | (rw [bytn_len]; rfl) | (rw [ens_len, ens_len, digs_len, digs_len]) | rfl) (by first | exact lims_one _ _ | exact el_one _ | exact byts_one _ | exact us_one _ | exact bytn_one _ _ | exact ens_one _ | (intro v hv; simp at hv; rcases hv with rfl | rfl | rfl | rfl <;> rfl)) ?_)
      have hg_k10_k3 := k3.lt
      refine code_new (fun w_2 k10 hnew => ?_)
      have k3 := k3.below hnew
      have kb := bel kb hnew
      clear hnew
      generalize (w2).heap.size = g_k10 at k10 hg_k10_k3 ⊢
      have hs1 := Lib.hid (Sls.new1 (hs.out.below kb))
      go_wp2_with (refine wpList_load_arr2 rfl _ _ rfl _ rfl (by kernel_rfl) _ (by assumption) (by first | (rw [lims_len]; kernel_rfl) | (rw [el_rep]; kernel_rfl) | (rw [el_len]; kernel_rfl) | (rw [byts_len]; kernel_rfl) | (rw [us_len]; kernel_rfl) | (rw [bytn_len]; kernel_rfl) | (rw [ens_len, digs_len]; kernel_rfl) | kernel_rfl) ?_)
      refine (c2.out _ _ _ (hs1.out _)).mono ?_
      rintro e w4 ⟨rfl, hb4⟩
      have hb5 := bel (below_alloc _ _) hb4
      have k3 := k3.below hb5
      have k10 := k10.below hb5
      have kb := bel kb hb5
      clear hb4 hb5 hs1
      go_upto_region 11 with (refine wpList_store_arr rfl _ _ _ rfl _ _ rfl rfl _ (by first | assumption | exact Arr.new _ _ _) (by first | (rw [lims_len]; kernel_rfl) | (rw [el_rep]; kernel_rfl) | (rw [el_len]; kernel_rfl) | (rw [byts_len]; kernel_rfl) | (rw [us_len]; kernel_rfl) | (rw [bytn_len]; kernel_rfl) | (rw [ens_len, digs_len]; kernel_rfl) | kernel_rfl) (by first | (rw [lims_len, lims_len]) | (rw [el_rep, el_rep]) | (rw [el_rep, el_len]; rfl) | (rw [el_len, el_rep]; rfl) | (rw [el_len, el_len]; rfl) | (rw [byts_len, byts_len]) | (rw [lims_len]; rfl) | (rw [byts_len]; rfl) | (rw [us_len, us_len]; rfl) | (rw [bytn_len, bytn_len]) | (rw [bytn_len]; rfl) | (rw [ens_len, ens_len, digs_len, digs_len]) | rfl) (by first | exact lims_one _ _ | exact el_one _ | exact byts_one _ | exact us_one _ | exact bytn_one _ _ | exact ens_one _ | (intro v hv; simp at hv; rcases hv with rfl | rfl | rfl | rfl <;> rfl)) ?_)
      have hg_k11_k3 := k3.lt
      have hg_k11_k10 := k10.lt
      refine code_new (fun w_3 k11 hnew => ?_)
      have k3 := k3.below hnew
      have k10 := k10.below hnew
      have kb := bel kb hnew
      clear hnew
      generalize (w4).heap.size = g_k11 at k11 hg_k11_k3 hg_k11_k10 ⊢
      go_wp2_with fail
      go_loopw [13, 12] (fun iv cv wr => ∃ i c : Nat, i ≤ 16 ∧ iv = .int .i64 i ∧ cv = .int .i64 c ∧ carry 256 i T S = c ∧ Arr wr w.heap.size (byts K) ∧ Arr wr g_k10 (bytn 16 T) ∧ Arr wr g_k11 (bytn 16 U) ∧ Below w.heap.size w wr) (fun iv _ _ => 16 - (intOf iv).toNat)
      case atStart => exact ⟨0, 0, by omega, rfl, rfl, hc0.out, k3, k10, k11, kb⟩
      case round =>
        clear k3 k10 k11 kb
        obtain ⟨i, c, hi, rfl, rfl, hc, k3, k10, k11, kb⟩ := hrel
        have hc1 : c ≤ 1 := by have := hcl.out i; omega
        by_cases hlt : i < 16
        · obtain ⟨x, hx⟩ : ∃ x, T / 256 ^ i % 256 = x := ⟨_, rfl⟩
          obtain ⟨y, hy⟩ : ∃ y, S / 256 ^ i % 256 = y := ⟨_, rfl⟩
          have hxl : x < 256 := hx ▸ Nat.mod_lt _ (by decide)
          have hyl : y < 256 := hy ▸ Nat.mod_lt _ (by decide)
          have hd := hdig.out i
          have hs := hcs.out i
          rw [hx, hy, hc] at hd hs
          have gx := bytn_get 16 T i hlt
          rw [hx] at gx
          have gy := byts_get K (16 + i) (by omega)
          rw [← hsd.out, hy] at gy
          have gu := bytn_get 16 (T + S) i hlt
          rw [hd, ← hTU.out] at gu
          replace hd := Lib.hid hd
          replace hs := Lib.hid hs
          replace hc := Lib.hid hc
          replace gx := Lib.hid gx
          replace gy := Lib.hid gy
          replace hx := Lib.hid hx
          replace hy := Lib.hid hy
          have iw1 : IntKind.i64.wrap ((c : Int) + (x : Int)) = (c : Int) + (x : Int) := i64_in (by omega)
          have iw2 : IntKind.i64.wrap ((c : Int) + (x : Int) + (y : Int)) = (c : Int) + (x : Int) + (y : Int) := i64_in (by omega)
          have iw3 : (i : Int) < 32 := by omega
          have iw4 : IntKind.i64.wrap (16 + (i : Int)) = 16 + (i : Int) := i64_in (by omega)
          have iw5 : (0 : Int) ≤ 16 + (i : Int) := by omega
          have iw6 : 16 + (i : Int) < 32 := by omega
          have iw7 : (16 + (i : Int)).toNat = 16 + i := by omega
          have e9 : (((x + y + c) % 256 : Nat) : Int) = ((c : Int) + x + y) % 256 := by omega
          rw [e9] at gu
          replace gu := Lib.hid gu
          clear e9
          go_upto_region 15 with (first | (refine wpList_load_arr2 rfl _ _ rfl _ rfl (by kernel_rfl) _ (by assumption) (by first | (rw [lims_len]; kernel_rfl) | (rw [el_rep]; kernel_rfl) | (rw [el_len]; kernel_rfl) | (rw [byts_len]; kernel_rfl) | (rw [us_len]; kernel_rfl) | (rw [bytn_len]; kernel_rfl) | (rw [ens_len, digs_len]; kernel_rfl) | kernel_rfl) ?_) | (refine wpList_store_arr rfl _ _ _ rfl _ _ rfl rfl _ (by first | assumption | exact Arr.new _ _ _) (by first | (rw [lims_len]; kernel_rfl) | (rw [el_rep]; kernel_rfl) | (rw [el_len]; kernel_rfl) | (rw [byts_len]; kernel_rfl) | (rw [us_len]; kernel_rfl) | (rw [bytn_len]; kernel_rfl) | (rw [ens_len, digs_len]; kernel_rfl) | kernel_rfl) (by first | (rw [lims_len, lims_len]) | (rw [el_rep, el_rep]) | (rw [el_rep, el_len]; rfl) | (rw [el_len, el_rep]; rfl) | (rw [el_len, el_len]; rfl) | (rw [byts_len, byts_len]) | (rw [lims_len]; rfl) | (rw [byts_len]; rfl) | (rw [us_len, us_len]; rfl) | (rw [bytn_len, bytn_len]) | (rw [bytn_len]; rfl) | (rw [ens_len, ens_len, digs_len, digs_len]) | rfl) (by first | exact lims_one _ _ | exact el_one _ | exact byts_one _ | exact us_one _ | exact bytn_one _ _ | exact ens_one _ | (intro v hv; simp at hv; rcases hv with rfl | rfl | rfl | rfl <;> rfl)) ?_))
          refine Tx.start (fun w' => Below (wr).heap.size (wr) w') 9999 13 rfl (by kernel_rfl) ?_
          have hS_4 : Below (wr).heap.size (wr) (World.drew wr) := (Below.refl _ _).drew
          refine Tx.seg (A := ?_) 0 8191 (by kernel_rfl) (by exact hS_4) [0, 1, 2, 3, 4, 5, 6, 7, 8, 9, 10, 11, 12] (by kernel_rfl) ?_ ?_
          rotate_left
          · intro w' hB
            have e0 := k3.below hB
            have e1 := k10.below hB
            have e2 := k11.below hB
            have c1 := (k10.below hB).cell gx.out
            have c2 := (k3.below hB).cell gy.out
            iterate 13 (first | (refine rd_skip rfl rfl ?_; simp only [Act.put, List.setIfInBounds_toArray, List.set_cons_zero, List.set_cons_succ]) | (refine rd_load_arr rfl rfl _ _ rfl _ rfl (by kernel_rfl) _ (by assumption) (by first | (rw [lims_len]; kernel_rfl) | (rw [el_rep]; kernel_rfl) | (rw [el_len]; kernel_rfl) | (rw [byts_len]; kernel_rfl) | (rw [us_len]; kernel_rfl) | (rw [bytn_len]; kernel_rfl) | (rw [ens_len, digs_len]; kernel_rfl) | kernel_rfl) ?_; simp only [Act.put, List.setIfInBounds_toArray, List.set_cons_zero, List.set_cons_succ]) | (refine rd_take (v := ?_) rfl rfl ?_ ?_; rotate_left; (focus (go_simp; try (with_reducible rfl))); simp only [Act.put, List.setIfInBounds_toArray, List.set_cons_zero, List.set_cons_succ]) | (refine rd_take (v := ?_) rfl rfl ?_ ?_; rotate_left; (focus (try go_simp); fail)))
            exact rd_nil
          refine Tx.done (by kernel_rfl) ?_
          have k3 := k3.below hS_4
          have k10 := k10.below hS_4
          have k11 := k11.below hS_4
          have kb := bel kb hS_4
          clear hS_4
          clear iw1 iw2 iw3 iw4 iw5 iw6 iw7
          have hcel := k11.cell gu.out
          have hand3 := and_255 ((c : Int) + (x : Int) + (y : Int))
          go_wp2_with fail
          exact ⟨⟨i + 1, (x + y + c) / 256, by omega, by go_num, by rw [show ((c : Int) + x + y) / 256 = (((x + y + c) / 256 : Nat) : Int) by omega], hs.out, k3, k10, k11, kb⟩, by simp [intOf]; omega⟩
        · have hi16 : i = 16 := by omega
          clear hdig hcs hc0 hcl hTU hsd hi
          go_upto_region 20 with (first | (refine wpList_load_arr2 rfl _ _ rfl _ rfl (by kernel_rfl) _ (by assumption) (by first | (rw [lims_len]; kernel_rfl) | (rw [el_rep]; kernel_rfl) | (rw [el_len]; kernel_rfl) | (rw [byts_len]; kernel_rfl) | (rw [us_len]; kernel_rfl) | (rw [bytn_len]; kernel_rfl) | (rw [ens_len, digs_len]; kernel_rfl) | kernel_rfl) ?_) | (refine wpList_store_arr rfl _ _ _ rfl _ _ rfl rfl _ (by first | assumption | exact Arr.new _ _ _) (by first | (rw [lims_len]; kernel_rfl) | (rw [el_rep]; kernel_rfl) | (rw [el_len]; kernel_rfl) | (rw [byts_len]; kernel_rfl) | (rw [us_len]; kernel_rfl) | (rw [bytn_len]; kernel_rfl) | (rw [ens_len, digs_len]; kernel_rfl) | kernel_rfl) (by first | (rw [lims_len, lims_len]) | (rw [el_rep, el_rep]) | (rw [el_rep, el_len]; rfl) | (rw [el_len, el_rep]; rfl) | (rw [el_len, el_len]; rfl) | (rw [byts_len, byts_len]) | (rw [lims_len]; rfl) | (rw [byts_len]; rfl) | (rw [us_len, us_len]; rfl) | (rw [bytn_len, bytn_len]) | (rw [bytn_len]; rfl) | (rw [ens_len, ens_len, digs_len, digs_len]) | rfl) (by first | exact lims_one _ _ | exact el_one _ | exact byts_one _ | exact us_one _ | exact bytn_one _ _ | exact ens_one _ | (intro v hv; simp at hv; rcases hv with rfl | rfl | rfl | rfl <;> rfl)) ?_))
          clear hi16 hlt hc1 hc k10
          have hg_k14_k3 := k3.lt
          have hg_k14_k11 := k11.lt
          refine code_new (fun w_5 k14 hnew => ?_)
          have k3 := k3.below hnew
          have k11 := k11.below hnew
          have kb := bel kb hnew
          clear hnew
          generalize (wr).heap.size = g_k14 at k14 hg_k14_k3 hg_k14_k11 ⊢
          have hcel := k14.cell g3.out
          have hfro := k14.frozen 3
          have b3 := f3.out
          go_upto_region 21 with fail
          refine code_cell k14 (fun w_6 k14 hoth hbel => ?_)
          have k3 := hoth _ _ (by omega) k3
          have k11 := hoth _ _ (by omega) k11
          have kb := hbel _ _ (by omega) kb
          clear hoth hbel
          rw [e3.out] at k14
          clear hcel hfro b3
          have hcel := k14.cell g4.out
          have hfro := k14.frozen 4
          have b4 := f4.out
          go_upto_region 22 with fail
          refine code_cell k14 (fun w_7 k14 hoth hbel => ?_)
          have k3 := hoth _ _ (by omega) k3
          have k11 := hoth _ _ (by omega) k11
          have kb := hbel _ _ (by omega) kb
          clear hoth hbel
          rw [e4.out] at k14
          clear hcel hfro b4
          have hcel := k14.cell g15.out
          have hfro := k14.frozen 15
          have b15 := f15.out
          go_upto_region 23 with fail
          refine code_cell k14 (fun w_8 k14 hoth hbel => ?_)
          have k3 := hoth _ _ (by omega) k3
          have k11 := hoth _ _ (by omega) k11
          have kb := hbel _ _ (by omega) kb
          clear hoth hbel
          rw [e15.out] at k14
          clear hcel hfro b15
          refine Tx.start (fun w' => Below (w_8).heap.size (w_8) w') 9999 7 rfl (by kernel_rfl) ?_
          have hS_9 : Below (w_8).heap.size (w_8) (World.drew w_8) := (Below.refl _ _).drew
          refine Tx.seg (A := ?_) 4 19 (by kernel_rfl) (by exact hS_9) [0, 1, 4] (by kernel_rfl) ?_ ?_
          rotate_left
          · intro w' hB
            have e1 := k14.below hB
            have e2 := k11.below hB
            iterate 3 (first | (refine rd_skip rfl rfl ?_; simp only [Act.put, List.setIfInBounds_toArray, List.set_cons_zero, List.set_cons_succ]) | (refine rd_load_arr rfl rfl _ _ rfl _ rfl (by kernel_rfl) _ (by assumption) (by first | (rw [lims_len]; kernel_rfl) | (rw [el_rep]; kernel_rfl) | (rw [el_len]; kernel_rfl) | (rw [byts_len]; kernel_rfl) | (rw [us_len]; kernel_rfl) | (rw [bytn_len]; kernel_rfl) | (rw [ens_len, digs_len]; kernel_rfl) | kernel_rfl) ?_; simp only [Act.put, List.setIfInBounds_toArray, List.set_cons_zero, List.set_cons_succ]) | (refine rd_take (v := ?_) rfl rfl ?_ ?_; rotate_left; (focus (go_simp; try (with_reducible rfl))); simp only [Act.put, List.setIfInBounds_toArray, List.set_cons_zero, List.set_cons_succ]) | (refine rd_take (v := ?_) rfl rfl ?_ ?_; rotate_left; (focus (try go_simp); fail)))
            exact rd_nil
          refine Tx.eff 2 23 rfl (by decide +kernel) (fun K hK => ?_)
          go_simp
          refine hK (fun w' => Below (w_8).heap.size (w_8) w') _ _ (ext_trans hS_9 (Nat.le_refl _) (below_alloc _ _)) (fun _ h => h) ?_
          clear hK K
          try simp only [Act.put, List.setIfInBounds_toArray, List.set_cons_zero, List.set_cons_succ]
          refine Tx.newF (F := fun w' => Sls w' (.slice (some ⟨(w_8).heap.size, 0, none⟩) 1 1) [bs]) (w0 := w_8) (Sls.new1 (hs.out.below kb) _) (fun w1 h => h.below (Below.refl _ _).drew) (by first | exact .inl rfl | exact .inr rfl) (fun w_10 h2 hnew => ?_)
          have hS_10 : Below (w_8).heap.size (w_8) w_10 := by first | exact hnew | exact ext_trans hS_9 (Nat.le_refl _) hnew
          clear hnew hS_9
          refine Tx.eff 3 31 rfl (by decide +kernel) (fun K hK => ?_)
          go_simp
          refine (c3.out _ _ _ h2).mono ?_
          rintro e w_11 ⟨rfl, hb_11⟩
          have hS_11 := ext_trans hS_10 (Nat.le_refl _) hb_11
          refine hK (fun w' => Below (w_8).heap.size (w_8) w') _ _ hS_11 (fun _ h => h) ?_
          clear hK K hb_11 hS_10
          try simp only [Act.put, List.setIfInBounds_toArray, List.set_cons_zero, List.set_cons_succ]
          refine Tx.seg (A := ?_) 0 127 (by kernel_rfl) (by exact hS_11) [5, 6] (by kernel_rfl) ?_ ?_
          rotate_left
          · intro w' hB
            have e1 := q.out w'
            iterate 2 (first | (refine rd_skip rfl rfl ?_; simp only [Act.put, List.setIfInBounds_toArray, List.set_cons_zero, List.set_cons_succ]) | (refine rd_load_arr rfl rfl _ _ rfl _ rfl (by kernel_rfl) _ (by assumption) (by first | (rw [lims_len]; kernel_rfl) | (rw [el_rep]; kernel_rfl) | (rw [el_len]; kernel_rfl) | (rw [byts_len]; kernel_rfl) | (rw [us_len]; kernel_rfl) | (rw [bytn_len]; kernel_rfl) | (rw [ens_len, digs_len]; kernel_rfl) | kernel_rfl) ?_; simp only [Act.put, List.setIfInBounds_toArray, List.set_cons_zero, List.set_cons_succ]) | (refine rd_take (v := ?_) rfl rfl ?_ ?_; rotate_left; (focus (go_simp; try (with_reducible rfl))); simp only [Act.put, List.setIfInBounds_toArray, List.set_cons_zero, List.set_cons_succ]) | (refine rd_take (v := ?_) rfl rfl ?_ ?_; rotate_left; (focus (try go_simp); fail)))
            exact rd_nil
          refine Tx.done (by kernel_rfl) ?_
          have kb := bel kb hS_11
          clear hS_11
          go_wp2_with fail
          go_ret
          exact ⟨rfl, kb⟩

end Go.Proofs.Ytfljonglibpgcaa
