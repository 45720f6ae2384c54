/- Reference of the scalars: bytes of a number; a sum. -/
import Derived.Test.YtdcbpilibaigmaaDoorRq2
namespace Go.Proofs.YtdcbpilibaigmaaDoor
open Go.RowKit

/-- The k lowest bytes of n. -/
def bytn (k n : Nat) : List Value := (digs 256 k n).map fun (x : Nat) => .int .u8 (x : Int)
theorem bytn_len (k n : Nat) : (bytn k n).length = k := by simp [bytn, digs_len]
theorem bytn_get (k n i : Nat) (h : i < k) : (bytn k n)[i]? = some (.int .u8 ((n / 256 ^ i % 256 : Nat) : Int)) := by simp [bytn, digs_get _ _ _ _ h]
theorem bytn_one (k n : Nat) : ∀ v ∈ bytn k n, v.oneCell' = true := by
  intro v hv
  simp only [bytn, List.mem_map] at hv
  obtain ⟨x, -, rfl⟩ := hv
  rfl
theorem bytn_u8s (k a : Nat) : bytn k a = u8s ((digs 256 k a).map UInt8.ofNat) := by
  simp only [bytn, u8s, List.map_map]
  apply List.map_congr_left
  intro x hx
  have := digs_lt 256 k a (by decide) x hx
  simp
  omega
theorem val_u8sn (k a : Nat) (hk : k ≤ 64) (ha : a < 256 ^ k) : val 256 ((((digs 256 k a).map UInt8.ofNat).take 64).map (·.toNat)) = a := by
  rw [List.take_of_length_le (by simpa [digs_len] using hk), List.map_map]
  have e : List.map ((fun x => x.toNat) ∘ UInt8.ofNat) (digs 256 k a) = digs 256 k a := by
    conv => rhs; rw [← List.map_id (digs 256 k a)]
    apply List.map_congr_left
    intro x hx
    have := digs_lt 256 k a (by decide) x hx
    simp
    omega
  rw [e, val_digs, Nat.mod_eq_of_lt ha]
theorem bytn_mix {k n : Nat} (h : n < 256 ^ k) : mixl k (bytn 64 n) (bytn 64 0) = bytn 64 n := by
  apply List.ext_getElem?
  intro j
  by_cases hj : j < 64
  · rw [mixl_get (by rw [bytn_len, bytn_len]) (by rw [bytn_len]; exact hj)]
    split
    · rfl
    · rw [bytn_get _ _ _ hj, bytn_get _ _ _ hj, Nat.div_eq_of_lt (Nat.lt_of_lt_of_le h (Nat.pow_le_pow_right (by decide) (by omega))), Nat.zero_div]
  · rw [List.getElem?_eq_none (by rw [mixl_len (by rw [bytn_len, bytn_len]), bytn_len]; omega), List.getElem?_eq_none (by rw [bytn_len]; omega)]

theorem rqReduceArr (a : Nat) (ha : a < 256 ^ 64) (g : Nat) (w : World) (h : Arr w g (bytn 64 a)) (kG : Arr w 0 (el (dgl 32 qN))) :
    Calls Tryd.prog 8 #[.slice (some ⟨g, 0, none⟩) 64 64] w fun e w' => e = .returned (.agg (byts (a % qN)).toArray) ∧ Below w.heap.size w w' := by
  have hs := Sl.of_arr h (by rw [bytn_len]; decide)
  rw [bytn_len, bytn_u8s] at hs
  have := rqReduce_any _ _ _ _ w hs kG
  rwa [val_u8sn 64 a (by decide) ha] at this

set_option maxHeartbeats 2000000 in
set_option maxRecDepth 100000 in
theorem rqAdd_any (a b : Nat) (ha : a < 256 ^ 32) (hb : b < 256 ^ 32) (w : World) (kG : Arr w 0 (el (dgl 32 qN))) :
    Calls Tryd.prog 11 #[.agg (byts a).toArray, .agg (byts b).toArray] w fun e w' => e = .returned (.agg (byts ((a + b) % qN)).toArray) ∧ Below w.heap.size w w' := by
  have hG1 := kG.lt
  obtain ⟨N, hN⟩ : ∃ N, a + b = N := ⟨_, rfl⟩
  have hN33 : N < 256 ^ 33 := by omega
  have hdig := fun k => carry_digit 256 k a b (by decide)
  have hcs := fun k => carry_step 256 k a b (by decide)
  rw [hN] at hdig
  have ha32 : a / 256 ^ 32 % 256 = 0 := by rw [Nat.div_eq_of_lt ha]
  have hb32 : b / 256 ^ 32 % 256 = 0 := by rw [Nat.div_eq_of_lt hb]
  have hmx := bytn_mix (k := 33) hN33
  have hm0 := mixl_zero (bytn 64 N) (bytn 64 0)
  have hc0 := carry_zero 256 a b
  have hcl := fun k => carry_le 256 k a b (by decide)
  have c1 := fun g w h kG => rqReduceArr N (Nat.lt_trans hN33 (by decide)) g w h kG
  rw [hN]
  clear ha hb hN hN33
  obtain ⟨R, hR⟩ : ∃ R, N % qN = R := ⟨_, rfl⟩
  rw [hR] at c1 ⊢
  replace hdig := Lib.hid hdig
  replace hcs := Lib.hid hcs
  replace ha32 := Lib.hid ha32
  replace hb32 := Lib.hid hb32
  replace hmx := Lib.hid hmx
  replace hm0 := Lib.hid hm0
  replace hc0 := Lib.hid hc0
  replace hcl := Lib.hid hcl
  replace c1 := Lib.hid c1
  clear hR
  go_enter Tryd.func11, Tryd.ntmps11
  go_upto_region 1 with fail
  refine wp_new3 (fun W hsz k1 k2 k4 kb => ?_)
  have k4 : Arr W (w.heap.size + 1 + 1) (byts 0) := k4
  have lt1 := k1.lt
  have lt2 := k2.lt
  have lt4 := k4.lt
  have kG : Arr W _ (el (dgl 32 qN)) := kG.below kb
  have ltG := kG.lt
  clear hsz
  go_upto_region 2 with fail
  refine wp_new1 (fun w9 hsz9 k5 hb9 => ?_)
  have k1 := k1.below hb9
  have k2 := k2.below hb9
  have k4 := k4.below hb9
  have kG := kG.below hb9
  have kb := bel kb hb9
  generalize W.heap.size = g at k5 lt1 lt2 lt4 ltG ⊢
  have k5 : Arr w9 g (mixl 0 (bytn 64 N) (bytn 64 0)) := by rw [hm0.out]; exact k5
  clear hsz9 hb9
  go_wp2_with fail
  go_loopw [7, 6] (fun kv cv wr => ∃ k c : Nat, k ≤ 33 ∧ kv = .int .i64 k ∧ cv = .int .i64 c ∧ carry 256 k a b = c ∧ Arr wr w.heap.size (byts a) ∧ Arr wr (w.heap.size + 1) (byts b) ∧ Arr wr (w.heap.size + 1 + 1) (byts 0) ∧ Arr wr g (mixl k (bytn 64 N) (bytn 64 0)) ∧ Arr wr 0 (el (dgl 32 qN)) ∧ Below w.heap.size w wr) (fun kv _ _ => 33 - (intOf kv).toNat)
  case atStart => exact ⟨0, 0, by omega, rfl, rfl, hc0.out, k1, k2, k4, k5, kG, kb⟩
  case round =>
    clear k1 k2 k4 k5 kG kb
    obtain ⟨k, c, hk, rfl, rfl, hc, k1, k2, k4, k5, kG, kb⟩ := hrel
    have hc1 : c ≤ 1 := by have := hcl.out k; omega
    by_cases hlt : k < 33
    · obtain ⟨x, hx⟩ : ∃ x, a / 256 ^ k % 256 = x := ⟨_, rfl⟩
      obtain ⟨y, hy⟩ : ∃ y, b / 256 ^ k % 256 = y := ⟨_, rfl⟩
      have hxl : x < 256 := hx ▸ Nat.mod_lt _ (by decide)
      have hyl : y < 256 := hy ▸ Nat.mod_lt _ (by decide)
      have hd := hdig.out k
      have hs := hcs.out k
      rw [hx, hy, hc] at hd hs
      have hll : (bytn 64 N).length = (bytn 64 0).length := by rw [bytn_len, bytn_len]
      have g5 : (mixl k (bytn 64 N) (bytn 64 0))[k]? = some (.int .u8 0) := by
        rw [mixl_get hll (by rw [bytn_len]; omega), if_neg (Nat.lt_irrefl k), bytn_get 64 0 k (by omega), Nat.zero_div]; rfl
      have gN := bytn_get 64 N k (by omega)
      rw [hd] at gN
      have hset := mixl_set hll gN
      have hcel := k5.cell g5
      have hfro := k5.frozen k
      have hand := fun z => and_255 z
      replace g5 := Lib.hid g5
      replace gN := Lib.hid gN
      replace hset := Lib.hid hset
      replace hd := Lib.hid hd
      replace hs := Lib.hid hs
      replace hc := Lib.hid hc
      replace hand := Lib.hid hand
      by_cases h32 : k < 32
      · have g1 := byts_get a k h32
        have g2 := byts_get b k h32
        rw [hx] at g1
        rw [hy] at g2
        replace g1 := Lib.hid g1
        replace g2 := Lib.hid g2
        replace hx := Lib.hid hx
        replace hy := Lib.hid hy
        have iw1 : IntKind.i64.wrap ((c : Int) + (x : Int)) = (c : Int) + (x : Int) := i64_in (by omega)
        have iw2 : IntKind.i64.wrap ((c : Int) + (x : Int) + (y : Int)) = (c : Int) + (x : Int) + (y : Int) := i64_in (by omega)
        have iw3 : (k : Int) < 32 := by omega
        clear hcel hfro
        go_upto_region 7 with (first | (refine wpList_load_arr2 rfl _ _ rfl _ rfl (by kernel_rfl) _ (by assumption) (by first | (rw [lims_len]; kernel_rfl) | (rw [el_rep]; kernel_rfl) | (rw [el_len]; kernel_rfl) | (rw [byts_len]; kernel_rfl) | (rw [us_len]; kernel_rfl) | kernel_rfl) ?_) | (refine wpList_store_arr rfl _ _ _ rfl _ _ rfl rfl _ (by first | assumption | exact Arr.new _ _ _) (by first | (rw [lims_len]; kernel_rfl) | (rw [el_rep]; kernel_rfl) | (rw [el_len]; kernel_rfl) | (rw [byts_len]; kernel_rfl) | (rw [us_len]; kernel_rfl) | kernel_rfl) (by first | (rw [lims_len, lims_len]) | (rw [el_rep, el_rep]) | (rw [el_rep, el_len]; rfl) | (rw [el_len, el_rep]; rfl) | (rw [el_len, el_len]; rfl) | (rw [byts_len, byts_len]) | (rw [lims_len]; rfl) | (rw [byts_len]; rfl) | (rw [us_len, us_len]; rfl) | rfl) (by first | exact lims_one _ _ | exact el_one _ | exact byts_one _ | exact us_one _ | (intro v hv; simp at hv; rcases hv with rfl | rfl | rfl | rfl <;> rfl)) ?_))
        refine Tx.start (fun w' => Below (wr).heap.size (wr) w') 9999 12 rfl (by kernel_rfl) ?_
        have hS_1 : Below (wr).heap.size (wr) (World.drew wr) := (Below.refl _ _).drew
        refine Tx.seg (A := ?_) 0 4095 (by kernel_rfl) (by exact hS_1) [0, 1, 2, 3, 4, 5, 6, 7, 8, 9, 10, 11] (by kernel_rfl) ?_ ?_
        rotate_left
        · intro w' hB
          have e0 := k1.below hB
          have e1 := k2.below hB
          have e2 := k4.below hB
          have e3 := k5.below hB
          have e4 := kG.below hB
          have c1 := (k1.below hB).cell g1.out
          have c2 := (k2.below hB).cell g2.out
          iterate 12 (first | (refine rd_skip rfl rfl ?_; simp only [Act.put, List.setIfInBounds_toArray, List.set_cons_zero, List.set_cons_succ]) | (refine rd_load_arr rfl rfl _ _ rfl _ rfl (by kernel_rfl) _ (by assumption) (by first | (rw [lims_len]; kernel_rfl) | (rw [el_rep]; kernel_rfl) | (rw [el_len]; kernel_rfl) | (rw [byts_len]; kernel_rfl) | (rw [us_len]; kernel_rfl) | kernel_rfl) ?_; simp only [Act.put, List.setIfInBounds_toArray, List.set_cons_zero, List.set_cons_succ]) | (refine rd_take (v := ?_) rfl rfl ?_ ?_; rotate_left; (focus (go_simp; try (with_reducible rfl))); simp only [Act.put, List.setIfInBounds_toArray, List.set_cons_zero, List.set_cons_succ]))
          exact rd_nil
        refine Tx.done (by kernel_rfl) ?_
        have k1 := k1.below hS_1
        have k2 := k2.below hS_1
        have k4 := k4.below hS_1
        have k5 := k5.below hS_1
        have kG := kG.below hS_1
        have kb := bel kb hS_1
        clear hS_1
        clear iw1 iw2
        have hcel := k5.cell g5.out
        have hfro := k5.frozen k
        have hand3 := hand.out ((c : Int) + (x : Int) + (y : Int))
        have e9 : ((c : Int) + x + y) % 256 = (((x + y + c) % 256 : Nat) : Int) := by omega
        replace e9 := Lib.hid e9
        go_wp2_with fail
        refine ⟨⟨k + 1, (x + y + c) / 256, by omega, by go_num, by rw [show ((c : Int) + x + y) / 256 = (((x + y + c) / 256 : Nat) : Int) by omega], hs.out, k1.other (by simp; omega) _, k2.other (by simp; omega) _, k4.other (by simp; omega) _, ?_, kG.other (by simp; omega) _, kb.setCell (by simp; omega) _⟩, by simp [intOf]; omega⟩
        have := k5.set k (.int .u8 (((c : Int) + x + y) % 256))
        rw [e9.out, hset.out] at this
        rw [e9.out]
        exact this
      · obtain rfl : k = 32 := by omega
        obtain rfl : x = 0 := by rw [← hx, ha32.out]
        obtain rfl : y = 0 := by rw [← hy, hb32.out]
        have hand3 := hand.out (c : Int)
        have e9 : (c : Int) % 256 = (((0 + 0 + c) % 256 : Nat) : Int) := by omega
        replace e9 := Lib.hid e9
        go_wp2_with fail
        refine ⟨⟨33, (0 + 0 + c) / 256, by omega, rfl, by rw [show (c : Int) / 256 = (((0 + 0 + c) / 256 : Nat) : Int) by omega], hs.out, k1.other (by simp; omega) _, k2.other (by simp; omega) _, k4.other (by simp; omega) _, ?_, kG.other (by simp; omega) _, kb.setCell (by simp; omega) _⟩, by simp [intOf]⟩
        have := k5.set 32 (.int .u8 ((c : Int) % 256))
        rw [e9.out, hset.out] at this
        rw [e9.out]
        exact this
    · obtain rfl : k = 33 := by omega
      rw [hmx.out] at k5
      go_wp2_with fail
      refine (c1.out _ _ k5 kG).mono ?_
      rintro e w_2 ⟨rfl, hb_2⟩
      have k4 := k4.below hb_2
      have kb := bel kb hb_2
      clear hb_2
      go_wp2_with (refine wpList_store_arr rfl _ _ _ rfl _ _ rfl rfl _ (by first | assumption | exact Arr.new _ _ _) (by first | (rw [lims_len]; kernel_rfl) | (rw [el_rep]; kernel_rfl) | (rw [el_len]; kernel_rfl) | (rw [byts_len]; kernel_rfl) | (rw [us_len]; kernel_rfl) | kernel_rfl) (by first | (rw [lims_len, lims_len]) | (rw [el_rep, el_rep]) | (rw [el_rep, el_len]; rfl) | (rw [el_len, el_rep]; rfl) | (rw [el_len, el_len]; rfl) | (rw [byts_len, byts_len]) | (rw [lims_len]; rfl) | (rw [byts_len]; rfl) | (rw [us_len, us_len]; rfl) | rfl) (by first | exact lims_one _ _ | exact el_one _ | exact byts_one _ | exact us_one _ | (intro v hv; simp at hv; rcases hv with rfl | rfl | rfl | rfl <;> rfl)) ?_)
      exact bodyPost_ret (results_arr2 Tryd.results11 _ _ _ rfl (by kernel_rfl) _ (by first | assumption | exact Arr.setRow (by assumption) _) (by first | (rw [lims_len]; kernel_rfl) | (rw [el_rep]; kernel_rfl) | (rw [el_len]; kernel_rfl) | (rw [byts_len]; kernel_rfl) | (rw [us_len]; kernel_rfl) | kernel_rfl)) rfl ⟨rfl, below_setRow kb (by omega) _⟩

end Go.Proofs.YtdcbpilibaigmaaDoor
