/- Reference of the field: in, one, add, sub. -/
import Derived.Test.YtpjkhedodlnloaaRf1
import Derived.Test.YtpjkhedodlnloaaTy
namespace Go.Proofs.Ytpjkhedodlnloaa
open Go.RowKit

theorem el_rep (V : Int) : (el (rep V)).length = 16 := by rw [el_len, rep_len]

theorem dig_two (n i : Nat) : ((n / 256 ^ (2 * i) % 256 + 256 * (n / 256 ^ (2 * i + 1) % 256) : Nat) : Int) = (n : Int) / 65536 ^ i % 65536 := by
  have e1 : (256 : Nat) ^ (2 * i) = 65536 ^ i := by rw [Nat.pow_mul]
  rw [Nat.pow_succ, ← Nat.div_div_eq_div_mul, e1]
  have e2 : ((65536 : Int) ^ i) = ((65536 ^ i : Nat) : Int) := by simp
  rw [e2]
  omega

set_option maxHeartbeats 2000000 in
set_option maxRecDepth 100000 in
theorem rin_any (n : Nat) (hn : n < 256 ^ 32) (w : World) :
    Calls Try.prog 22 #[.agg (byts n).toArray] w fun e w' => e = .returned (.agg (el (rep n)).toArray) ∧ Below w.heap.size w w' := by
  have hrep : rep n = digsZ 16 n := rep_small (by omega) (by have : (256 : Nat) ^ 32 = 65536 ^ 16 := by decide
                                                             have h2 : ((256 ^ 32 : Nat) : Int) = 65536 ^ 16 := by decide
                                                             omega)
  rw [hrep]
  replace hrep := Lib.hid hrep
  go_enter Try.func22, Try.ntmps22
  go_upto_region 1 with fail
  refine wp_new2 (fun W hsz k1 k2 kb => ?_)
  have k2 : Arr W (w.heap.size + 1) (el (List.replicate 16 0)) := k2
  have lt1 := k1.lt
  have lt2 := k2.lt
  clear hsz
  go_upto_region 2 with fail
  refine wp_new1 (fun w9 hsz9 k3 hb9 => ?_)
  have k1 := k1.below hb9
  have k2 := k2.below hb9
  have kb := bel kb hb9
  generalize W.heap.size = g at k3 lt1 lt2 ⊢
  have k3 : Arr w9 g (el (List.replicate 16 0)) := k3
  clear hsz9 hb9
  go_wp2_with fail
  go_loopw [4] (fun kv wr => ∃ i : Nat, i ≤ 16 ∧ kv = .int .i64 i ∧ Arr wr w.heap.size (byts n) ∧ Arr wr (w.heap.size + 1) (el (List.replicate 16 0)) ∧ Arr wr g (el (digsZ i n ++ List.replicate (16 - i) 0)) ∧ Below w.heap.size w wr) (fun kv _ => 16 - (intOf kv).toNat)
  case atStart => exact ⟨0, by omega, rfl, k1, k2, k3, kb⟩
  case round =>
    clear k1 k2 k3 kb
    obtain ⟨i, hi, rfl, k1, k2, k3, kb⟩ := hrel
    by_cases hlt : i < 16
    · have hor := or_two (n / 256 ^ (2 * i) % 256) (n / 256 ^ (2 * i + 1) % 256) (Nat.mod_lt _ (by decide)) (Nat.mod_lt _ (by decide))
      rw [dig_two] at hor
      have g1 := byts_get n (2 * i) (by omega)
      have g2 := byts_get n (2 * i + 1) (by omega)
      have hrp : List.replicate (16 - i) (0 : Int) = 0 :: List.replicate (15 - i) 0 := by rw [show 16 - i = (15 - i) + 1 by omega, List.replicate_succ]
      rw [hrp] at k3
      have g3 := el_get (mid_get (digsZ_len i n) 0 (List.replicate (15 - i) 0))
      obtain ⟨b0, hb0⟩ : ∃ b, n / 256 ^ (2 * i) % 256 = b := ⟨_, rfl⟩
      obtain ⟨b1, hb1⟩ : ∃ b, n / 256 ^ (2 * i + 1) % 256 = b := ⟨_, rfl⟩
      rw [hb0] at g1 hor
      rw [hb1] at g2 hor
      have lb0 : b0 < 256 := hb0 ▸ Nat.mod_lt _ (by decide)
      have lb1 : b1 < 256 := hb1 ▸ Nat.mod_lt _ (by decide)
      have hsn := digsZ_snoc i n
      obtain ⟨d, hd⟩ : ∃ d, (n : Int) / 65536 ^ i % 65536 = d := ⟨_, rfl⟩
      rw [hd] at hor hsn
      replace hrp := Lib.hid hrp
      replace hsn := Lib.hid hsn
      replace hor := Lib.hid hor
      replace g1 := Lib.hid g1
      replace g2 := Lib.hid g2
      replace g3 := Lib.hid g3
      clear hb0 hb1 hd
      have iw1 : IntKind.i64.wrap (2 * (i : Int)) = 2 * (i : Int) := i64_in (by omega)
      have iw2 : IntKind.i64.wrap (2 * (i : Int) + 1) = 2 * (i : Int) + 1 := i64_in (by omega)
      have iw3 : (2 * (i : Int)).toNat = 2 * i := by omega
      have iw4 : (2 * (i : Int) + 1).toNat = 2 * i + 1 := by omega
      have iw5 : IntKind.i64.wrap ((b1 : Int) * 256) = (b1 : Int) * 256 := i64_in (by omega)
      have iwa : IntKind.i64.wrap (b0 : Int) = (b0 : Int) := i64_in (by omega)
      have iwb : IntKind.i64.wrap (b1 : Int) = (b1 : Int) := i64_in (by omega)
      have iw6 : (0 : Int) ≤ 2 * (i : Int) := by omega
      have iw7 : (0 : Int) ≤ 2 * (i : Int) + 1 := by omega
      have iw8 : 2 * (i : Int) < 32 := by omega
      have iw9 : 2 * (i : Int) + 1 < 32 := by omega
      go_upto_region 5 with (first | (refine wpList_load_arr2 rfl _ _ rfl _ rfl (by decide +kernel) _ (by assumption) (by first | (rw [lims_len]; kernel_rfl) | (rw [el_rep]; kernel_rfl) | (rw [el_len]; kernel_rfl) | (rw [byts_len]; kernel_rfl) | (rw [us_len]; kernel_rfl) | (rw [bytn_len]; kernel_rfl) | (rw [ens_len, digs_len]; kernel_rfl) | kernel_rfl) ?_) | (refine wpList_store_arr rfl _ _ _ rfl _ _ rfl rfl _ (by first | assumption | exact Arr.new _ _ _) (by first | (rw [lims_len]; kernel_rfl) | (rw [el_rep]; kernel_rfl) | (rw [el_len]; kernel_rfl) | (rw [byts_len]; kernel_rfl) | (rw [us_len]; kernel_rfl) | (rw [bytn_len]; kernel_rfl) | (rw [ens_len, digs_len]; kernel_rfl) | kernel_rfl) (by first | (rw [lims_len, lims_len]) | (rw [el_rep, el_rep]) | (rw [el_rep, el_len]; rfl) | (rw [el_len, el_rep]; rfl) | (rw [el_len, el_len]; rfl) | (rw [byts_len, byts_len]) | (rw [lims_len]; rfl) | (rw [byts_len]; rfl) | (rw [us_len, us_len]; rfl) | (rw [bytn_len, bytn_len]) | (rw [bytn_len]; rfl) | (rw [ens_len, ens_len, digs_len, digs_len]) | rfl) (by first | exact lims_one _ _ | exact el_one _ | exact byts_one _ | exact us_one _ | exact bytn_one _ _ | exact ens_one _ | (intro v hv; simp at hv; rcases hv with rfl | rfl | rfl | rfl <;> rfl)) ?_))
      refine Tx.start (fun w' => Below (wr).heap.size (wr) w') 15 16 rfl (by kernel_rfl) ?_
      have hS_1 : Below (wr).heap.size (wr) (World.drew wr) := (Below.refl _ _).drew
      refine Tx.seg (A := ?_) 1 32767 (by kernel_rfl) (by exact hS_1) [0, 1, 2, 3, 4, 5, 6, 7, 8, 9, 10, 11, 12, 13, 14] (by kernel_rfl) ?_ ?_
      rotate_left
      · intro w' hB
        have e0 := k1.below hB
        have e1 := k2.below hB
        have e2 := k3.below hB
        have c1 := (k1.below hB).cell g1.out
        have c2 := (k1.below hB).cell g2.out
        have c3 := hor.out
        iterate 15 (first | (refine rd_skip rfl rfl ?_; simp only [Act.put, List.setIfInBounds_toArray, List.set_cons_zero, List.set_cons_succ]) | (refine rd_load_arr rfl rfl _ _ rfl _ rfl (by decide +kernel) _ (by assumption) (by first | (rw [lims_len]; kernel_rfl) | (rw [el_rep]; kernel_rfl) | (rw [el_len]; kernel_rfl) | (rw [byts_len]; kernel_rfl) | (rw [us_len]; kernel_rfl) | (rw [bytn_len]; kernel_rfl) | (rw [ens_len, digs_len]; kernel_rfl) | kernel_rfl) ?_; simp only [Act.put, List.setIfInBounds_toArray, List.set_cons_zero, List.set_cons_succ]) | (refine rd_take (v := ?_) rfl rfl ?_ ?_; rotate_left; (focus (go_simp; try (with_reducible rfl))); simp only [Act.put, List.setIfInBounds_toArray, List.set_cons_zero, List.set_cons_succ]) | (refine rd_take (v := ?_) rfl rfl ?_ ?_; rotate_left; (focus (try go_simp); fail)))
        exact rd_nil
      have k1 := k1.below hS_1
      have k2 := k2.below hS_1
      have k3 := k3.below hS_1
      have kb := bel kb hS_1
      have hcel := k3.cell g3.out
      have hfro := fun j => k3.frozen j
      refine Tx.bar 65535 rfl (by decide +kernel) (fun K hK => ?_)
      go_simp
      refine hK (fun _ => True) 9999 _ _ ?_
      clear hK K
      try simp only [Act.put]
      try simp only [List.setIfInBounds_toArray, List.set_cons_zero, List.set_cons_succ]
      refine Tx.done (by kernel_rfl) ?_
      first | refine then_cellD k3 (fun w_2 k3 hoth hbel => ?_) | refine inb_cellD k3 (fun w_2 k3 hoth hbel => ?_)
      have k1 := hoth _ _ (by omega) k1
      have k2 := hoth _ _ (by omega) k2
      have kb := hbel _ _ (by omega) kb
      clear hoth hbel
      clear hcel hfro
      rw [el_set, mid_set (digsZ_len i n), show digsZ i n ++ d :: List.replicate (15 - i) 0 = digsZ (i + 1) n ++ List.replicate (16 - (i + 1)) 0 by rw [hsn.out, List.append_assoc, show 16 - (i + 1) = 15 - i by omega]; rfl] at k3
      go_wp2_with fail
      exact ⟨⟨i + 1, by omega, by go_num, k1, k2, k3, kb⟩, by simp [intOf]; omega⟩
    · obtain rfl : i = 16 := by omega
      rw [show digsZ 16 n ++ List.replicate (16 - 16) (0 : Int) = rep n by rw [hrep.out]; simp] at k3
      go_wp2_with (first | (refine wpList_load_arr2 rfl _ _ rfl _ rfl (by decide +kernel) _ (by assumption) (by first | (rw [lims_len]; kernel_rfl) | (rw [el_rep]; kernel_rfl) | (rw [el_len]; kernel_rfl) | (rw [byts_len]; kernel_rfl) | (rw [us_len]; kernel_rfl) | (rw [bytn_len]; kernel_rfl) | (rw [ens_len, digs_len]; kernel_rfl) | kernel_rfl) ?_) | (refine wpList_store_arr rfl _ _ _ rfl _ _ rfl rfl _ (by first | assumption | exact Arr.new _ _ _) (by first | (rw [lims_len]; kernel_rfl) | (rw [el_rep]; kernel_rfl) | (rw [el_len]; kernel_rfl) | (rw [byts_len]; kernel_rfl) | (rw [us_len]; kernel_rfl) | (rw [bytn_len]; kernel_rfl) | (rw [ens_len, digs_len]; kernel_rfl) | kernel_rfl) (by first | (rw [lims_len, lims_len]) | (rw [el_rep, el_rep]) | (rw [el_rep, el_len]; rfl) | (rw [el_len, el_rep]; rfl) | (rw [el_len, el_len]; rfl) | (rw [byts_len, byts_len]) | (rw [lims_len]; rfl) | (rw [byts_len]; rfl) | (rw [us_len, us_len]; rfl) | (rw [bytn_len, bytn_len]) | (rw [bytn_len]; rfl) | (rw [ens_len, ens_len, digs_len, digs_len]) | rfl) (by first | exact lims_one _ _ | exact el_one _ | exact byts_one _ | exact us_one _ | exact bytn_one _ _ | exact ens_one _ | (intro v hv; simp at hv; rcases hv with rfl | rfl | rfl | rfl <;> rfl)) ?_))
      exact bodyPost_ret (results_arr2 Try.results22 _ _ _ rfl (by kernel_rfl) _ (by first | assumption | exact Arr.setRow (by assumption) _) (by first | (rw [lims_len]; kernel_rfl) | (rw [el_rep]; kernel_rfl) | (rw [el_len]; kernel_rfl) | (rw [byts_len]; kernel_rfl) | (rw [us_len]; kernel_rfl) | (rw [bytn_len]; kernel_rfl) | (rw [ens_len, digs_len]; kernel_rfl) | kernel_rfl)) rfl ⟨by rw [hrep.out], below_setRow kb (by omega) _⟩


end Go.Proofs.Ytpjkhedodlnloaa
