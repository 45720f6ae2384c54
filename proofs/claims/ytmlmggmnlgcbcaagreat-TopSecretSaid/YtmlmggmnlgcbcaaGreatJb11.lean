import Derived.Test.YtmlmggmnlgcbcaaGreatJb10
import Derived.Laws.Cover3
import Derived.Test.YtmlmggmnlgcbcaaGreatJb08
import Derived.Test.YtmlmggmnlgcbcaaGreatJb03

namespace Go.Proofs.YtmlmggmnlgcbcaaGreat
open Go.RowKit
/-- A state. -/
def stv (h r : Nat) (bs : List UInt8) (n : Nat) : List Value := lims 4 h ++ (lims 4 r ++ (u8s bs ++ [.int .i64 (n : Int)]))
theorem stv_len {h r n : Nat} {bs : List UInt8} (hb : bs.length = 16) : (stv h r bs n).length = 25 := by simp [stv, lims_len, u8s_len, hb]
theorem stv_h {h r n j : Nat} {bs : List UInt8} (hj : j < (lims 4 h).length) : (stv h r bs n)[0 + j]? = (lims 4 h)[j]? := by
  rw [stv, Nat.zero_add, List.getElem?_append_left hj]
theorem stv_r {h r n j : Nat} {bs : List UInt8} (hj : j < (lims 4 r).length) : (stv h r bs n)[4 + j]? = (lims 4 r)[j]? := by
  rw [stv, List.getElem?_append_right (by rw [lims_len]; omega), lims_len, show 4 + j - 4 = j by omega, List.getElem?_append_left hj]
theorem stv_b {h r n j : Nat} {bs : List UInt8} (hj : j < bs.length) : (stv h r bs n)[8 + j]? = (u8s bs)[j]? := by
  rw [stv, List.getElem?_append_right (by rw [lims_len]; omega), lims_len, List.getElem?_append_right (by rw [lims_len]; omega), lims_len, show 8 + j - 4 - 4 = j by omega, List.getElem?_append_left (by rw [u8s_len]; exact hj)]
theorem stv_n {h r n : Nat} {bs : List UInt8} (hb : bs.length = 16) : (stv h r bs n)[24]? = some (.int .i64 (n : Int)) := by
  rw [stv, List.getElem?_append_right (by rw [lims_len]; omega), lims_len, List.getElem?_append_right (by rw [lims_len]; omega), lims_len, List.getElem?_append_right (by rw [u8s_len]; omega), u8s_len, hb]; rfl
theorem stv_set_n {h r n m : Nat} {bs : List UInt8} (hb : bs.length = 16) : (stv h r bs n).set 24 (.int .i64 (m : Int)) = stv h r bs m := by
  rw [stv, stv, List.set_append_right _ _ (by rw [lims_len]; omega), lims_len, List.set_append_right _ _ (by rw [lims_len]; omega), lims_len, List.set_append_right _ _ (by rw [u8s_len]; omega), u8s_len, hb]; rfl
theorem stv_set_b {h r n j : Nat} {bs : List UInt8} {x : UInt8} (hj : j < bs.length) : (stv h r bs n).set (8 + j) (.int .u8 (x.toNat : Int)) = stv h r (bs.set j x) n := by
  rw [stv, stv, List.set_append_right _ _ (by rw [lims_len]; omega), lims_len, List.set_append_right _ _ (by rw [lims_len]; omega), lims_len, show 8 + j - 4 - 4 = j by omega, List.set_append_left _ _ (by rw [u8s_len]; exact hj)]
  congr 3
  simp [u8s, List.map_set]
theorem stv_put_h {h r n k : Nat} {bs : List UInt8} : putAt 0 (lims 4 k) (stv h r bs n) = stv k r bs n := by
  rw [putAt, List.take_zero, List.nil_append, lims_len, Nat.zero_add, stv, List.drop_append_of_le_length (by rw [lims_len]; omega), List.drop_of_length_le (by rw [lims_len]; omega)]; rfl
/-- A block's 32 bytes: its bytes, a 1, noughts. -/
theorem blk_byts {bs : List UInt8} (h : bs.length ≤ 31) : byts (blkV bs) = (u8s bs ++ List.replicate (32 - bs.length) (Value.int .u8 0)).set bs.length (.int .u8 1) := by
  have e : blkV bs = val 256 (bs.map (fun (x : UInt8) => x.toNat) ++ 1 :: List.replicate (31 - bs.length) 0) := by
    rw [val_append, val, val_zeros, List.length_map, Nat.mul_zero, Nat.add_zero, Nat.mul_one]; rfl
  have hl : (bs.map (fun (x : UInt8) => x.toNat) ++ 1 :: List.replicate (31 - bs.length) 0).length = 32 := by simp; omega
  have hd := digs_val 256 (by decide) (bs.map (fun (x : UInt8) => x.toNat) ++ 1 :: List.replicate (31 - bs.length) 0) (by
    intro x hx
    rcases List.mem_append.1 hx with hx | hx
    · simp only [List.mem_map] at hx; obtain ⟨y, -, rfl⟩ := hx; exact y.toNat_lt
    · rcases List.mem_cons.1 hx with rfl | hx
      · decide
      · rw [List.mem_replicate] at hx; omega)
  rw [hl, ← e] at hd
  rw [byts, hd, show 32 - bs.length = (31 - bs.length) + 1 by omega, List.replicate_succ, List.set_append_right _ _ (by rw [u8s_len]; exact Nat.le_refl _), u8s_len, Nat.sub_self, List.set_cons_zero, List.map_append, List.map_cons, List.map_map]
  congr 1
  rw [List.map_replicate]
  rfl
set_option maxHeartbeats 2000000 in
set_option maxRecDepth 100000 in
theorem pturn_any (g h r n : Nat) (bs : List UInt8) (w : World) (k0 : Arr w g (stv h r bs n)) (hb : bs.length = 16) (hn : n ≤ 16) (hh : h < 2 ^ 131) (hr : r < 2 ^ 124) :
    Calls Tryz.prog 82 #[.pointer (some ⟨g, 0, none⟩)] w fun e w' => e = .returned (.tuple #[]) ∧ Arr w' g (stv (fold13 ((h + blkV (bs.take n)) * r)) r bs 0) ∧ w.grownBy w' (some g) := by
  have lt0 := k0.lt
  have hl0 := stv_len (h := h) (r := r) (n := n) hb
  obtain ⟨b, hbb⟩ : ∃ b, blkV (bs.take n) = b := ⟨_, rfl⟩
  have htl : (bs.take n).length = n := by rw [List.length_take]; omega
  have hbl := blkV_lt (bs := bs.take n) (by omega)
  have hby := blk_byts (bs := bs.take n) (by omega)
  rw [htl] at hby
  rw [hbb] at hby hbl ⊢
  have b32 : b < 256 ^ 32 := Nat.lt_trans hbl (by decide)
  have hrl : r < 18446744073709551616 ^ 4 := Nat.lt_trans hr (by decide)
  have hsum := turn_lt hh hbl hr
  have c1 := fun w => limOf_any b b32 w
  have c2 := fun w => limAdd_any h b w
  have c3 := fun w => limMul_any (h + b) r hrl w
  have hs4 : h + b < 18446744073709551616 ^ 4 := by omega
  rw [Nat.mod_eq_of_lt hs4] at c3
  obtain ⟨s, hs⟩ : ∃ s, h + b = s := ⟨_, rfl⟩
  rw [hs] at c2 c3 hsum hs4 ⊢
  obtain ⟨p, hp⟩ : ∃ p, s * r = p := ⟨_, rfl⟩
  rw [hp] at c3 hsum ⊢
  have hp4 : p < 18446744073709551616 ^ 4 := Nat.lt_of_lt_of_le hsum (by decide)
  have c4 := fun w => pfold_any p hp4 w
  obtain ⟨f, hf⟩ : ∃ f, fold13 p = f := ⟨_, rfl⟩
  rw [hf] at c4 ⊢
  obtain ⟨cc, hcc⟩ : ∃ c, carry 18446744073709551616 4 h b = c := ⟨_, rfl⟩
  rw [hcc] at c2
  have hrng : ∀ w', Arr w' g (stv h r bs n) → w'.rangeAt g 0 (lims 4 h) := fun w' hk => hk.range (fun j hj => stv_h hj)
  have hrng2 : ∀ w', Arr w' g (stv h r bs n) → w'.rangeAt g 4 (lims 4 r) := fun w' hk => hk.range (fun j hj => stv_r hj)
  have hsl : ∀ w', Arr w' g (stv h r bs n) → Sl w' (.slice (some ⟨g, 8, none⟩) n 16) (u8s (bs.take n)) := fun w' hk => Sl.of_part hk (by rw [u8s_len, htl]) hn (by decide) (fun j hj => by
    rw [u8s_len, htl] at hj
    rw [stv_b (by omega), u8s_get _ _ (by omega), u8s_get _ _ (by rw [htl]; exact hj)]
    simp)
  have hcn := stv_n (h := h) (r := r) (n := n) hb
  have hone := u8s_one (bs.take n)
  have hlim8 : ∀ w' k, Arr w' k (lims 8 p) → w'.rangeAt k 0 (lims 4 p) := fun w' k hk => hk.range (fun j hj => by rw [lims_len] at hj; rw [Nat.zero_add, lims_get _ _ _ (by omega), lims_get _ _ _ hj])
  have hsz1 : (Tryz.prog.info? 5).map (·.size) = some 1 := by kernel_rfl
  have hput := stv_put_h (h := h) (r := r) (n := n) (k := f) (bs := bs)
  have hset0 := stv_set_n (h := f) (r := r) (n := n) (m := 0) hb
  have hcn2 := stv_n (h := f) (r := r) (n := n) hb
  have hmix : (byts 0).take 0 ++ (u8s (bs.take n)).take 32 ++ (byts 0).drop (0 + ((u8s (bs.take n)).take 32).length) = u8s (bs.take n) ++ List.replicate (32 - n) (Value.int .u8 0) := by
    rw [List.take_zero, List.nil_append, List.take_of_length_le (by rw [u8s_len, htl]; omega), u8s_len, htl, Nat.zero_add]
    congr 1
    rw [show byts 0 = List.replicate 32 (Value.int .u8 0) from rfl, List.drop_replicate]
  have hget1 : (u8s (bs.take n) ++ List.replicate (32 - n) (Value.int .u8 0))[n]? = some (.int .u8 0) := by
    rw [List.getElem?_append_right (by rw [u8s_len, htl]; exact Nat.le_refl _), u8s_len, htl, Nat.sub_self, List.getElem?_replicate, if_pos (by omega)]
  clear hbb hbl b32 hrl hsum hs4 hs hp hp4 hf hcc hh hr
  replace hl0 := Lib.hid hl0
  replace htl := Lib.hid htl
  replace hby := Lib.hid hby
  replace c1 := Lib.hid c1
  replace c2 := Lib.hid c2
  replace c3 := Lib.hid c3
  replace c4 := Lib.hid c4
  replace hrng := Lib.hid hrng
  replace hrng2 := Lib.hid hrng2
  replace hsl := Lib.hid hsl
  replace hcn := Lib.hid hcn
  replace hone := Lib.hid hone
  replace hlim8 := Lib.hid hlim8
  replace hsz1 := Lib.hid hsz1
  replace hput := Lib.hid hput
  replace hset0 := Lib.hid hset0
  replace hcn2 := Lib.hid hcn2
  replace hmix := Lib.hid hmix
  replace hget1 := Lib.hid hget1
  replace hb := Lib.hid hb
  go_enter Tryz.func82, Tryz.ntmps82
  go_upto_region 1 with fail
  refine wp_new1 (fun W hsz k2 kb => ?_)
  have k2 : Arr W w.heap.size (byts 0) := k2
  have k0 := k0.below kb
  have ne0 : g ≠ w.heap.size := by omega
  clear hsz
  have n16 : (n : Int) ≤ 16 := by omega
  refine Tx.start (fun w' => Below (W).heap.size (W) w') 9 10 rfl (by kernel_rfl) ?_
  have hS_1 : Below (W).heap.size (W) (World.drew W) := (Below.refl _ _).drew
  refine Tx.seg2 (A := ?_) 1 511 (by kernel_rfl) (by exact hS_1) [0, 1, 2, 3, 4, 5, 6, 7, 8] (by kernel_rfl) ?_ ?_
  rotate_left
  · intro w' hB
    have e1 := (k0.below hB).cell hcn.out
    iterate 9 (first | (refine rd_skip rfl rfl ?_; simp only [Act.put, List.setIfInBounds_toArray, List.set_cons_zero, List.set_cons_succ]) | (refine rd_load_arr rfl rfl _ _ rfl _ rfl (by decide +kernel) _ (by assumption) (by first | (rw [lims_len]; kernel_rfl) | (rw [el_rep]; kernel_rfl) | (rw [el_len]; kernel_rfl) | (rw [byts_len]; kernel_rfl) | (rw [us_len]; kernel_rfl) | (rw [bytn_len]; kernel_rfl) | (rw [ens_len, digs_len]; kernel_rfl) | kernel_rfl) ?_; simp only [Act.put, List.setIfInBounds_toArray, List.set_cons_zero, List.set_cons_succ]) | (refine rd_take (v := ?_) rfl rfl ?_ ?_; rotate_left; (focus (go_simp; try (with_reducible rfl))); simp only [Act.put, List.setIfInBounds_toArray, List.set_cons_zero, List.set_cons_succ]) | (refine rd_take (v := ?_) rfl rfl ?_ ?_; rotate_left; (focus (try go_simp); fail)))
    exact rd_nil
  have k0 := k0.below hS_1
  have k2 := k2.below hS_1
  have kb := bel kb hS_1
  refine Tx.bar 1023 rfl (by decide +kernel) (fun K hK => ?_)
  refine step_copy_arr rfl _ _ 26 26 rfl 5 Tryz.underlying26 hsz1.out _ 0 32 32 rfl _ k2 (by rw [byts_len]; decide) _ rfl _ (hsl.out _ k0) hone.out ?_
  refine hK (fun _ => True) 9999 _ _ ?_
  clear hK K
  try simp only [Act.put]
  try simp only [List.setIfInBounds_toArray, List.set_cons_zero, List.set_cons_succ]
  refine Tx.done (by kernel_rfl) ?_
  rw [hmix.out]
  generalize goInt ((List.take 32 (u8s (List.take n bs))).length : Int) = gi
  first | refine then_row k2 (fun w_2 k2 hoth hbel => ?_) | refine inb_row k2 (fun w_2 k2 hoth hbel => ?_)
  have k0 := hoth _ _ (by omega) k0
  have kb := hbel _ _ (by omega) kb
  clear hoth hbel
  have hcel := k2.cell hget1.out
  have hfro := k2.frozen n
  have hcel2 := k0.cell hcn.out
  go_upto_region 3 with fail
  clear hcel hfro hcel2
  refine code_cell k2 (fun w_3 k2 hoth hbel => ?_)
  have k0 := hoth _ _ (by omega) k0
  have kb := hbel _ _ (by omega) kb
  clear hoth hbel
  rw [← hby.out] at k2
  refine Tx.start (fun w' => Below (w_3).heap.size (w_3) w') 11 13 rfl (by kernel_rfl) ?_
  have hS_4 : Below (w_3).heap.size (w_3) (World.drew w_3) := (Below.refl _ _).drew
  refine Tx.seg (A := ?_) 8 31 (by kernel_rfl) (by exact hS_4) [0, 1, 2, 3, 4] (by kernel_rfl) ?_ ?_
  rotate_left
  · intro w' hB
    have hr0 := hrng.out w' (k0.below hB)
    have e2 := k2.below hB
    iterate 5 (first | (refine rd_skip rfl rfl ?_; simp only [Act.put, List.setIfInBounds_toArray, List.set_cons_zero, List.set_cons_succ]) | (refine rd_load_arr rfl rfl _ _ rfl _ rfl (by decide +kernel) _ (by assumption) (by first | (rw [lims_len]; kernel_rfl) | (rw [el_rep]; kernel_rfl) | (rw [el_len]; kernel_rfl) | (rw [byts_len]; kernel_rfl) | (rw [us_len]; kernel_rfl) | (rw [bytn_len]; kernel_rfl) | (rw [ens_len, digs_len]; kernel_rfl) | kernel_rfl) ?_; simp only [Act.put, List.setIfInBounds_toArray, List.set_cons_zero, List.set_cons_succ]) | (refine rd_load_mid rfl rfl _ _ rfl _ _ rfl (by decide +kernel) _ hr0 (by first | (rw [lims_len]; kernel_rfl) | (rw [el_rep]; kernel_rfl) | (rw [el_len]; kernel_rfl) | (rw [byts_len]; kernel_rfl) | (rw [us_len]; kernel_rfl) | (rw [bytn_len]; kernel_rfl) | (rw [ens_len, digs_len]; kernel_rfl) | kernel_rfl) ?_; simp only [Act.put, List.setIfInBounds_toArray, List.set_cons_zero, List.set_cons_succ]) | (refine rd_take (v := ?_) rfl rfl ?_ ?_; rotate_left; (focus (go_simp; try (with_reducible rfl))); simp only [Act.put, List.setIfInBounds_toArray, List.set_cons_zero, List.set_cons_succ]) | (refine rd_take (v := ?_) rfl rfl ?_ ?_; rotate_left; (focus (try go_simp); fail)))
    exact rd_nil
  refine Tx.poolB 2 2047 [(5, 27), (6, 28), (7, 21), (8, 29), (9, 30), (10, 3)] [(false, []), (false, [(5, 27)]), (true, [(6, 28)]), (true, [(7, 21)]), (true, [(7, 21)]), (false, [])] [(5, Ph.is (.agg (lims 4 b).toArray)), (6, Ph.is (.tuple #[.agg (lims 4 s).toArray, .int .u64 (cc : Int)])), (7, Ph.is (.tuple #[.agg (lims 4 s).toArray, .int .u64 (cc : Int)])), (8, Ph.is (.agg (lims 4 s).toArray)), (9, Ph.is (.int .u64 (cc : Int))), (10, Ph.arr (w_3).heap.size (lims 4 0))] (by kernel_rfl) (by kernel_rfl) (by first | assumption | exact (Below.refl _ _).drew) ?_ ?_
  · refine ⟨⟨_, rfl, ?_⟩, ⟨_, rfl, ?_⟩, ⟨_, rfl, ?_⟩, ⟨_, rfl, ?_⟩, ⟨_, rfl, ?_⟩, ⟨_, rfl, ?_⟩, trivial⟩
    · intro vs w1 hS hE hD K hK
      clear hD
      simp only [fillL, Act.put, List.setIfInBounds_toArray, List.set_cons_zero, List.set_cons_succ] at hK ⊢
      go_simp
      refine (c1.out _).mono ?_
      rintro e w2 ⟨rfl, hb2⟩
      exact hK _ _ rfl hb2 nofun
    · intro vs w1 hS hE hD K hK
      obtain ⟨q5, -⟩ := hD
      simp only [fillL, Act.put, List.setIfInBounds_toArray, List.set_cons_zero, List.set_cons_succ] at hK ⊢
      rw [show vs 5 = _ from q5] at hK ⊢
      clear q5
      go_simp
      refine (c2.out _).mono ?_
      rintro e w2 ⟨rfl, hb2⟩
      exact hK _ _ rfl hb2 nofun
    · intro vs w1 hS hE hD
      obtain ⟨q6, -⟩ := hD
      simp only [fillL, Act.put, List.setIfInBounds_toArray, List.set_cons_zero, List.set_cons_succ] at ⊢
      rw [show vs 6 = _ from q6] at ⊢
      clear q6
      refine ⟨_, rfl, fun w' => (by first | (go_simp; done) | (go_simp; rfl)), rfl, nofun⟩
    · intro vs w1 hS hE hD
      obtain ⟨q7, -⟩ := hD
      simp only [fillL, Act.put, List.setIfInBounds_toArray, List.set_cons_zero, List.set_cons_succ] at ⊢
      rw [show vs 7 = _ from q7] at ⊢
      clear q7
      refine ⟨_, rfl, fun w' => (by first | (go_simp; done) | (go_simp; rfl)), rfl, nofun⟩
    · intro vs w1 hS hE hD
      obtain ⟨q7, -⟩ := hD
      simp only [fillL, Act.put, List.setIfInBounds_toArray, List.set_cons_zero, List.set_cons_succ] at ⊢
      rw [show vs 7 = _ from q7] at ⊢
      clear q7
      refine ⟨_, rfl, fun w' => (by first | (go_simp; done) | (go_simp; rfl)), rfl, nofun⟩
    · intro vs w1 hS hE hD K hK
      clear hD
      simp only [fillL, Act.put, List.setIfInBounds_toArray, List.set_cons_zero, List.set_cons_succ] at hK ⊢
      go_simp
      exact hK _ _ ⟨_, rfl, Nat.le_trans (by first | exact Nat.le_refl _ | omega | (simp; omega)) hE.size, Arr.new _ _ _⟩ (below_alloc _ _) (fun _ => ⟨_, rfl, Nat.le_refl _⟩)
  intro vs w_p3 hS_p3 hE_p3 hP hD
  obtain ⟨q5, q6, q7, q8, q9, q10, -⟩ := hP
  simp only [fillL, Act.put, List.setIfInBounds_toArray, List.set_cons_zero, List.set_cons_succ]
  rw [show vs 5 = _ from q5]
  clear q5
  rw [show vs 6 = _ from q6]
  clear q6
  rw [show vs 7 = _ from q7]
  clear q7
  rw [show vs 8 = _ from q8]
  clear q8
  rw [show vs 9 = _ from q9]
  clear q9
  obtain ⟨g10, e10, hg10, ha10⟩ := q10
  rw [e10]
  clear e10 hD vs
  have lt0_3 := Nat.lt_of_lt_of_le k0.lt hg10
  have lt2_3 := Nat.lt_of_lt_of_le k2.lt hg10
  have k0 := k0.below hS_p3
  have k2 := k2.below hS_p3
  have kb := bel kb hS_p3
  refine Tx.bar 4095 rfl (by decide +kernel) (fun K hK => ?_)
  refine step_store_arr rfl _ _ _ rfl _ _ rfl rfl _ (by assumption) (by first | (rw [lims_len]; kernel_rfl) | (rw [el_rep]; kernel_rfl) | (rw [el_len]; kernel_rfl) | (rw [byts_len]; kernel_rfl) | (rw [us_len]; kernel_rfl) | (rw [bytn_len]; kernel_rfl) | (rw [ens_len, digs_len]; kernel_rfl) | kernel_rfl) (by first | (rw [lims_len, lims_len]) | (rw [el_rep, el_rep]) | (rw [el_rep, el_len]; rfl) | (rw [el_len, el_rep]; rfl) | (rw [el_len, el_len]; rfl) | (rw [byts_len, byts_len]) | (rw [lims_len]; rfl) | (rw [byts_len]; rfl) | (rw [us_len, us_len]; rfl) | (rw [bytn_len, bytn_len]) | (rw [bytn_len]; rfl) | (rw [ens_len, ens_len, digs_len, digs_len]) | rfl) (by first | exact lims_one _ _ | exact el_one _ | exact byts_one _ | exact us_one _ | exact bytn_one _ _ | exact ens_one _ | (intro v hv; simp at hv; rcases hv with rfl | rfl | rfl | rfl <;> rfl)) ?_
  refine hK (fun _ => True) 9999 _ _ ?_
  clear hK K
  try simp only [Act.put]
  try simp only [List.setIfInBounds_toArray, List.set_cons_zero, List.set_cons_succ]
  refine Tx.seg (A := ?_) 0 8191 (by kernel_rfl) (by exact trivial) [12] (by kernel_rfl) ?_ ?_
  rotate_left
  · intro w' hB
    iterate 1 (first | (refine rd_skip rfl rfl ?_; simp only [Act.put, List.setIfInBounds_toArray, List.set_cons_zero, List.set_cons_succ]) | (refine rd_load_arr rfl rfl _ _ rfl _ rfl (by decide +kernel) _ (by assumption) (by first | (rw [lims_len]; kernel_rfl) | (rw [el_rep]; kernel_rfl) | (rw [el_len]; kernel_rfl) | (rw [byts_len]; kernel_rfl) | (rw [us_len]; kernel_rfl) | (rw [bytn_len]; kernel_rfl) | (rw [ens_len, digs_len]; kernel_rfl) | kernel_rfl) ?_; simp only [Act.put, List.setIfInBounds_toArray, List.set_cons_zero, List.set_cons_succ]) | (refine rd_take (v := ?_) rfl rfl ?_ ?_; rotate_left; (focus (go_simp; try (with_reducible rfl))); simp only [Act.put, List.setIfInBounds_toArray, List.set_cons_zero, List.set_cons_succ]) | (refine rd_take (v := ?_) rfl rfl ?_ ?_; rotate_left; (focus (try go_simp); fail)))
    exact rd_nil
  refine Tx.done (by kernel_rfl) ?_
  refine then_row ha10 (fun w_5 ha10 hoth hbel => ?_)
  have k0 := hoth _ _ (by omega) k0
  have kb := hbel _ _ (by omega) kb
  clear hoth hbel
  have k3 := ha10
  clear ha10
  generalize g10 = g3 at *
  clear k2
  go_upto_region 4 with fail
  have hsz4 := kb.size
  refine Tx.start (fun w' => Below (w_5).heap.size (w_5) w') 7 8 rfl (by kernel_rfl) ?_
  have hS_6 : Below (w_5).heap.size (w_5) (World.drew w_5) := (Below.refl _ _).drew
  refine Tx.seg (A := ?_) 3 31 (by kernel_rfl) (by exact hS_6) [0, 1, 2, 3, 4] (by kernel_rfl) ?_ ?_
  rotate_left
  · intro w' hB
    have hr0 := hrng2.out w' (k0.below hB)
    have e2 := k3.below hB
    iterate 5 (first | (refine rd_skip rfl rfl ?_; simp only [Act.put, List.setIfInBounds_toArray, List.set_cons_zero, List.set_cons_succ]) | (refine rd_load_arr rfl rfl _ _ rfl _ rfl (by decide +kernel) _ (by assumption) (by first | (rw [lims_len]; kernel_rfl) | (rw [el_rep]; kernel_rfl) | (rw [el_len]; kernel_rfl) | (rw [byts_len]; kernel_rfl) | (rw [us_len]; kernel_rfl) | (rw [bytn_len]; kernel_rfl) | (rw [ens_len, digs_len]; kernel_rfl) | kernel_rfl) ?_; simp only [Act.put, List.setIfInBounds_toArray, List.set_cons_zero, List.set_cons_succ]) | (refine rd_load_mid rfl rfl _ _ rfl _ _ rfl (by decide +kernel) _ hr0 (by first | (rw [lims_len]; kernel_rfl) | (rw [el_rep]; kernel_rfl) | (rw [el_len]; kernel_rfl) | (rw [byts_len]; kernel_rfl) | (rw [us_len]; kernel_rfl) | (rw [bytn_len]; kernel_rfl) | (rw [ens_len, digs_len]; kernel_rfl) | kernel_rfl) ?_; simp only [Act.put, List.setIfInBounds_toArray, List.set_cons_zero, List.set_cons_succ]) | (refine rd_take (v := ?_) rfl rfl ?_ ?_; rotate_left; (focus (go_simp; try (with_reducible rfl))); simp only [Act.put, List.setIfInBounds_toArray, List.set_cons_zero, List.set_cons_succ]) | (refine rd_take (v := ?_) rfl rfl ?_ ?_; rotate_left; (focus (try go_simp); fail)))
    exact rd_nil
  refine Tx.poolB 1 127 [(5, 36), (6, 5)] [(false, []), (false, [])] [(5, Ph.is (.agg (lims 8 p).toArray)), (6, Ph.arr (w_5).heap.size (lims 8 0))] (by kernel_rfl) (by kernel_rfl) (by first | assumption | exact (Below.refl _ _).drew) ?_ ?_
  · refine ⟨⟨_, rfl, ?_⟩, ⟨_, rfl, ?_⟩, trivial⟩
    · intro vs w1 hS hE hD K hK
      clear hD
      simp only [fillL, Act.put, List.setIfInBounds_toArray, List.set_cons_zero, List.set_cons_succ] at hK ⊢
      go_simp
      refine (c3.out _).mono ?_
      rintro e w2 ⟨rfl, hb2⟩
      exact hK _ _ rfl hb2 nofun
    · intro vs w1 hS hE hD K hK
      clear hD
      simp only [fillL, Act.put, List.setIfInBounds_toArray, List.set_cons_zero, List.set_cons_succ] at hK ⊢
      go_simp
      exact hK _ _ ⟨_, rfl, Nat.le_trans (by first | exact Nat.le_refl _ | omega | (simp; omega)) hE.size, Arr.new _ _ _⟩ (below_alloc _ _) (fun _ => ⟨_, rfl, Nat.le_refl _⟩)
  intro vs w_p4 hS_p4 hE_p4 hP hD
  obtain ⟨q5, q6, -⟩ := hP
  simp only [fillL, Act.put, List.setIfInBounds_toArray, List.set_cons_zero, List.set_cons_succ]
  rw [show vs 5 = _ from q5]
  clear q5
  obtain ⟨g6, e6, hg6, ha6⟩ := q6
  rw [e6]
  clear e6 hD vs
  have lt0_4 := Nat.lt_of_lt_of_le k0.lt hg6
  have k0 := k0.below hS_p4
  have kb := bel kb hS_p4
  refine Tx.bar 255 rfl (by decide +kernel) (fun K hK => ?_)
  refine step_store_arr rfl _ _ _ rfl _ _ rfl rfl _ (by assumption) (by first | (rw [lims_len]; kernel_rfl) | (rw [el_rep]; kernel_rfl) | (rw [el_len]; kernel_rfl) | (rw [byts_len]; kernel_rfl) | (rw [us_len]; kernel_rfl) | (rw [bytn_len]; kernel_rfl) | (rw [ens_len, digs_len]; kernel_rfl) | kernel_rfl) (by first | (rw [lims_len, lims_len]) | (rw [el_rep, el_rep]) | (rw [el_rep, el_len]; rfl) | (rw [el_len, el_rep]; rfl) | (rw [el_len, el_len]; rfl) | (rw [byts_len, byts_len]) | (rw [lims_len]; rfl) | (rw [byts_len]; rfl) | (rw [us_len, us_len]; rfl) | (rw [bytn_len, bytn_len]) | (rw [bytn_len]; rfl) | (rw [ens_len, ens_len, digs_len, digs_len]) | rfl) (by first | exact lims_one _ _ | exact el_one _ | exact byts_one _ | exact us_one _ | exact bytn_one _ _ | exact ens_one _ | (intro v hv; simp at hv; rcases hv with rfl | rfl | rfl | rfl <;> rfl)) ?_
  refine hK (fun _ => True) 9999 _ _ ?_
  clear hK K
  try simp only [Act.put]
  try simp only [List.setIfInBounds_toArray, List.set_cons_zero, List.set_cons_succ]
  refine Tx.done (by kernel_rfl) ?_
  refine then_row ha6 (fun w_7 ha6 hoth hbel => ?_)
  have k0 := hoth _ _ (by omega) k0
  have kb := hbel _ _ (by omega) kb
  clear hoth hbel
  have k5 := ha6
  clear ha6 k3
  generalize g6 = g5 at *
  have hr5 := hlim8.out _ _ k5
  have hat : ∀ w, (Instr.arrayAt 92 (.slice (some ⟨g5, 0, none⟩) 4 8)).run Tryz.prog w = .ok (.pointer (some ⟨g5, 0, none⟩)) w := fun w => run_arrayAt w 92 90 4 _ 4 8 Tryz.underlying92 (by decide)
  go_upto_region 5 with fail
  go_wp2_with (refine wpList_load_mid2 rfl _ _ rfl _ _ rfl (by kernel_rfl) _ hr5 (by first | (rw [lims_len]; kernel_rfl) | (rw [el_rep]; kernel_rfl) | (rw [el_len]; kernel_rfl) | (rw [byts_len]; kernel_rfl) | (rw [us_len]; kernel_rfl) | (rw [bytn_len]; kernel_rfl) | (rw [ens_len, digs_len]; kernel_rfl) | kernel_rfl) ?_)
  clear hr5 hat
  refine (c4.out _).mono ?_
  rintro e w_8 ⟨rfl, hb_8⟩
  have k0 := k0.below hb_8
  have kb := bel kb hb_8
  clear hb_8
  go_upto_region 6 with (refine wpl_store_mid rfl _ _ _ rfl _ _ (lims 4 f) rfl rfl _ k0 (by rw [lims_len]; kernel_rfl) (by rw [hl0.out, lims_len]; decide) (lims_one _ _) (fun w7 k7 hoth hbel hgr => ?_))
  have kg := gr_trans (gr_below kb) hgr
  rw [hput.out] at k7
  clear hoth hbel hgr k0 kb
  have hcel := k7.cell hcn2.out
  have hfro := k7.frozen 24
  go_wp2_with fail
  go_end0
  refine ⟨rfl, ?_, gr_trans kg (gr_cell _ _ _ _)⟩
  have := k7.set 24 (.int .i64 ((0 : Nat) : Int))
  rw [hset0.out] at this
  exact this
set_option maxHeartbeats 2000000 in
set_option maxRecDepth 100000 in
theorem ptake_any (g h r n : Nat) (bs : List UInt8) (x : UInt8) (w : World) (k0 : Arr w g (stv h r bs n)) (hb : bs.length = 16) (hn : n < 16) (hh : h < 2 ^ 131) (hr : r < 2 ^ 124) :
    Calls Tryz.prog 81 #[.pointer (some ⟨g, 0, none⟩), .int .u8 (x.toNat : Int)] w fun e w' =>
      e = .returned (.tuple #[]) ∧ Arr w' g (if n = 15 then stv (fold13 ((h + blkV (bs.set n x)) * r)) r (bs.set n x) 0 else stv h r (bs.set n x) (n + 1)) ∧ w.grownBy w' (some g) := by
  have hcn := stv_n (h := h) (r := r) (n := n) hb
  have hcb := stv_b (h := h) (r := r) (n := n) (bs := bs) (j := n) (by omega)
  rw [u8s_get bs n (by omega)] at hcb
  have hset := stv_set_b (h := h) (r := r) (n := n) (bs := bs) (j := n) (x := x) (by omega)
  have hb2 : (bs.set n x).length = 16 := by rw [List.length_set]; exact hb
  obtain ⟨cs, hcs⟩ : ∃ cs, bs.set n x = cs := ⟨_, rfl⟩
  rw [hcs] at hset hb2 ⊢
  have hcn2 := stv_n (h := h) (r := r) (n := n) hb2
  have hset2 := stv_set_n (h := h) (r := r) (n := n) (m := n + 1) hb2
  have hcn3 := stv_n (h := h) (r := r) (n := n + 1) hb2
  have c1 := fun w (e : n = 15) k => pturn_any g h r (n + 1) cs w k hb2 (by omega) hh hr
  obtain ⟨Y, hY⟩ : ∃ Y, (if n = 15 then stv (fold13 ((h + blkV cs) * r)) r cs 0 else stv h r cs (n + 1)) = Y := ⟨_, rfl⟩
  rw [hY]
  replace hY := Lib.hid hY
  have ht : n = 15 → cs.take (n + 1) = cs := fun e => List.take_of_length_le (by omega)
  have hbl : (bs[n]'(by omega)).toNat < 256 := (bs[n]'(by omega)).toNat_lt
  generalize (bs[n]'(by omega)).toNat = y at hcb hbl
  have n16 : (n : Int) < 16 := by omega
  clear hb hcs hh hr
  replace hcn := Lib.hid hcn
  replace hcb := Lib.hid hcb
  replace hset := Lib.hid hset
  replace hb2 := Lib.hid hb2
  replace hcn2 := Lib.hid hcn2
  replace hset2 := Lib.hid hset2
  replace hcn3 := Lib.hid hcn3
  replace c1 := Lib.hid c1
  replace ht := Lib.hid ht
  go_enter Tryz.func81, Tryz.ntmps81
  go_upto_region 0 with fail
  refine Tx.start (fun w' => Below (w).heap.size (w) w') 9 10 rfl (by kernel_rfl) ?_
  have hS_9 : Below (w).heap.size (w) (World.drew w) := (Below.refl _ _).drew
  refine Tx.seg2 (A := ?_) 1 511 (by kernel_rfl) (by exact hS_9) [0, 1, 2, 3, 4, 5, 6, 7, 8] (by kernel_rfl) ?_ ?_
  rotate_left
  · intro w' hB
    have e1 := (k0.below hB).cell hcn.out
    iterate 9 (first | (refine rd_skip rfl rfl ?_; simp only [Act.put, List.setIfInBounds_toArray, List.set_cons_zero, List.set_cons_succ]) | (refine rd_load_arr rfl rfl _ _ rfl _ rfl (by decide +kernel) _ (by assumption) (by first | (rw [lims_len]; kernel_rfl) | (rw [el_rep]; kernel_rfl) | (rw [el_len]; kernel_rfl) | (rw [byts_len]; kernel_rfl) | (rw [us_len]; kernel_rfl) | (rw [bytn_len]; kernel_rfl) | (rw [ens_len, digs_len]; kernel_rfl) | kernel_rfl) ?_; simp only [Act.put, List.setIfInBounds_toArray, List.set_cons_zero, List.set_cons_succ]) | (refine rd_take (v := ?_) rfl rfl ?_ ?_; rotate_left; (focus (go_simp; try (with_reducible rfl))); simp only [Act.put, List.setIfInBounds_toArray, List.set_cons_zero, List.set_cons_succ]) | (refine rd_take (v := ?_) rfl rfl ?_ ?_; rotate_left; (focus (try go_simp); fail)))
    exact rd_nil
  have k0' := k0.below hS_9
  have hcel := k0'.cell hcb.out
  have hfro := k0'.frozen (8 + n)
  refine Tx.bar 1023 rfl (by decide +kernel) (fun K hK => ?_)
  go_simp
  refine hK (fun _ => True) 9999 _ _ ?_
  clear hK K
  try simp only [Act.put]
  try simp only [List.setIfInBounds_toArray, List.set_cons_zero, List.set_cons_succ]
  refine Tx.done (by kernel_rfl) ?_
  clear hcel hfro k0'
  have kg := grownBy_drew (gr_cell w g (8 + n) (.int .u8 (x.toNat : Int)))
  have k1 : Arr (w.setCell ⟨g, 8 + n, none⟩ (.int .u8 (x.toNat : Int))).drew g (stv h r cs n) := by
    have := k0.set (8 + n) (.int .u8 (x.toNat : Int))
    rw [hset.out] at this
    exact this
  generalize (w.setCell ⟨g, 8 + n, none⟩ (.int .u8 (x.toNat : Int))).drew = w2 at *
  have hcel := k1.cell hcn2.out
  have hfro := k1.frozen 24
  go_upto_region 2 with fail
  clear hcel hfro
  have kg := gr_trans kg (gr_cell w2 g 24 (.int .i64 ((n : Int) + 1)))
  have k2 : Arr (w2.setCell ⟨g, 24, none⟩ (.int .i64 ((n : Int) + 1))) g (stv h r cs (n + 1)) := by
    have := k1.set 24 (.int .i64 ((n + 1 : Nat) : Int))
    rw [hset2.out] at this
    exact this
  generalize w2.setCell ⟨g, 24, none⟩ (.int .i64 ((n : Int) + 1)) = w3 at *
  have hcel := k2.cell hcn3.out
  by_cases h15 : n = 15
  · have c2 := c1.out w3 h15 k2
    rw [ht.out h15] at c2
    replace c2 := Lib.hid c2
    clear c1
    subst h15
    go_wp2_with fail
    refine c2.out.mono ?_
    rintro e w4 ⟨rfl, k3, hg3⟩
    have kg := gr_trans kg hg3
    clear hg3
    go_wp2_with fail
    go_end0
    exact ⟨rfl, by have := hY.out; simp only [if_true] at this; rw [← this]; exact k3, kg⟩
  · have hne : ((n + 1 : Nat) : Int) ≠ 16 := by omega
    go_wp2_with fail
    go_end0
    exact ⟨rfl, by rw [← hY.out, if_neg h15]; exact k2, kg⟩
end Go.Proofs.YtmlmggmnlgcbcaaGreat


namespace Go.Proofs.YtmlmggmnlgcbcaaGreat
open Go.RowKit
theorem lims_mod (k n : Nat) (h : ∃ c, k = n + 18446744073709551616 ^ 4 * c) : lims 4 k = lims 4 n := by
  obtain ⟨c, rfl⟩ := h
  unfold lims
  congr 1
  unfold digs
  apply List.map_congr_left
  intro i hi
  simp only [List.mem_range] at hi
  have e : (18446744073709551616 : Nat) ^ 4 * c = 18446744073709551616 ^ i * (18446744073709551616 * (18446744073709551616 ^ (3 - i) * c)) := by
    rw [← Nat.mul_assoc, ← Nat.mul_assoc, Nat.mul_assoc _ 18446744073709551616, ← Nat.pow_succ', ← Nat.pow_add, show i + (3 - i).succ = 4 by omega]
  rw [e, Nat.add_mul_div_left _ _ (Nat.pow_pos (by decide)), Nat.add_mul_mod_self_left]
end Go.Proofs.YtmlmggmnlgcbcaaGreat

