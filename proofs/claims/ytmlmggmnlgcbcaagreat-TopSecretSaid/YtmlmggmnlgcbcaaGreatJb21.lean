import Derived.Test.YtmlmggmnlgcbcaaGreatJb20
import Derived.Lib.SlBytesConst
import Derived.Test.YtmlmggmnlgcbcaaGreatJb13

namespace Go.Proofs.YtmlmggmnlgcbcaaGreat
open Go.RowKit
set_option maxHeartbeats 1000000 in
theorem ddo4 (d p g c k r s : Nat) (F : Fl) (bv : Value) (n : Int) (w : World) (kd : Arr w d (dvv p c false)) (k0 : Arr w c (coZ k r s (-1))) (kf : FlAt w p g F) (hd : F.dead = false) (hdc : d ≠ c) :
    Calls Tryz.prog 18 #[.pointer (some ⟨d, 0, none⟩), .agg #[.int .i64 4, bv, .int .i64 n]] w fun e w' => e = .returned (.tuple #[.slice none 0 0, .int .i64 18]) ∧ Arr w' c (coZ k r s (-1)) ∧ Ch [c] w w' := by
  have cD := Lib.hid (fun w' (hb : Below w.heap.size w w') => fdead_any p g F w' (kf.below hb))
  rw [hd] at cD
  have cC := Lib.hid (fun w' (hb : Below w.heap.size w w') => do4 c k r s (-1) bv n w' (k0.below hb))
  replace kd := Lib.hid kd
  have hcl := k0.lt
  clear k0 kf hd
  go_enter Tryz.func18, Tryz.ntmps18
  go_upto_region 1 with fail
  have kb := below_alloc w (.cells #[.int .i64 4, bv, .int .i64 n] 50)
  have k1 : Arr (w.alloc (.cells #[.int .i64 4, bv, .int .i64 n] 50)) w.heap.size [.int .i64 4, bv, .int .i64 n] := Arr.new _ _ _
  obtain ⟨W, hW⟩ : ∃ W, w.alloc (.cells #[.int .i64 4, bv, .int .i64 n] 50) = W := ⟨_, rfl⟩
  obtain ⟨g1, hg⟩ : ∃ g, w.heap.size = g := ⟨_, rfl⟩
  rw [hW] at kb k1 ⊢
  rw [hg] at k1 ⊢
  have hg1 : g1 ≠ c := by have := hcl; omega
  clear hW hg
  have kd1 := kd.out.below kb
  have x0 := kd1.cell (j := 0) rfl
  have x2 := kd1.cell (j := 2) rfl
  go_wp2_with fail
  refine (cD.out _ kb).mono ?_
  rintro e w1 ⟨rfl, hw⟩
  obtain rfl : W = w1 := hw.symm
  clear cD x0 x2
  go_upto_region 3 with fail
  refine Tx.start (fun w' => Ch [c] W w') 9999 11 rfl (by kernel_rfl) ?_
  have hS0 : Ch [c] W W.drew := Ch.of_below (Below.refl _ _).drew
  refine Tx.seg (A := ?_) 6 31 (by kernel_rfl) (by exact hS0) [0, 1, 2, 3, 4] (by kernel_rfl) ?_ ?_
  rotate_left
  · intro w' hB
    have x1 := (kd1.ch hB (by simpa using hdc)).cell (j := 1) rfl
    have y1 := k1.ch hB (by simpa using hg1)
    iterate 5 (first | (refine rd_skip rfl rfl ?_; simp only [Act.put, List.setIfInBounds_toArray, List.set_cons_zero, List.set_cons_succ]) | (refine rd_load_arr rfl rfl _ _ rfl _ rfl (by decide +kernel) _ (by assumption) (by first | (rw [lims_len]; kernel_rfl) | (rw [el_rep]; kernel_rfl) | (rw [el_len]; kernel_rfl) | (rw [byts_len]; kernel_rfl) | (rw [us_len]; kernel_rfl) | (rw [bytn_len]; kernel_rfl) | (rw [ens_len, digs_len]; kernel_rfl) | kernel_rfl) ?_; simp only [Act.put, List.setIfInBounds_toArray, List.set_cons_zero, List.set_cons_succ]) | (refine rd_take (v := ?_) rfl rfl ?_ ?_; rotate_left; (focus (go_simp; try (with_reducible rfl))); simp only [Act.put, List.setIfInBounds_toArray, List.set_cons_zero, List.set_cons_succ]))
    exact rd_nil
  refine Tx.eff 5 63 rfl (by decide +kernel) (fun K hK => ?_)
  go_simp
  refine (cC.out _ kb.drew).mono ?_
  rintro e w2 ⟨rfl, k2, hc⟩
  have hS1 : Ch [c] W w2 := hS0.trans hc
  refine hK (fun w' => Ch [c] W w') _ _ hS1 (fun _ h => h) ?_
  clear hK K hS0
  try simp only [Act.put, List.setIfInBounds_toArray, List.set_cons_zero, List.set_cons_succ]
  refine Tx.seg (A := ?_) 0 2047 (by kernel_rfl) (by exact hS1) [6, 7, 8, 9, 10] (by kernel_rfl) ?_ ?_
  rotate_left
  · intro w' hB
    iterate 5 (first | (refine rd_skip rfl rfl ?_; simp only [Act.put, List.setIfInBounds_toArray, List.set_cons_zero, List.set_cons_succ]) | (refine rd_load_arr rfl rfl _ _ rfl _ rfl (by decide +kernel) _ (by assumption) (by first | (rw [lims_len]; kernel_rfl) | (rw [el_rep]; kernel_rfl) | (rw [el_len]; kernel_rfl) | (rw [byts_len]; kernel_rfl) | (rw [us_len]; kernel_rfl) | (rw [bytn_len]; kernel_rfl) | (rw [ens_len, digs_len]; kernel_rfl) | kernel_rfl) ?_; simp only [Act.put, List.setIfInBounds_toArray, List.set_cons_zero, List.set_cons_succ]) | (refine rd_take (v := ?_) rfl rfl ?_ ?_; rotate_left; (focus (go_simp; try (with_reducible rfl))); simp only [Act.put, List.setIfInBounds_toArray, List.set_cons_zero, List.set_cons_succ]))
    exact rd_nil
  refine Tx.done (by kernel_rfl) ?_
  have hq := (Ch.of_below (M := [c]) kb).trans hS1
  clear hS1 cC kb hc
  go_wp2_with fail
  go_ret2
  exact ⟨rfl, k2, hq⟩
end Go.Proofs.YtmlmggmnlgcbcaaGreat


namespace Go.Proofs.YtmlmggmnlgcbcaaGreat
open Go.RowKit
theorem newS_fit0 : StFit newS := ⟨Nat.zero_le _, Nat.zero_le _, Nat.zero_le _⟩
set_option maxHeartbeats 2000000 in
set_option maxRecDepth 100000 in
theorem feed_short (c : Nat) (a : Option Addr) (n m : Nat) (bs : List UInt8) (hb3 : bs.length ≤ 3) (w : World) (hs : Sl w (.slice a n m) (u8s bs)) :
    Calls Tryz.prog 61 #[.pointer (some ⟨c, 0, none⟩), .slice a n m] w fun e w' => e = .returned (.int .i64 4) ∧ Below w.heap.size w w' := by
  have hone := Lib.hid mnZ_one
  have hlen := Lib.hid mnZ_facts.1
  have cR := Lib.hid (mread_short (.slice a n m) bs hb3 w hs)
  obtain ⟨X, hX⟩ : ∃ X, mnZ = X := ⟨_, rfl⟩
  rw [hX] at hone hlen cR
  clear hX hs hb3
  go_enter Tryz.func61, Tryz.ntmps61
  go_wp2_with fail
  refine cR.out.mono ?_
  rintro e w1 ⟨rfl, hb⟩
  clear cR
  go_wp2_with (refine wpl_storeG rfl _ _ _ rfl _ X rfl rfl _ (Arr.new _ _ _) (by rw [hlen.out]; kernel_rfl) (by rw [hlen.out]; kernel_rfl) hone.out (fun w4 k6 hg hsz => ?_))
  have kb := bel hb (below_fresh hg)
  go_ret
  exact ⟨rfl, kb⟩
theorem ta_feed1 (v : Value) (w : World) : (Instr.typeAssert (.iface 122 v) 20 122 true).run Tryz.prog w = .ok (.tuple #[v, .bool true]) w := by kernel_rfl
set_option maxHeartbeats 1000000 in
set_option maxRecDepth 100000 in
theorem move1 (a : Option Addr) (n m : Nat) (i : Int) (w : World) :
    Calls Tryz.prog 60 #[.agg #[.int .i64 1, .slice a n m, .int .i64 i]] w fun e w' => e = .returned (.iface 122 (.slice a n m)) ∧ Below w.heap.size w w' := by
  go_enter Tryz.func60, Tryz.ntmps60
  go_wp2_with fail
  go_ret
  exact ⟨rfl, below_alloc _ _⟩
set_option maxHeartbeats 1000000 in
set_option maxRecDepth 100000 in
theorem do1_short (c : Nat) (a : Option Addr) (n m : Nat) (i : Int) (bs : List UInt8) (hb3 : bs.length ≤ 3) (w : World) (hs : Sl w (.slice a n m) (u8s bs)) :
    Calls Tryz.prog 37 #[.pointer (some ⟨c, 0, none⟩), .agg #[.int .i64 1, .slice a n m, .int .i64 i]] w fun e w' => e = .returned (.tuple #[.slice none 0 0, .int .i64 4]) ∧ Below w.heap.size w w' := by
  have cM := Lib.hid (fun w' => move1 a n m i w')
  have cB := Lib.hid (fun w' (hb : Below w.heap.size w w') => feed_short c a n m bs hb3 w' (hs.below hb))
  clear hs hb3
  have f1 := ta_feed1 (.slice a n m)
  go_enter Tryz.func37, Tryz.ntmps37
  go_upto_region 1 with fail
  have kb := below_alloc w (.cells #[.int .i64 1, .slice a n m, .int .i64 i] 50)
  have k1 : Arr (w.alloc (.cells #[.int .i64 1, .slice a n m, .int .i64 i] 50)) w.heap.size [.int .i64 1, .slice a n m, .int .i64 i] := Arr.new _ _ _
  obtain ⟨W, hW⟩ : ∃ W, w.alloc (.cells #[.int .i64 1, .slice a n m, .int .i64 i] 50) = W := ⟨_, rfl⟩
  obtain ⟨g1, hg⟩ : ∃ g, w.heap.size = g := ⟨_, rfl⟩
  rw [hW] at kb k1 ⊢
  rw [hg] at k1 ⊢
  clear hW hg
  go_wp2_with (refine wpList_load_arr2 rfl _ _ rfl _ rfl (by decide +kernel) _ (by assumption) (by first | (rw [lims_len]; kernel_rfl) | (rw [el_rep]; kernel_rfl) | (rw [el_len]; kernel_rfl) | (rw [byts_len]; kernel_rfl) | (rw [us_len]; kernel_rfl) | (rw [bytn_len]; kernel_rfl) | (rw [ens_len, digs_len]; kernel_rfl) | kernel_rfl) ?_)
  refine (cM.out _).mono ?_
  rintro e w1 ⟨rfl, hb⟩
  replace kb := bel kb hb
  clear hb k1 cM
  go_wp2_with fail
  refine (cB.out _ kb).mono ?_
  rintro e w2 ⟨rfl, hb⟩
  replace kb := bel kb hb
  clear cB hb f1
  go_wp2_with fail
  go_ret2
  exact ⟨rfl, kb⟩
set_option maxHeartbeats 1000000 in
theorem ddo1_short (d p g c : Nat) (F : Fl) (a : Option Addr) (n m : Nat) (i : Int) (bs : List UInt8) (hb3 : bs.length ≤ 3) (w : World) (hs : Sl w (.slice a n m) (u8s bs)) (kd : Arr w d (dvv p c false)) (kf : FlAt w p g F) (hd : F.dead = false) :
    Calls Tryz.prog 18 #[.pointer (some ⟨d, 0, none⟩), .agg #[.int .i64 1, .slice a n m, .int .i64 i]] w fun e w' => e = .returned (.tuple #[.slice none 0 0, .int .i64 4]) ∧ Below w.heap.size w w' := by
  have cD := Lib.hid (fun w' (hb : Below w.heap.size w w') => fdead_any p g F w' (kf.below hb))
  rw [hd] at cD
  have cC := Lib.hid (fun w' (hb : Below w.heap.size w w') => do1_short c a n m i bs hb3 w' (hs.below hb))
  replace kd := Lib.hid kd
  clear hs hb3 kf hd
  go_enter Tryz.func18, Tryz.ntmps18
  go_upto_region 1 with fail
  have kb := below_alloc w (.cells #[.int .i64 1, .slice a n m, .int .i64 i] 50)
  have k1 : Arr (w.alloc (.cells #[.int .i64 1, .slice a n m, .int .i64 i] 50)) w.heap.size [.int .i64 1, .slice a n m, .int .i64 i] := Arr.new _ _ _
  obtain ⟨W, hW⟩ : ∃ W, w.alloc (.cells #[.int .i64 1, .slice a n m, .int .i64 i] 50) = W := ⟨_, rfl⟩
  obtain ⟨g1, hg⟩ : ∃ g, w.heap.size = g := ⟨_, rfl⟩
  rw [hW] at kb k1 ⊢
  rw [hg] at k1 ⊢
  clear hW hg
  have kd1 := kd.out.below kb
  have x0 := kd1.cell (j := 0) rfl
  have x2 := kd1.cell (j := 2) rfl
  go_wp2_with fail
  refine (cD.out _ kb).mono ?_
  rintro e w1 ⟨rfl, hw⟩
  obtain rfl : W = w1 := hw.symm
  clear cD x0 x2
  go_upto_region 3 with fail
  refine Tx.start (fun w' => Below (W).heap.size (W) w') 9999 11 rfl (by kernel_rfl) ?_
  have hS_1 : Below (W).heap.size (W) (World.drew W) := (Below.refl _ _).drew
  refine Tx.seg (A := ?_) 6 31 (by kernel_rfl) (by exact hS_1) [0, 1, 2, 3, 4] (by kernel_rfl) ?_ ?_
  rotate_left
  · intro w' hB
    have x1 := (kd1.below hB).cell (j := 1) rfl
    have y1 := k1.below hB
    iterate 5 (first | (refine rd_skip rfl rfl ?_; simp only [Act.put, List.setIfInBounds_toArray, List.set_cons_zero, List.set_cons_succ]) | (refine rd_load_arr rfl rfl _ _ rfl _ rfl (by decide +kernel) _ (by assumption) (by first | (rw [lims_len]; kernel_rfl) | (rw [el_rep]; kernel_rfl) | (rw [el_len]; kernel_rfl) | (rw [byts_len]; kernel_rfl) | (rw [us_len]; kernel_rfl) | (rw [bytn_len]; kernel_rfl) | (rw [ens_len, digs_len]; kernel_rfl) | kernel_rfl) ?_; simp only [Act.put, List.setIfInBounds_toArray, List.set_cons_zero, List.set_cons_succ]) | (refine rd_take (v := ?_) rfl rfl ?_ ?_; rotate_left; (focus (go_simp; try (with_reducible rfl))); simp only [Act.put, List.setIfInBounds_toArray, List.set_cons_zero, List.set_cons_succ]))
    exact rd_nil
  refine Tx.eff 5 63 rfl (by decide +kernel) (fun K hK => ?_)
  go_simp
  refine (cC.out _ (bel kb hS_1)).mono ?_
  rintro e w_2 ⟨rfl, hb_2⟩
  have hS_2 := ext_trans hS_1 (Nat.le_refl _) hb_2
  refine hK (fun w' => Below (W).heap.size (W) w') _ _ hS_2 (fun _ h => h) ?_
  clear hK K hb_2 hS_1
  try simp only [Act.put, List.setIfInBounds_toArray, List.set_cons_zero, List.set_cons_succ]
  refine Tx.seg (A := ?_) 0 2047 (by kernel_rfl) (by exact hS_2) [6, 7, 8, 9, 10] (by kernel_rfl) ?_ ?_
  rotate_left
  · intro w' hB
    iterate 5 (first | (refine rd_skip rfl rfl ?_; simp only [Act.put, List.setIfInBounds_toArray, List.set_cons_zero, List.set_cons_succ]) | (refine rd_load_arr rfl rfl _ _ rfl _ rfl (by decide +kernel) _ (by assumption) (by first | (rw [lims_len]; kernel_rfl) | (rw [el_rep]; kernel_rfl) | (rw [el_len]; kernel_rfl) | (rw [byts_len]; kernel_rfl) | (rw [us_len]; kernel_rfl) | (rw [bytn_len]; kernel_rfl) | (rw [ens_len, digs_len]; kernel_rfl) | kernel_rfl) ?_; simp only [Act.put, List.setIfInBounds_toArray, List.set_cons_zero, List.set_cons_succ]) | (refine rd_take (v := ?_) rfl rfl ?_ ?_; rotate_left; (focus (go_simp; try (with_reducible rfl))); simp only [Act.put, List.setIfInBounds_toArray, List.set_cons_zero, List.set_cons_succ]))
    exact rd_nil
  refine Tx.done (by kernel_rfl) ?_
  have kb := bel kb hS_2
  clear hS_2 cC
  go_wp2_with fail
  go_ret2
  exact ⟨rfl, kb⟩
/-- The state of nothing, told. -/
def RetN (w : World) (e : Ending) (w' : World) : Prop := ∃ v : Sv, e = .returned (.agg (newS.cs v).toArray) ∧ (∀ u ∈ newS.cs v, u.oneCell' = true) ∧ Below w.heap.size w w'
theorem newS_len (v : Sv) : (newS.cs v).length = 9 := rfl
set_option maxHeartbeats 1000000 in
theorem cstate_any (c k r s : Nat) (bt : Int) (w : World) (k0 : Arr w c (coZ k r s bt)) :
    Calls Tryz.prog 39 #[.pointer (some ⟨c, 0, none⟩)] w (RetN w) := by
  have hr : Hid (∀ w', Below w.heap.size w w' → w'.rangeAt c 65 stZ) := Lib.hid (fun w' hb => coZ_range (k0.below hb))
  have cC := Lib.hid (fun w' => show Calls Tryz.prog 68 #[.agg stZ.toArray] w' (RetSt newS w') from copy_any newS nilSv w' (newS_ok w') newS_fit0)
  clear k0
  go_enter Tryz.func39, Tryz.ntmps39
  go_upto_region 1 with fail
  refine wp_new1 (fun W hsz k2 kb => ?_)
  replace k2 : Arr W w.heap.size st0 := k2
  have hr1 := hr.out W kb
  go_wp2_with (refine wpList_load_mid2 rfl _ _ rfl _ _ rfl (by kernel_rfl) _ hr1 (by first | (rw [lims_len]; kernel_rfl) | (rw [el_rep]; kernel_rfl) | (rw [el_len]; kernel_rfl) | (rw [byts_len]; kernel_rfl) | (rw [us_len]; kernel_rfl) | (rw [bytn_len]; kernel_rfl) | (rw [ens_len, digs_len]; kernel_rfl) | kernel_rfl) ?_)
  refine (cC.out _).mono ?_
  rintro e w1 ⟨v, rfl, ho, hb⟩
  have hone := ho.ok.one
  replace k2 := k2.below hb
  replace kb := bel kb hb
  clear ho hb hr1 hr cC
  go_wp2_with (refine wpl_storeG rfl _ _ _ rfl _ (newS.cs v) rfl rfl _ k2 (by rw [newS_len]; kernel_rfl) (by rfl) hone (fun w4 k6 hg hsz => ?_))
  have kb := below_gr kb hg (Nat.le_refl _) kb.size
  exact bodyPost_ret (results_arr2 Tryz.results39 _ _ _ rfl (by kernel_rfl) _ (by first | assumption | exact Arr.setRow (by assumption) _) (by first | (rw [lims_len]; kernel_rfl) | (rw [el_rep]; kernel_rfl) | (rw [el_len]; kernel_rfl) | (rw [byts_len]; kernel_rfl) | (rw [us_len]; kernel_rfl) | (rw [bytn_len]; kernel_rfl) | (rw [ens_len, digs_len]; kernel_rfl) | kernel_rfl)) rfl ⟨v, rfl, hone, kb⟩
set_option maxHeartbeats 1000000 in
theorem dstate_any (d p c k r s : Nat) (bt : Int) (w : World) (kd : Arr w d (dvv p c false)) (k0 : Arr w c (coZ k r s bt)) :
    Calls Tryz.prog 19 #[.pointer (some ⟨d, 0, none⟩)] w (RetN w) := by
  have cC := Lib.hid (fun w' (hb : Below w.heap.size w w') => cstate_any c k r s bt w' (k0.below hb))
  clear k0
  go_enter Tryz.func19, Tryz.ntmps19
  go_upto_region 1 with fail
  refine wp_new1 (fun W hsz k2 kb => ?_)
  replace k2 : Arr W w.heap.size st0 := k2
  have x1 := (kd.below kb).cell (j := 1) rfl
  go_wp2_with fail
  refine (cC.out _ kb).mono ?_
  rintro e w1 ⟨v, rfl, hone, hb⟩
  replace k2 := k2.below hb
  replace kb := bel kb hb
  clear hb cC x1 kd
  go_wp2_with (refine wpl_storeG rfl _ _ _ rfl _ (newS.cs v) rfl rfl _ k2 (by rw [newS_len]; kernel_rfl) (by rfl) hone (fun w4 k6 hg hsz => ?_))
  have kb := below_gr kb hg (Nat.le_refl _) kb.size
  exact bodyPost_ret (results_arr2 Tryz.results19 _ _ _ rfl (by kernel_rfl) _ (by first | assumption | exact Arr.setRow (by assumption) _) (by first | (rw [lims_len]; kernel_rfl) | (rw [el_rep]; kernel_rfl) | (rw [el_len]; kernel_rfl) | (rw [byts_len]; kernel_rfl) | (rw [us_len]; kernel_rfl) | (rw [bytn_len]; kernel_rfl) | (rw [ens_len, digs_len]; kernel_rfl) | kernel_rfl)) rfl ⟨v, rfl, hone, kb⟩
theorem numT (x : Int) (w : World) : Calls Tryz.prog 8 #[.int .i64 x] w fun e w' => e = .returned (.int .i64 x) ∧ w' = w := by
  go_enter Tryz.func8, Tryz.ntmps8
  go_wp2_with fail
  go_ret
  exact ⟨rfl, rfl⟩
end Go.Proofs.YtmlmggmnlgcbcaaGreat


namespace Go.Proofs.YtmlmggmnlgcbcaaGreat
open Go.RowKit
theorem unmarked_new (n : Nat) (hn : 64 ≤ n) : Unmarked (Fl.new n) := by
  intro k hk
  show ((List.replicate (n * 256) (255 : UInt8)).drop (8192 * k)).take 4 = _
  rw [List.drop_replicate, List.take_replicate, show min 4 (n * 256 - 8192 * k) = 4 by omega]
  rfl
end Go.Proofs.YtmlmggmnlgcbcaaGreat


namespace Go.Proofs.YtmlmggmnlgcbcaaGreat
open Go.RowKit
theorem lit1 : (bytn 32 1).toArray = #[.int .u8 1, .int .u8 0, .int .u8 0, .int .u8 0, .int .u8 0, .int .u8 0, .int .u8 0, .int .u8 0, .int .u8 0, .int .u8 0, .int .u8 0, .int .u8 0, .int .u8 0, .int .u8 0, .int .u8 0, .int .u8 0, .int .u8 0, .int .u8 0, .int .u8 0, .int .u8 0, .int .u8 0, .int .u8 0, .int .u8 0, .int .u8 0, .int .u8 0, .int .u8 0, .int .u8 0, .int .u8 0, .int .u8 0, .int .u8 0, .int .u8 0, .int .u8 0] := by kernel_rfl
theorem lit2 : (bytn 32 2).toArray = #[.int .u8 2, .int .u8 0, .int .u8 0, .int .u8 0, .int .u8 0, .int .u8 0, .int .u8 0, .int .u8 0, .int .u8 0, .int .u8 0, .int .u8 0, .int .u8 0, .int .u8 0, .int .u8 0, .int .u8 0, .int .u8 0, .int .u8 0, .int .u8 0, .int .u8 0, .int .u8 0, .int .u8 0, .int .u8 0, .int .u8 0, .int .u8 0, .int .u8 0, .int .u8 0, .int .u8 0, .int .u8 0, .int .u8 0, .int .u8 0, .int .u8 0, .int .u8 0] := by kernel_rfl
set_option maxHeartbeats 2000000 in
set_option maxRecDepth 100000 in
theorem works_any (w : World) : Calls Tryz.prog 5 #[] w fun e w' => e = .returned (.bool true) ∧ Below w.heap.size w w' := by
  have cF := Lib.hid (fnew_any 128 (by decide) w)
  go_enter Tryz.func5, Tryz.ntmps5
  go_wp2_with fail
  refine (show Calls Tryz.prog 12 #[.int .i64 128] w _ from cF.out).mono ?_
  rintro e w1 ⟨p, g, rfl, hp, hg, kf, kb⟩
  clear cF
  have cO := onew_any (some ⟨p, 0, none⟩) 1 2 3 (by decide) (by decide) w1
  rw [lit1, lit2] at cO
  replace cO := Lib.hid (show Calls Tryz.prog 13 #[.pointer (some ⟨p, 0, none⟩), .agg #[.int .u8 1, .int .u8 0, .int .u8 0, .int .u8 0, .int .u8 0, .int .u8 0, .int .u8 0, .int .u8 0, .int .u8 0, .int .u8 0, .int .u8 0, .int .u8 0, .int .u8 0, .int .u8 0, .int .u8 0, .int .u8 0, .int .u8 0, .int .u8 0, .int .u8 0, .int .u8 0, .int .u8 0, .int .u8 0, .int .u8 0, .int .u8 0, .int .u8 0, .int .u8 0, .int .u8 0, .int .u8 0, .int .u8 0, .int .u8 0, .int .u8 0, .int .u8 0], .agg #[.int .u8 2, .int .u8 0, .int .u8 0, .int .u8 0, .int .u8 0, .int .u8 0, .int .u8 0, .int .u8 0, .int .u8 0, .int .u8 0, .int .u8 0, .int .u8 0, .int .u8 0, .int .u8 0, .int .u8 0, .int .u8 0, .int .u8 0, .int .u8 0, .int .u8 0, .int .u8 0, .int .u8 0, .int .u8 0, .int .u8 0, .int .u8 0, .int .u8 0, .int .u8 0, .int .u8 0, .int .u8 0, .int .u8 0, .int .u8 0, .int .u8 0, .int .u8 0], .int .i64 3] w1 _ from cO)
  go_wp2_with fail
  refine cO.out.mono ?_
  rintro e w2 ⟨q, rfl, hq, ko, hb⟩
  have hl := kf.lt
  have cD := Lib.hid (dopen_fresh p q g 1 2 3 (Fl.new 128) w2 ko (kf.below hb) (by omega) (by omega) (by simp [Fl.new]) rfl rfl (by decide) (by decide) (unmarked_new 128 (by decide)))
  have hqw : w.heap.size ≤ q := by have := kb.size; omega
  have hql := Lib.hid ko.lt
  have hpl := Lib.hid (kf.below hb).lt
  replace kb := bel kb hb
  clear hb ko kf cO hl hq
  go_wp2_with fail
  refine cD.out.mono ?_
  rintro e w3 ⟨d, c, k, F', rfl, hd, hc, hdc, hde, -, -, kd, kc, ko, kf, hch⟩
  have hM : ∀ k, k ∈ [p, g, q] → w.heap.size ≤ k := by
    intro k hk
    simp only [List.mem_cons, List.not_mem_nil, or_false] at hk
    rcases hk with h | h | h <;> omega
  have hq3 := ko.lt
  have hdw : w.heap.size ≤ c := Nat.le_trans kb.size hc
  have hqc : q ≠ c := by
    intro e
    subst e
    have := hql.out
    omega
  have hpc : p ≠ c := by
    intro e
    subst e
    have := hpl.out.1
    omega
  have hgc : g ≠ c := by
    intro e
    subst e
    have := hpl.out.2
    omega
  replace kb := Ch.to_below kb hch hM kb.size
  have cA := Lib.hid (ddo4 d p g c k 1 2 F' (.slice none 0 0) 0 w3 kd kc kf hde hdc)
  clear cD hch hM hp hg hqw hd hc
  replace kd := Lib.hid kd
  replace ko := Lib.hid ko
  replace kf := Lib.hid kf
  replace hdc := Lib.hid hdc
  replace hqc := Lib.hid hqc
  replace hpc := Lib.hid hpc
  replace hgc := Lib.hid hgc
  replace hde := Lib.hid hde
  clear kc
  go_wp2_with fail
  refine (numT 0 _).mono ?_
  rintro e wn ⟨rfl, hw⟩
  subst hw
  go_wp2_with fail
  refine cA.out.mono ?_
  rintro e w4 ⟨rfl, kc, hch⟩
  replace kb := Ch.to_below kb hch (fun k hk => by simp only [List.mem_cons, List.not_mem_nil, or_false] at hk; omega) kb.size
  replace ko := Lib.hid (ko.out.ch hch (by simpa using hqc.out))
  replace kd := Lib.hid (kd.out.ch hch (by simpa using hdc.out))
  replace kf := Lib.hid (kf.out.ch hch (by simpa using hpc.out) (by simpa using hgc.out))
  replace kc := Lib.hid kc
  clear cA hch hqc hdc hpc hgc
  go_upto_region 7 with fail
  have hcv := fun (w : World) (C : Array Value) (n c : Nat) => Lib.run_convert_bytes_const (P := Tryz.prog) w 26 5 C n c Tryz.underlying26 Tryz.underlying5
  have kba := below_alloc w4 (.cells #[.int .u8 120] 5 (1, 2))
  have cB := Lib.hid (ddo1_short d p g c F' (some ⟨w4.heap.size, 0, none⟩) 1 1 0 [120] (by decide) _ (show Sl (w4.alloc (.cells #[.int .u8 120] 5 (1, 2))) (.slice (some ⟨w4.heap.size, 0, none⟩) 1 1) (u8s [120]) from Sl.newMk _ _ _ _ _ rfl _ rfl (by decide)) (kd.out.below kba) (kf.out.below kba) hde.out)
  have cS := Lib.hid (fun w' (hb : Below w4.heap.size w4 w') => dstate_any d p c k 1 2 (-1) w' (kd.out.below hb) (kc.out.below hb))
  have cN := Lib.hid (fun w' (hb : Below w4.heap.size w4 w') => ocount_any q (some ⟨p, 0, none⟩) 1 2 1 ((3 : Nat) : Int) w' (ko.out.below hb))
  clear kd kf kc ko hde
  go_wp2_with fail
  refine cB.out.mono ?_
  rintro e w5 ⟨rfl, hb⟩
  have kb4 := bel kba hb
  clear cB hcv hb kba
  go_wp2_with fail
  refine (cS.out _ kb4).mono ?_
  rintro e w6 ⟨v, rfl, hone, hb⟩
  replace kb4 := bel kb4 hb
  clear cS hb
  have hla := newS_len v
  go_upto_region 9 with (refine wpl_storeG rfl _ _ _ rfl _ (newS.cs v) rfl rfl _ (Arr.new _ _ _) (by rw [newS_len]; kernel_rfl) (by rfl) hone (fun w7 k7 hg hsz => ?_))
  replace kb4 := bel kb4 (below_fresh hg)
  have x8 := k7.cell (j := 8) rfl
  clear hg hsz k7 hone hla
  go_wp2_with fail
  refine (numT 18 _).mono ?_
  rintro e wn ⟨rfl, hw⟩
  subst hw
  go_wp2_with fail
  refine (numT 4 _).mono ?_
  rintro e wn ⟨rfl, hw⟩
  subst hw
  go_wp2_with fail
  refine (cN.out _ kb4).mono ?_
  rintro e w8 ⟨rfl, hw⟩
  subst hw
  clear cN
  go_wp2_with fail
  go_ret
  exact ⟨rfl, bel kb kb4⟩
end Go.Proofs.YtmlmggmnlgcbcaaGreat


namespace Go.Proofs.YtmlmggmnlgcbcaaGreat
open Go.RowKit
theorem or_u8c {a b : Nat} (ha : a < 256) (hb : b < 256) : bits .or .u8 (a : Int) (b : Int) = ((a ||| b : Nat) : Int) := by
  have h8 : ∀ {a : Nat}, a < 256 → (BitVec.ofInt 8 (a : Int)).toNat = a := fun h => by
    rw [BitVec.ofInt_natCast, BitVec.toNat_ofNat]
    exact Nat.mod_eq_of_lt h
  have hl : a ||| b < 256 := Nat.or_lt_two_pow (n := 8) ha hb
  show IntKind.u8.wrap ((BitVec.ofInt 8 (a : Int) ||| BitVec.ofInt 8 (b : Int)).toNat : Int) = _
  rw [BitVec.toNat_or, h8 ha, h8 hb, u8_mod, Nat.mod_eq_of_lt hl]
/-- The first i of both are alike. -/
def alk (xs ys : List UInt8) (i : Nat) : Prop := ∀ j, j < i → xs[j]? = ys[j]?
theorem alk_all {xs ys : List UInt8} (h : xs.length = ys.length) : alk xs ys xs.length ↔ xs = ys := by
  constructor
  · intro ha
    apply List.ext_getElem?
    intro j
    by_cases hj : j < xs.length
    · exact ha j hj
    · rw [List.getElem?_eq_none (by omega), List.getElem?_eq_none (by omega)]
  · rintro rfl j _
    rfl
theorem xor_nil (a b : Nat) : a ^^^ b = 0 ↔ a = b := by
  constructor
  · intro h
    have : (a ^^^ b) ^^^ b = 0 ^^^ b := by rw [h]
    rwa [Nat.xor_assoc, Nat.xor_self, Nat.xor_zero, Nat.zero_xor] at this
  · rintro rfl
    exact Nat.xor_self a
theorem alk_next {xs ys : List UInt8} {i x y o : Nat} (hx : i < xs.length) (hy : i < ys.length) (ex : (xs[i]).toNat = x) (ey : (ys[i]).toNat = y) (ho : o = 0 ↔ alk xs ys i) : (o ||| (x ^^^ y)) = 0 ↔ alk xs ys (i + 1) := by
  rw [Nat.or_eq_zero_iff, ho, xor_nil]
  constructor
  · rintro ⟨h1, h2⟩ j hj
    by_cases e : j = i
    · subst e
      rw [List.getElem?_eq_getElem hx, List.getElem?_eq_getElem hy]
      congr 1
      exact UInt8.toNat_inj.1 (by rw [ex, ey, h2])
    · exact h1 j (by omega)
  · intro h
    refine ⟨fun j hj => h j (by omega), ?_⟩
    have := h i (by omega)
    rw [List.getElem?_eq_getElem hx, List.getElem?_eq_getElem hy] at this
    injection this with this
    rw [← ex, ← ey, this]
set_option maxHeartbeats 4000000 in
set_option maxRecDepth 100000 in
theorem msame_any (a1 a2 : Option Addr) (c1 c2 : Nat) (xs ys : List UInt8) (w : World) (h1 : Sl w (.slice a1 xs.length c1) (u8s xs)) (h2 : Sl w (.slice a2 ys.length c2) (u8s ys)) :
    Calls Tryz.prog 24 #[.slice a1 xs.length c1, .slice a2 ys.length c2] w fun e w' => e = .returned (.bool (decide (xs = ys))) ∧ Below w.heap.size w w' := by
  have s1 := Lib.hid h1
  have s2 := Lib.hid h2
  have lm1 : xs.length ≤ maxLen := by have := h1.len; rw [u8s_len] at this; omega
  clear h1 h2
  have kb := Below.refl w.heap.size w
  by_cases hl : xs.length = ys.length
  rotate_left
  · have hr : decide (xs = ys) = false := decide_eq_false (fun e => hl (by rw [e]))
    rw [hr]
    have dl : ((xs.length : Int) == (ys.length : Int)) = false := by simp; omega
    clear hr
    go_enter Tryz.func24, Tryz.ntmps24
    go_wp2_with fail
    go_ret
    exact ⟨rfl, kb⟩
  obtain ⟨r, hr⟩ : ∃ r, decide (xs = ys) = r := ⟨_, rfl⟩
  rw [hr]
  replace hr := Lib.hid hr
  obtain ⟨n, hn⟩ : ∃ n, xs.length = n := ⟨_, rfl⟩
  have hn2 : ys.length = n := by omega
  rw [hn] at s1 lm1 ⊢
  rw [hn2] at s2 ⊢
  replace hn := Lib.hid hn
  replace hn2 := Lib.hid hn2
  clear hl
  unfold maxLen at lm1
  go_enter Tryz.func24, Tryz.ntmps24
  go_wp2_with fail
  go_loopw [14, 5] (fun iv ov wr => ∃ i o : Nat, i ≤ n ∧ iv = .int .i64 i ∧ ov = .int .u8 o ∧ o < 256 ∧ (o = 0 ↔ alk xs ys i) ∧ Below w.heap.size w wr) (fun iv _ _ => n - (intOf iv).toNat)
  case atStart => exact ⟨0, 0, Nat.zero_le _, rfl, rfl, by decide, ⟨fun _ j h => absurd h (by omega), fun _ => rfl⟩, kb⟩
  case round =>
  clear kb
  obtain ⟨i, o, hi, rfl, rfl, lo, ho, kb⟩ := hrel
  replace ho := Lib.hid ho
  have hi0 : (0 : Int) ≤ (i : Int) := by omega
  by_cases hin : i < n
  · have hi1 : (i : Int) < (n : Int) := by omega
    have q1 := Lib.hid (s1.out.below kb)
    have q2 := Lib.hid (s2.out.below kb)
    have hx1 : i < xs.length := by rw [hn.out]; exact hin
    have hy1 : i < ys.length := by rw [hn2.out]; exact hin
    obtain ⟨b, o1, rfl, -, -, -, hc1⟩ := q1.out.at (by rw [u8s_len]; omega)
    obtain ⟨b2, o2, rfl, -, -, -, hc2⟩ := q2.out.at (by rw [u8s_len]; omega)
    have cx := hc1 i _ (u8s_get xs i hx1)
    have cy := hc2 i _ (u8s_get ys i hy1)
    clear hc1 hc2
    obtain ⟨x, hx⟩ : ∃ x, (xs[i]).toNat = x := ⟨_, rfl⟩
    obtain ⟨y, hy⟩ : ∃ y, (ys[i]).toNat = y := ⟨_, rfl⟩
    have lx : x < 256 := by rw [← hx]; exact (xs[i]).toNat_lt
    have ly : y < 256 := by rw [← hy]; exact (ys[i]).toNat_lt
    rw [hx] at cx
    rw [hy] at cy
    have hnx := Lib.hid (alk_next hx1 hy1 hx hy ho.out)
    have fx := xor_u8c lx ly
    obtain ⟨z, hz⟩ : ∃ z, x ^^^ y = z := ⟨_, rfl⟩
    have lz : z < 256 := by rw [← hz]; exact xor_256 lx ly
    rw [hz] at fx hnx
    have fo := or_u8c lo lz
    obtain ⟨o3, ho3⟩ : ∃ o3, o ||| z = o3 := ⟨_, rfl⟩
    have lo3 : o3 < 256 := by rw [← ho3]; exact Nat.or_lt_two_pow (n := 8) lo lz
    rw [ho3] at fo hnx
    clear hx hy hz ho3 hx1 hy1
    go_upto_region 7 with fail
    obtain ⟨wq, rfl⟩ : ∃ wq : World, wq = wr := ⟨_, rfl⟩
    refine Tx.start (fun w' => Below (wq).heap.size (wq) w') 9999 12 rfl (by kernel_rfl) ?_
    have hS_1 : Below (wq).heap.size (wq) (World.drew wq) := (Below.refl _ _).drew
    refine Tx.seg (A := ?_) 0 4095 (by kernel_rfl) (by exact hS_1) [0, 1, 2, 3, 4, 5, 6, 7, 8, 9, 10, 11] (by kernel_rfl) ?_ ?_
    rotate_left
    · intro w' hB
      have e1 : w'.cell? ⟨b, o1 + i, none⟩ = some (.int .u8 (x : Int)) := by rw [hB.cell (p := ⟨b, o1 + i, none⟩) (World.block_lt_of_cell? _ _ cx)]; exact cx
      have e2 : w'.cell? ⟨b2, o2 + i, none⟩ = some (.int .u8 (y : Int)) := by rw [hB.cell (p := ⟨b2, o2 + i, none⟩) (World.block_lt_of_cell? _ _ cy)]; exact cy
      iterate 12 (first | (refine rd_skip rfl rfl ?_; simp only [Act.put, List.setIfInBounds_toArray, List.set_cons_zero, List.set_cons_succ]) | (refine rd_load_arr rfl rfl _ _ rfl _ rfl (by decide +kernel) _ (by assumption) (by first | (rw [lims_len]; kernel_rfl) | (rw [el_rep]; kernel_rfl) | (rw [el_len]; kernel_rfl) | (rw [byts_len]; kernel_rfl) | (rw [us_len]; kernel_rfl) | (rw [bytn_len]; kernel_rfl) | (rw [ens_len, digs_len]; kernel_rfl) | kernel_rfl) ?_; simp only [Act.put, List.setIfInBounds_toArray, List.set_cons_zero, List.set_cons_succ]) | (refine rd_take (v := ?_) rfl rfl ?_ ?_; rotate_left; (focus (go_simp; try (with_reducible rfl))); simp only [Act.put, List.setIfInBounds_toArray, List.set_cons_zero, List.set_cons_succ]) | (refine rd_take (v := ?_) rfl rfl ?_ ?_; rotate_left; (focus (try go_simp); fail)))
      exact rd_nil
    refine Tx.done (by kernel_rfl) ?_
    go_wp2_with fail
    exact ⟨⟨i + 1, o3, by omega, by go_num, rfl, lo3, hnx.out, bel kb hS_1⟩, by simp [intOf]; omega⟩
  · have dj : decide ((i : Int) < (n : Int)) = false := decide_eq_false (by omega)
    have hre : ((o : Int) == 0) = r := by
      rw [← hr.out]
      have h1 := ho.out
      rw [show i = xs.length by rw [hn.out]; omega, alk_all (by rw [hn.out, hn2.out])] at h1
      by_cases e : xs = ys
      · rw [decide_eq_true e]
        have := h1.2 e
        subst this
        rfl
      · rw [decide_eq_false e]
        have : o ≠ 0 := fun h => e (h1.1 h)
        simp; omega
    go_wp2_with fail
    go_ret
    exact ⟨rfl, kb⟩
end Go.Proofs.YtmlmggmnlgcbcaaGreat

