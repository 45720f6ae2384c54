import Derived.Test.YtmlmggmnlgcbcaaGreatJa15
import Derived.ChangeShapes
import Derived.Test.YtmlmggmnlgcbcaaGreatRows
import Derived.ProofKit

namespace Go.Proofs.YtmlmggmnlgcbcaaGreat
open Go.RowKit
theorem dopen_nilf (q : Nat) (w : World) : Calls Tryz.prog 16 #[.pointer none, .pointer (some ⟨q, 0, none⟩)] w fun e w' => e = .returned (.tuple #[.pointer none, .int .i64 1]) ∧ w' = w := by
  go_enter Tryz.func16, Tryz.ntmps16
  go_wp2_with fail
  go_ret2
  exact ⟨rfl, rfl⟩
theorem dopen_nilo (p : Nat) (w : World) : Calls Tryz.prog 16 #[.pointer (some ⟨p, 0, none⟩), .pointer none] w fun e w' => e = .returned (.tuple #[.pointer none, .int .i64 1]) ∧ w' = w := by
  go_enter Tryz.func16, Tryz.ntmps16
  go_wp2_with fail
  go_ret2
  exact ⟨rfl, rfl⟩
theorem dopen_small (p q g : Nat) (F : Fl) (w : World) (kf : FlAt w p g F) (hlen : F.b.length / 256 < 128) : Calls Tryz.prog 16 #[.pointer (some ⟨p, 0, none⟩), .pointer (some ⟨q, 0, none⟩)] w fun e w' => e = .returned (.tuple #[.pointer none, .int .i64 1]) ∧ w' = w := by
  obtain ⟨L, hL⟩ : ∃ L, F.b.length / 256 = L := ⟨_, rfl⟩
  have cS := Lib.hid (fsize_any p g F w kf)
  rw [hL] at cS hlen
  have hL64 : (L : Int) < 128 := by omega
  clear kf hlen hL
  go_enter Tryz.func16, Tryz.ntmps16
  go_wp2_with fail
  refine cS.out.mono ?_
  rintro e w1 ⟨rfl, hw⟩
  obtain rfl : w = w1 := hw.symm
  clear cS
  go_wp2_with fail
  go_ret2
  exact ⟨rfl, rfl⟩
set_option maxRecDepth 100000 in
theorem dopen_dead (p q g : Nat) (F : Fl) (w : World) (kf : FlAt w p g F) (hlen : 32768 ≤ F.b.length) (hd : F.dead = true) : Calls Tryz.prog 16 #[.pointer (some ⟨p, 0, none⟩), .pointer (some ⟨q, 0, none⟩)] w fun e w' => e = .returned (.tuple #[.pointer none, .int .i64 8]) ∧ w' = w := by
  obtain ⟨L, hL⟩ : ∃ L, F.b.length / 256 = L := ⟨_, rfl⟩
  have cS := Lib.hid (fsize_any p g F w kf)
  rw [hL] at cS
  have hL64 : (128 : Int) ≤ (L : Int) := by omega
  have cB := Lib.hid (bopen_dead p q g F w kf (by omega) hd)
  clear kf hlen hL hd
  go_enter Tryz.func16, Tryz.ntmps16
  go_wp2_with fail
  refine cS.out.mono ?_
  rintro e w1 ⟨rfl, hw⟩
  obtain rfl : w = w1 := hw.symm
  clear cS
  go_wp2_with fail
  refine cB.out.mono ?_
  rintro e w1 ⟨rfl, hw⟩
  obtain rfl : w = w1 := hw.symm
  clear cB
  go_wp2_with fail
  go_ret2
  exact ⟨rfl, rfl⟩
theorem dbooted_any (d p c k r s : Nat) (bt : Int) (w : World) (kd : Arr w d (dvv p c false)) (k0 : Arr w c (coZ k r s bt)) :
    Calls Tryz.prog 25 #[.pointer (some ⟨d, 0, none⟩)] w fun e w' => e = .returned (.int .i64 bt) ∧ w' = w := by
  have x1 := kd.cell (j := 1) rfl
  have cB := Lib.hid (cbooted_any c k r s bt w k0)
  clear k0 kd
  go_enter Tryz.func25, Tryz.ntmps25
  go_wp2_with fail
  refine cB.out.mono ?_
  rintro e w1 ⟨rfl, hw⟩
  obtain rfl : w = w1 := hw.symm
  clear cB
  go_wp2_with fail
  go_ret
  exact ⟨rfl, rfl⟩
set_option maxHeartbeats 1000000 in
theorem ddo4 (d p g c k r s : Nat) (F : Fl) (bv : Value) (n : Int) (w : World) (kd : Arr w d (dvv p c false)) (k0 : Arr w c (coZ k r s (-1))) (kf : FlAt w p g F) (hd : F.dead = false) (hdc : d ≠ c) :
    Calls Tryz.prog 18 #[.pointer (some ⟨d, 0, none⟩), .agg #[.int .i64 4, bv, .int .i64 n]] w fun e w' => e = .returned (.tuple #[.slice none 0 0, .int .i64 18]) ∧ Arr w' c (coZ k r s (-1)) ∧ Ch [c] w w' := by
  have cD := Lib.hid (fun w' (hb : Below w.heap.size w w') => fdead_any p g F w' (kf.below hb))
  rw [hd] at cD
  have cC := Lib.hid (fun w' (hb : Below w.heap.size w w') => do4 c k r s (-1) bv n w' (k0.below hb))
  replace kd := Lib.hid kd
  have hcl := k0.lt
  clear k0 kf hd
  go_enter Tryz.func18, Tryz.ntmps18
  go_upto_region 1 with fail
  have kb := below_alloc w (.cells #[.int .i64 4, bv, .int .i64 n] 50)
  have k1 : Arr (w.alloc (.cells #[.int .i64 4, bv, .int .i64 n] 50)) w.heap.size [.int .i64 4, bv, .int .i64 n] := Arr.new _ _ _
  obtain ⟨W, hW⟩ : ∃ W, w.alloc (.cells #[.int .i64 4, bv, .int .i64 n] 50) = W := ⟨_, rfl⟩
  obtain ⟨g1, hg⟩ : ∃ g, w.heap.size = g := ⟨_, rfl⟩
  rw [hW] at kb k1 ⊢
  rw [hg] at k1 ⊢
  have hg1 : g1 ≠ c := by have := hcl; omega
  clear hW hg
  have kd1 := kd.out.below kb
  have x0 := kd1.cell (j := 0) rfl
  have x2 := kd1.cell (j := 2) rfl
  go_wp2_with fail
  refine (cD.out _ kb).mono ?_
  rintro e w1 ⟨rfl, hw⟩
  obtain rfl : W = w1 := hw.symm
  clear cD x0 x2
  go_upto_region 3 with fail
  refine Tx.start (fun w' => Ch [c] W w') 9999 11 rfl (by kernel_rfl) ?_
  have hS0 : Ch [c] W W.drew := Ch.of_below (Below.refl _ _).drew
  refine Tx.seg (A := ?_) 6 31 (by kernel_rfl) (by exact hS0) [0, 1, 2, 3, 4] (by kernel_rfl) ?_ ?_
  rotate_left
  · intro w' hB
    have x1 := (kd1.ch hB (by simpa using hdc)).cell (j := 1) rfl
    have y1 := k1.ch hB (by simpa using hg1)
    iterate 5 (first | (refine rd_skip rfl rfl ?_; simp only [Act.put, List.setIfInBounds_toArray, List.set_cons_zero, List.set_cons_succ]) | (refine rd_load_arr rfl rfl _ _ rfl _ rfl (by decide +kernel) _ (by assumption) (by first | (rw [lims_len]; kernel_rfl) | (rw [el_rep]; kernel_rfl) | (rw [el_len]; kernel_rfl) | (rw [byts_len]; kernel_rfl) | (rw [us_len]; kernel_rfl) | (rw [bytn_len]; kernel_rfl) | (rw [ens_len, digs_len]; kernel_rfl) | kernel_rfl) ?_; simp only [Act.put, List.setIfInBounds_toArray, List.set_cons_zero, List.set_cons_succ]) | (refine rd_take (v := ?_) rfl rfl ?_ ?_; rotate_left; (focus (go_simp; try (with_reducible rfl))); simp only [Act.put, List.setIfInBounds_toArray, List.set_cons_zero, List.set_cons_succ]))
    exact rd_nil
  refine Tx.eff 5 63 rfl (by decide +kernel) (fun K hK => ?_)
  go_simp
  refine (cC.out _ kb.drew).mono ?_
  rintro e w2 ⟨rfl, k2, hc⟩
  have hS1 : Ch [c] W w2 := hS0.trans hc
  refine hK (fun w' => Ch [c] W w') _ _ hS1 (fun _ h => h) ?_
  clear hK K hS0
  try simp only [Act.put, List.setIfInBounds_toArray, List.set_cons_zero, List.set_cons_succ]
  refine Tx.seg (A := ?_) 0 2047 (by kernel_rfl) (by exact hS1) [6, 7, 8, 9, 10] (by kernel_rfl) ?_ ?_
  rotate_left
  · intro w' hB
    iterate 5 (first | (refine rd_skip rfl rfl ?_; simp only [Act.put, List.setIfInBounds_toArray, List.set_cons_zero, List.set_cons_succ]) | (refine rd_load_arr rfl rfl _ _ rfl _ rfl (by decide +kernel) _ (by assumption) (by first | (rw [lims_len]; kernel_rfl) | (rw [el_rep]; kernel_rfl) | (rw [el_len]; kernel_rfl) | (rw [byts_len]; kernel_rfl) | (rw [us_len]; kernel_rfl) | (rw [bytn_len]; kernel_rfl) | (rw [ens_len, digs_len]; kernel_rfl) | kernel_rfl) ?_; simp only [Act.put, List.setIfInBounds_toArray, List.set_cons_zero, List.set_cons_succ]) | (refine rd_take (v := ?_) rfl rfl ?_ ?_; rotate_left; (focus (go_simp; try (with_reducible rfl))); simp only [Act.put, List.setIfInBounds_toArray, List.set_cons_zero, List.set_cons_succ]))
    exact rd_nil
  refine Tx.done (by kernel_rfl) ?_
  have hq := (Ch.of_below (M := [c]) kb).trans hS1
  clear hS1 cC kb hc
  go_wp2_with fail
  go_ret2
  exact ⟨rfl, k2, hq⟩
end Go.Proofs.YtmlmggmnlgcbcaaGreat


namespace Go.Proofs.YtmlmggmnlgcbcaaGreat
open Go.RowKit
theorem unmarked_new (n : Nat) (hn : 64 ≤ n) : Unmarked (Fl.new n) := by
  intro k hk
  show ((List.replicate (n * 256) (255 : UInt8)).drop (8192 * k)).take 4 = _
  rw [List.drop_replicate, List.take_replicate, show min 4 (n * 256 - 8192 * k) = 4 by omega]
  rfl
theorem num27 (x : Int) (w : World) : Calls Tryz.prog 17 #[.int .i64 x] w fun e w' => e = .returned (.int .i64 x) ∧ w' = w := by
  go_enter Tryz.func17, Tryz.ntmps17
  go_wp2_with fail
  go_ret
  exact ⟨rfl, rfl⟩
set_option maxHeartbeats 2000000 in
set_option maxRecDepth 100000 in
theorem alive27 (w : World) : Calls Tryz.prog 11 #[] w fun e w' => e = .returned (.bool true) ∧ Below w.heap.size w w' := by
  have cF := Lib.hid (fnew_any 128 (by decide) w)
  go_enter Tryz.func11, Tryz.ntmps11
  go_wp2_with fail
  refine (show Calls Tryz.prog 12 #[.int .i64 128] w _ from cF.out).mono ?_
  rintro e w1 ⟨p, g, rfl, hp, hg, kf, kb⟩
  clear cF
  have cO := Lib.hid (show Calls Tryz.prog 13 #[.pointer (some ⟨p, 0, none⟩), .agg (bytn 32 0).toArray, .agg (bytn 32 0).toArray, .int .i64 9] w1 _ from onew_any (some ⟨p, 0, none⟩) 0 0 9 (by decide) (by decide) w1)
  go_wp2_with (refine wpList_builta rfl _ _ rfl (bytn 32 0).toArray (by kernel_rfl) ?_)
  refine cO.out.mono ?_
  rintro e w2 ⟨q, rfl, hq, ko, hb⟩
  have hl := kf.lt
  have cD := Lib.hid (dopen_fresh p q g 0 0 9 (Fl.new 128) w2 ko (kf.below hb) (by omega) (by omega) (by simp [Fl.new]) rfl rfl (by decide) (by decide) (unmarked_new 128 (by decide)))
  have hqw : w.heap.size ≤ q := by have := kb.size; omega
  have hql := Lib.hid ko.lt
  replace kb := bel kb hb
  clear hb ko kf cO hl hq
  go_wp2_with fail
  refine cD.out.mono ?_
  rintro e w3 ⟨d, c, k, F', rfl, hd, hc, hdc, hde, -, -, kd, kc, ko, kf, hch⟩
  have hM : ∀ k, k ∈ [p, g, q] → w.heap.size ≤ k := by
    intro k hk
    simp only [List.mem_cons, List.not_mem_nil, or_false] at hk
    rcases hk with h | h | h <;> omega
  have hq3 := ko.lt
  have hdw : w.heap.size ≤ c := Nat.le_trans kb.size hc
  have hqc : q ≠ c := by
    have := hch.size
    intro e
    subst e
    have := hql.out
    omega
  replace kb := Ch.to_below kb hch hM kb.size
  have cA := Lib.hid (ddo4 d p g c k 0 0 F' (.slice none 0 0) 0 w3 kd kc kf hde hdc)
  clear cD hch hM hp hg hqw hd hc hde kf
  replace kd := Lib.hid kd
  replace ko := Lib.hid ko
  replace hdc := Lib.hid hdc
  replace hqc := Lib.hid hqc
  clear kc
  go_wp2_with fail
  refine (num27 0 _).mono ?_
  rintro e w4 ⟨rfl, hw⟩
  obtain rfl : w3 = w4 := hw.symm
  go_wp2_with fail
  refine cA.out.mono ?_
  rintro e w4 ⟨rfl, kc, hch⟩
  replace kb := Ch.to_below kb hch (fun k hk => by simp only [List.mem_cons, List.not_mem_nil, or_false] at hk; omega) kb.size
  have cO := Lib.hid (ocount_any q (some ⟨p, 0, none⟩) 0 0 1 ((9 : Nat) : Int) w4 (ko.out.ch hch (by simpa using hqc.out)))
  have cB := Lib.hid (dbooted_any d p c k 0 0 (-1) w4 (kd.out.ch hch (by simpa using hdc.out)) kc)
  clear cA hch kc kd ko
  go_wp2_with fail
  refine (num27 18 _).mono ?_
  rintro e w5 ⟨rfl, hw⟩
  obtain rfl : w4 = w5 := hw.symm
  go_wp2_with fail
  refine cO.out.mono ?_
  rintro e w5 ⟨rfl, hw⟩
  obtain rfl : w4 = w5 := hw.symm
  go_wp2_with fail
  refine cB.out.mono ?_
  rintro e w5 ⟨rfl, hw⟩
  obtain rfl : w4 = w5 := hw.symm
  clear cO cB
  go_wp2_with fail
  go_ret
  exact ⟨rfl, kb⟩
end Go.Proofs.YtmlmggmnlgcbcaaGreat


namespace Go.Proofs.YtmlmggmnlgcbcaaGreat
open Go.RowKit
theorem fl_len (m : Nat) : (Fl.new m).b.length = m * 256 := by simp [Fl.new]
set_option maxHeartbeats 4000000 in
set_option maxRecDepth 100000 in
theorem deviceNone_walk (n : Int) (b : Bool) (W : World) (_hw : (Lit.int .i64 n).wf = true) :
    Calls Tryz.prog 4 #[.int .i64 n, .bool b] W fun e W' => e = .returned (.bool true) ∧ Below W.heap.size W W' := by
  go_enter Tryz.func4, Tryz.ntmps4
  go_wp2_with fail
  refine (alive27 W).mono ?_
  rintro e w0 ⟨rfl, kb0⟩
  by_cases h0 : n < 0
  · go_wp2_with fail
    go_ret
    exact ⟨rfl, kb0⟩
  have h0' : 0 ≤ n := by omega
  by_cases h2 : 200 < n
  · go_wp2_with fail
    go_ret
    exact ⟨rfl, kb0⟩
  have h2' : n ≤ 200 := by omega
  obtain ⟨m, rfl⟩ : ∃ m : Nat, n = m := ⟨n.toNat, by omega⟩
  have hm : m ≤ 200 := by omega
  have cF := Lib.hid (fnew_any m (by omega) w0)
  by_cases hs : m < 128
  · have hs' : (m : Int) < 128 := by omega
    cases b
    · skip
      go_wp2_with fail
      refine cF.out.mono ?_
      rintro e w1 ⟨p, g, rfl, hp0, hg0, kf, kb1⟩
      clear cF
      have hp : W.heap.size ≤ p := Nat.le_trans kb0.size hp0
      have hg : W.heap.size ≤ g := Nat.le_trans kb0.size hg0
      have kb := bel kb0 kb1
      clear kb0 kb1 hp0 hg0
      have cO := Lib.hid (show Calls Tryz.prog 13 #[.pointer (some ⟨p, 0, none⟩), .agg (bytn 32 0).toArray, .agg (bytn 32 0).toArray, .int .i64 5] w1 _ from onew_any (some ⟨p, 0, none⟩) 0 0 5 (by decide) (by decide) w1)
      go_wp2_with (refine wpList_builta rfl _ _ rfl (bytn 32 0).toArray (by kernel_rfl) ?_)
      refine cO.out.mono ?_
      rintro e w2 ⟨q, rfl, hq, ko, hb⟩
      have hl := kf.lt
      have hqw : W.heap.size ≤ q := by have := kb.size; omega
      have hqp : q ≠ p := by omega
      have hqg : q ≠ g := by omega
      replace kf := kf.below hb
      replace kb := bel kb hb
      clear hb cO hl hq
      have cD := Lib.hid (dopen_small p q g (Fl.new m) w2 kf (by rw [fl_len]; omega))
      clear ko kf hqp hqg hp hg hqw
      go_wp2_with fail
      refine cD.out.mono ?_
      rintro e w3 ⟨rfl, hw⟩
      obtain rfl : w2 = w3 := hw.symm
      clear cD
      go_wp2_with fail
      refine (dopen_nilf q _).mono ?_
      rintro e wn ⟨rfl, hw⟩
      subst hw
      go_wp2_with fail
      refine (dopen_nilo p _).mono ?_
      rintro e wn ⟨rfl, hw⟩
      subst hw
      go_wp2_with fail
      refine (num27 1 _).mono ?_
      rintro e wn ⟨rfl, hw⟩
      subst hw
      go_wp2_with fail
      refine (num27 1 _).mono ?_
      rintro e wn ⟨rfl, hw⟩
      subst hw
      go_wp2_with fail
      refine (num27 1 _).mono ?_
      rintro e wn ⟨rfl, hw⟩
      subst hw
      go_wp2_with fail
      go_ret
      exact ⟨rfl, kb⟩
    · skip
      go_wp2_with fail
      refine cF.out.mono ?_
      rintro e w1 ⟨p, g, rfl, hp0, hg0, kf, kb1⟩
      clear cF
      have hp : W.heap.size ≤ p := Nat.le_trans kb0.size hp0
      have hg : W.heap.size ≤ g := Nat.le_trans kb0.size hg0
      have kb := bel kb0 kb1
      clear kb0 kb1 hp0 hg0
      have cO := Lib.hid (show Calls Tryz.prog 13 #[.pointer (some ⟨p, 0, none⟩), .agg (bytn 32 0).toArray, .agg (bytn 32 0).toArray, .int .i64 5] w1 _ from onew_any (some ⟨p, 0, none⟩) 0 0 5 (by decide) (by decide) w1)
      go_wp2_with (refine wpList_builta rfl _ _ rfl (bytn 32 0).toArray (by kernel_rfl) ?_)
      refine cO.out.mono ?_
      rintro e w2 ⟨q, rfl, hq, ko, hb⟩
      have hl := kf.lt
      have hqw : W.heap.size ≤ q := by have := kb.size; omega
      have hqp : q ≠ p := by omega
      have hqg : q ≠ g := by omega
      replace kf := kf.below hb
      replace kb := bel kb hb
      clear hb cO hl hq
      have cP := Lib.hid (fplan_now p g (Fl.new m) w2 kf)
      go_wp2_with fail
      refine cP.out.mono ?_
      rintro e w3 ⟨rfl, kf, hch⟩
      clear cP
      replace kb := Ch.to_below kb hch (fun k hk => by simp only [List.mem_cons, List.not_mem_nil, or_false] at hk; omega) kb.size
      clear hch
      have cT := Lib.hid (fturn_stop p g _ w3 kf rfl rfl rfl)
      clear kf
      go_wp2_with fail
      refine cT.out.mono ?_
      rintro e w4 ⟨rfl, kf, hch⟩
      clear cT
      replace kb := Ch.to_below kb hch (fun k hk => by simp only [List.mem_cons, List.not_mem_nil, or_false] at hk; omega) kb.size
      clear hch
      have cD := Lib.hid (dopen_small p q g _ w4 kf (by show (Fl.new m).b.length / 256 < 128; rw [fl_len]; omega))
      clear ko kf hqp hqg hp hg hqw
      go_wp2_with fail
      refine cD.out.mono ?_
      rintro e w5 ⟨rfl, hw⟩
      obtain rfl : w4 = w5 := hw.symm
      clear cD
      go_wp2_with fail
      refine (dopen_nilf q _).mono ?_
      rintro e wn ⟨rfl, hw⟩
      subst hw
      go_wp2_with fail
      refine (dopen_nilo p _).mono ?_
      rintro e wn ⟨rfl, hw⟩
      subst hw
      go_wp2_with fail
      refine (num27 1 _).mono ?_
      rintro e wn ⟨rfl, hw⟩
      subst hw
      go_wp2_with fail
      refine (num27 1 _).mono ?_
      rintro e wn ⟨rfl, hw⟩
      subst hw
      go_wp2_with fail
      refine (num27 1 _).mono ?_
      rintro e wn ⟨rfl, hw⟩
      subst hw
      go_wp2_with fail
      go_ret
      exact ⟨rfl, kb⟩
  · have hs' : (128 : Int) ≤ m := by omega
    have hm1 : 128 ≤ m := by omega
    cases b
    · skip
      go_wp2_with fail
      refine cF.out.mono ?_
      rintro e w1 ⟨p, g, rfl, hp0, hg0, kf, kb1⟩
      clear cF
      have hp : W.heap.size ≤ p := Nat.le_trans kb0.size hp0
      have hg : W.heap.size ≤ g := Nat.le_trans kb0.size hg0
      have kb := bel kb0 kb1
      clear kb0 kb1 hp0 hg0
      have cO := Lib.hid (show Calls Tryz.prog 13 #[.pointer (some ⟨p, 0, none⟩), .agg (bytn 32 0).toArray, .agg (bytn 32 0).toArray, .int .i64 5] w1 _ from onew_any (some ⟨p, 0, none⟩) 0 0 5 (by decide) (by decide) w1)
      go_wp2_with (refine wpList_builta rfl _ _ rfl (bytn 32 0).toArray (by kernel_rfl) ?_)
      refine cO.out.mono ?_
      rintro e w2 ⟨q, rfl, hq, ko, hb⟩
      have hl := kf.lt
      have hqw : W.heap.size ≤ q := by have := kb.size; omega
      have hqp : q ≠ p := by omega
      have hqg : q ≠ g := by omega
      replace kf := kf.below hb
      replace kb := bel kb hb
      clear hb cO hl hq
      have cD := Lib.hid (dopen_fresh p q g 0 0 5 (Fl.new m) w2 ko kf hqp hqg (by rw [fl_len]; omega) rfl rfl (by decide) (by decide) (unmarked_new m (by omega)))
      clear ko kf
      go_wp2_with fail
      refine cD.out.mono ?_
      rintro e w3 ⟨d, c, k, F', rfl, -, -, -, -, -, -, -, -, -, -, hch⟩
      replace kb := Ch.to_below kb hch (fun k hk => by simp only [List.mem_cons, List.not_mem_nil, or_false] at hk; omega) kb.size
      clear cD hch hqp hqg hp hg hqw
      go_wp2_with fail
      refine (dopen_nilf q _).mono ?_
      rintro e wn ⟨rfl, hw⟩
      subst hw
      go_wp2_with fail
      refine (dopen_nilo p _).mono ?_
      rintro e wn ⟨rfl, hw⟩
      subst hw
      go_wp2_with fail
      refine (num27 1 _).mono ?_
      rintro e wn ⟨rfl, hw⟩
      subst hw
      go_wp2_with fail
      refine (num27 1 _).mono ?_
      rintro e wn ⟨rfl, hw⟩
      subst hw
      go_wp2_with fail
      refine (num27 0 _).mono ?_
      rintro e wn ⟨rfl, hw⟩
      subst hw
      go_wp2_with fail
      go_ret
      exact ⟨rfl, kb⟩
    · skip
      go_wp2_with fail
      refine cF.out.mono ?_
      rintro e w1 ⟨p, g, rfl, hp0, hg0, kf, kb1⟩
      clear cF
      have hp : W.heap.size ≤ p := Nat.le_trans kb0.size hp0
      have hg : W.heap.size ≤ g := Nat.le_trans kb0.size hg0
      have kb := bel kb0 kb1
      clear kb0 kb1 hp0 hg0
      have cO := Lib.hid (show Calls Tryz.prog 13 #[.pointer (some ⟨p, 0, none⟩), .agg (bytn 32 0).toArray, .agg (bytn 32 0).toArray, .int .i64 5] w1 _ from onew_any (some ⟨p, 0, none⟩) 0 0 5 (by decide) (by decide) w1)
      go_wp2_with (refine wpList_builta rfl _ _ rfl (bytn 32 0).toArray (by kernel_rfl) ?_)
      refine cO.out.mono ?_
      rintro e w2 ⟨q, rfl, hq, ko, hb⟩
      have hl := kf.lt
      have hqw : W.heap.size ≤ q := by have := kb.size; omega
      have hqp : q ≠ p := by omega
      have hqg : q ≠ g := by omega
      replace kf := kf.below hb
      replace kb := bel kb hb
      clear hb cO hl hq
      have cP := Lib.hid (fplan_now p g (Fl.new m) w2 kf)
      go_wp2_with fail
      refine cP.out.mono ?_
      rintro e w3 ⟨rfl, kf, hch⟩
      clear cP
      replace kb := Ch.to_below kb hch (fun k hk => by simp only [List.mem_cons, List.not_mem_nil, or_false] at hk; omega) kb.size
      clear hch
      have cT := Lib.hid (fturn_stop p g _ w3 kf rfl rfl rfl)
      clear kf
      go_wp2_with fail
      refine cT.out.mono ?_
      rintro e w4 ⟨rfl, kf, hch⟩
      clear cT
      replace kb := Ch.to_below kb hch (fun k hk => by simp only [List.mem_cons, List.not_mem_nil, or_false] at hk; omega) kb.size
      clear hch
      have cD := Lib.hid (dopen_dead p q g _ w4 kf (by show 32768 ≤ (Fl.new m).b.length; rw [fl_len]; omega) rfl)
      clear ko kf hqp hqg hp hg hqw
      go_wp2_with fail
      refine cD.out.mono ?_
      rintro e w5 ⟨rfl, hw⟩
      obtain rfl : w4 = w5 := hw.symm
      clear cD
      go_wp2_with fail
      refine (dopen_nilf q _).mono ?_
      rintro e wn ⟨rfl, hw⟩
      subst hw
      go_wp2_with fail
      refine (dopen_nilo p _).mono ?_
      rintro e wn ⟨rfl, hw⟩
      subst hw
      go_wp2_with fail
      refine (num27 1 _).mono ?_
      rintro e wn ⟨rfl, hw⟩
      subst hw
      go_wp2_with fail
      refine (num27 1 _).mono ?_
      rintro e wn ⟨rfl, hw⟩
      subst hw
      go_wp2_with fail
      refine (num27 8 _).mono ?_
      rintro e wn ⟨rfl, hw⟩
      subst hw
      go_wp2_with fail
      go_ret
      exact ⟨rfl, kb⟩
end Go.Proofs.YtmlmggmnlgcbcaaGreat


namespace Go.Proofs.YtmlmggmnlgcbcaaGreat
set_option maxRecDepth 1000000 in
theorem head_signs : Tryz.prog.initOrder = String.ofList [Char.ofNat 104, Char.ofNat 97, Char.ofNat 114, Char.ofNat 110, Char.ofNat 101, Char.ofNat 115, Char.ofNat 115, Char.ofNat 32, Char.ofNat 99, Char.ofNat 53, Char.ofNat 49, Char.ofNat 100, Char.ofNat 48, Char.ofNat 54, Char.ofNat 102, Char.ofNat 98, Char.ofNat 97, Char.ofNat 99, Char.ofNat 101, Char.ofNat 57, Char.ofNat 56, Char.ofNat 98, Char.ofNat 102, Char.ofNat 97, Char.ofNat 100, Char.ofNat 99, Char.ofNat 50, Char.ofNat 56, Char.ofNat 50, Char.ofNat 49, Char.ofNat 55, Char.ofNat 97, Char.ofNat 51, Char.ofNat 52, Char.ofNat 101, Char.ofNat 54, Char.ofNat 49, Char.ofNat 54, Char.ofNat 51, Char.ofNat 57, Char.ofNat 53, Char.ofNat 55, Char.ofNat 49, Char.ofNat 53, Char.ofNat 55, Char.ofNat 99, Char.ofNat 102, Char.ofNat 98, Char.ofNat 101, Char.ofNat 51, Char.ofNat 100, Char.ofNat 53, Char.ofNat 48, Char.ofNat 56, Char.ofNat 57, Char.ofNat 48, Char.ofNat 101, Char.ofNat 99, Char.ofNat 51, Char.ofNat 48, Char.ofNat 97, Char.ofNat 51, Char.ofNat 56, Char.ofNat 53, Char.ofNat 56, Char.ofNat 99, Char.ofNat 53, Char.ofNat 97, Char.ofNat 56, Char.ofNat 100, Char.ofNat 57, Char.ofNat 49, Char.ofNat 32, Char.ofNat 99, Char.ofNat 117, Char.ofNat 116, Char.ofNat 32, Char.ofNat 97, Char.ofNat 116, Char.ofNat 32, Char.ofNat 112, Char.ofNat 111, Char.ofNat 114, Char.ofNat 116, Char.ofNat 99, Char.ofNat 117, Char.ofNat 108, Char.ofNat 108, Char.ofNat 105, Char.ofNat 115, Char.ofNat 47, Char.ofNat 112, Char.ofNat 111, Char.ofNat 114, Char.ofNat 116, Char.ofNat 99, Char.ofNat 117, Char.ofNat 108, Char.ofNat 108, Char.ofNat 105, Char.ofNat 115, Char.ofNat 116, Char.ofNat 111, Char.ofNat 112, Char.ofNat 46, Char.ofNat 84, Char.ofNat 111, Char.ofNat 112, Char.ofNat 83, Char.ofNat 101, Char.ofNat 99, Char.ofNat 114, Char.ofNat 101, Char.ofNat 116, Char.ofNat 32, Char.ofNat 112, Char.ofNat 111, Char.ofNat 114, Char.ofNat 116, Char.ofNat 99, Char.ofNat 117, Char.ofNat 108, Char.ofNat 108, Char.ofNat 105, Char.ofNat 115, Char.ofNat 47, Char.ofNat 112, Char.ofNat 111, Char.ofNat 114, Char.ofNat 116, Char.ofNat 99, Char.ofNat 117, Char.ofNat 108, Char.ofNat 108, Char.ofNat 105, Char.ofNat 115, Char.ofNat 108, Char.ofNat 97, Char.ofNat 119, Char.ofNat 50, Char.ofNat 55, Char.ofNat 46, Char.ofNat 68, Char.ofNat 101, Char.ofNat 118, Char.ofNat 105, Char.ofNat 99, Char.ofNat 101, Char.ofNat 78, Char.ofNat 111, Char.ofNat 110, Char.ofNat 101] := by kernel_rfl
set_option maxRecDepth 1000000 in
theorem head_list : Tryz.prog.initOrder.toList = [Char.ofNat 104, Char.ofNat 97, Char.ofNat 114, Char.ofNat 110, Char.ofNat 101, Char.ofNat 115, Char.ofNat 115, Char.ofNat 32, Char.ofNat 99, Char.ofNat 53, Char.ofNat 49, Char.ofNat 100, Char.ofNat 48, Char.ofNat 54, Char.ofNat 102, Char.ofNat 98, Char.ofNat 97, Char.ofNat 99, Char.ofNat 101, Char.ofNat 57, Char.ofNat 56, Char.ofNat 98, Char.ofNat 102, Char.ofNat 97, Char.ofNat 100, Char.ofNat 99, Char.ofNat 50, Char.ofNat 56, Char.ofNat 50, Char.ofNat 49, Char.ofNat 55, Char.ofNat 97, Char.ofNat 51, Char.ofNat 52, Char.ofNat 101, Char.ofNat 54, Char.ofNat 49, Char.ofNat 54, Char.ofNat 51, Char.ofNat 57, Char.ofNat 53, Char.ofNat 55, Char.ofNat 49, Char.ofNat 53, Char.ofNat 55, Char.ofNat 99, Char.ofNat 102, Char.ofNat 98, Char.ofNat 101, Char.ofNat 51, Char.ofNat 100, Char.ofNat 53, Char.ofNat 48, Char.ofNat 56, Char.ofNat 57, Char.ofNat 48, Char.ofNat 101, Char.ofNat 99, Char.ofNat 51, Char.ofNat 48, Char.ofNat 97, Char.ofNat 51, Char.ofNat 56, Char.ofNat 53, Char.ofNat 56, Char.ofNat 99, Char.ofNat 53, Char.ofNat 97, Char.ofNat 56, Char.ofNat 100, Char.ofNat 57, Char.ofNat 49, Char.ofNat 32, Char.ofNat 99, Char.ofNat 117, Char.ofNat 116, Char.ofNat 32, Char.ofNat 97, Char.ofNat 116, Char.ofNat 32, Char.ofNat 112, Char.ofNat 111, Char.ofNat 114, Char.ofNat 116, Char.ofNat 99, Char.ofNat 117, Char.ofNat 108, Char.ofNat 108, Char.ofNat 105, Char.ofNat 115, Char.ofNat 47, Char.ofNat 112, Char.ofNat 111, Char.ofNat 114, Char.ofNat 116, Char.ofNat 99, Char.ofNat 117, Char.ofNat 108, Char.ofNat 108, Char.ofNat 105, Char.ofNat 115, Char.ofNat 116, Char.ofNat 111, Char.ofNat 112, Char.ofNat 46, Char.ofNat 84, Char.ofNat 111, Char.ofNat 112, Char.ofNat 83, Char.ofNat 101, Char.ofNat 99, Char.ofNat 114, Char.ofNat 101, Char.ofNat 116, Char.ofNat 32, Char.ofNat 112, Char.ofNat 111, Char.ofNat 114, Char.ofNat 116, Char.ofNat 99, Char.ofNat 117, Char.ofNat 108, Char.ofNat 108, Char.ofNat 105, Char.ofNat 115, Char.ofNat 47, Char.ofNat 112, Char.ofNat 111, Char.ofNat 114, Char.ofNat 116, Char.ofNat 99, Char.ofNat 117, Char.ofNat 108, Char.ofNat 108, Char.ofNat 105, Char.ofNat 115, Char.ofNat 108, Char.ofNat 97, Char.ofNat 119, Char.ofNat 50, Char.ofNat 55, Char.ofNat 46, Char.ofNat 68, Char.ofNat 101, Char.ofNat 118, Char.ofNat 105, Char.ofNat 99, Char.ofNat 101, Char.ofNat 78, Char.ofNat 111, Char.ofNat 110, Char.ofNat 101] := by rw [head_signs, String.toList_ofList]
set_option maxRecDepth 1000000 in
theorem head_first : ((behindMainWord (wordsSigns [Char.ofNat 104, Char.ofNat 97, Char.ofNat 114, Char.ofNat 110, Char.ofNat 101, Char.ofNat 115, Char.ofNat 115, Char.ofNat 32, Char.ofNat 99, Char.ofNat 53, Char.ofNat 49, Char.ofNat 100, Char.ofNat 48, Char.ofNat 54, Char.ofNat 102, Char.ofNat 98, Char.ofNat 97, Char.ofNat 99, Char.ofNat 101, Char.ofNat 57, Char.ofNat 56, Char.ofNat 98, Char.ofNat 102, Char.ofNat 97, Char.ofNat 100, Char.ofNat 99, Char.ofNat 50, Char.ofNat 56, Char.ofNat 50, Char.ofNat 49, Char.ofNat 55, Char.ofNat 97, Char.ofNat 51, Char.ofNat 52, Char.ofNat 101, Char.ofNat 54, Char.ofNat 49, Char.ofNat 54, Char.ofNat 51, Char.ofNat 57, Char.ofNat 53, Char.ofNat 55, Char.ofNat 49, Char.ofNat 53, Char.ofNat 55, Char.ofNat 99, Char.ofNat 102, Char.ofNat 98, Char.ofNat 101, Char.ofNat 51, Char.ofNat 100, Char.ofNat 53, Char.ofNat 48, Char.ofNat 56, Char.ofNat 57, Char.ofNat 48, Char.ofNat 101, Char.ofNat 99, Char.ofNat 51, Char.ofNat 48, Char.ofNat 97, Char.ofNat 51, Char.ofNat 56, Char.ofNat 53, Char.ofNat 56, Char.ofNat 99, Char.ofNat 53, Char.ofNat 97, Char.ofNat 56, Char.ofNat 100, Char.ofNat 57, Char.ofNat 49, Char.ofNat 32, Char.ofNat 99, Char.ofNat 117, Char.ofNat 116, Char.ofNat 32, Char.ofNat 97, Char.ofNat 116, Char.ofNat 32, Char.ofNat 112, Char.ofNat 111, Char.ofNat 114, Char.ofNat 116, Char.ofNat 99, Char.ofNat 117, Char.ofNat 108, Char.ofNat 108, Char.ofNat 105, Char.ofNat 115, Char.ofNat 47, Char.ofNat 112, Char.ofNat 111, Char.ofNat 114, Char.ofNat 116, Char.ofNat 99, Char.ofNat 117, Char.ofNat 108, Char.ofNat 108, Char.ofNat 105, Char.ofNat 115, Char.ofNat 116, Char.ofNat 111, Char.ofNat 112, Char.ofNat 46, Char.ofNat 84, Char.ofNat 111, Char.ofNat 112, Char.ofNat 83, Char.ofNat 101, Char.ofNat 99, Char.ofNat 114, Char.ofNat 101, Char.ofNat 116, Char.ofNat 32, Char.ofNat 112, Char.ofNat 111, Char.ofNat 114, Char.ofNat 116, Char.ofNat 99, Char.ofNat 117, Char.ofNat 108, Char.ofNat 108, Char.ofNat 105, Char.ofNat 115, Char.ofNat 47, Char.ofNat 112, Char.ofNat 111, Char.ofNat 114, Char.ofNat 116, Char.ofNat 99, Char.ofNat 117, Char.ofNat 108, Char.ofNat 108, Char.ofNat 105, Char.ofNat 115, Char.ofNat 108, Char.ofNat 97, Char.ofNat 119, Char.ofNat 50, Char.ofNat 55, Char.ofNat 46, Char.ofNat 68, Char.ofNat 101, Char.ofNat 118, Char.ofNat 105, Char.ofNat 99, Char.ofNat 101, Char.ofNat 78, Char.ofNat 111, Char.ofNat 110, Char.ofNat 101])).head? == some "cut".toList) = true := by kernel_rfl
theorem head_cut : ∃ r, behindMainWord (wordsSigns Tryz.prog.initOrder.toList) = "cut".toList :: r := by
  rw [head_list]
  exact List.head?_eq_some_iff.1 (eq_of_beq head_first)
theorem head_strip (r : List (List Char)) : stripLifts liftWords ("cut".toList :: r) = ([], "cut".toList :: r) := by kernel_rfl
theorem head_later : Tryz.prog.laysLater = false := by kernel_rfl
theorem head_reflect : Tryz.prog.bearsReflect = false := by kernel_rfl
theorem head_door : Tryz.prog.doorFits [] = true := by kernel_rfl
theorem enter_of (P : Program) (r : List (List Char)) (h : behindMainWord (wordsSigns P.initOrder.toList) = "cut".toList :: r) (h1 : P.laysLater = false) (h2 : P.bearsReflect = false) (h3 : P.doorFits [] = true) : P.mayEnter = true := by
  unfold Program.mayEnter
  rw [h]
  simp only [head_strip, h1, h2, h3]
  simp
theorem none_of (P : Program) (r : List (List Char)) (h : behindMainWord (wordsSigns P.initOrder.toList) = "cut".toList :: r) : P.headLifts = [] := by
  unfold Program.headLifts
  rw [h]
  simp only [head_strip]
  simp
theorem lifts_of (P : Program) (r : List (List Char)) (h : behindMainWord (wordsSigns P.initOrder.toList) = "cut".toList :: r) : P.liftsFinal = false := by
  unfold Program.liftsFinal
  rw [h, none_of P r h]
  simp
theorem make_of (P : Program) (r : List (List Char)) (h : behindMainWord (wordsSigns P.initOrder.toList) = "cut".toList :: r) : P.make = some .cut := by
  unfold Program.make
  rw [h]
  simp
theorem head_enter : Tryz.prog.mayEnter = true := by
  obtain ⟨r, h⟩ := head_cut
  exact enter_of _ r h head_later head_reflect head_door
theorem head_lifts : Tryz.prog.liftsFinal = false := by
  obtain ⟨r, h⟩ := head_cut
  exact lifts_of _ r h
theorem head_make : Tryz.prog.make = some .cut := by
  obtain ⟨r, h⟩ := head_cut
  exact make_of _ r h
end Go.Proofs.YtmlmggmnlgcbcaaGreat

