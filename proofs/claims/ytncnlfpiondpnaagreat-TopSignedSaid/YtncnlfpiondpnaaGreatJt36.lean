/- TopSigned: part 36 of its proof: lemmas and contracts, each with its conditions in its own statement; the last part holds the law itself. -/
import Derived.Test.YtncnlfpiondpnaaGreatJt35

set_option maxHeartbeats 4000000
set_option maxRecDepth 100000
namespace Go.Proofs.YtncnlfpiondpnaaGreat
open Go.RowKit
def mnZ : List Value := .int .i64 0 :: .int .i64 0 :: (bytn 32 0 ++ (.slice none 0 0 :: .int .i64 0 :: (bytn 32 0 ++ (bytn 64 0 ++ bytn 64 0))))
theorem mnZ_facts : mnZ.length = 196 ∧ (mnZ[1]? = some (.int .i64 0) ∧ mnZ[34]? = some (.slice none 0 0) ∧ mnZ[35]? = some (.int .i64 0)) ∧ (mnZ.set 1 (.int .i64 0) = mnZ ∧ mnZ.set 34 (.slice none 0 0) = mnZ ∧ mnZ.set 35 (.int .i64 0) = mnZ) ∧
 (putAt 2 (bytn 32 0) mnZ = mnZ ∧ putAt 36 (bytn 32 0) mnZ = mnZ ∧ putAt 68 (bytn 64 0) mnZ = mnZ ∧ putAt 132 (bytn 64 0) mnZ = mnZ) :=
 ⟨by kernel_rfl, ⟨by kernel_rfl, by kernel_rfl, by kernel_rfl⟩, ⟨by kernel_rfl, by kernel_rfl, by kernel_rfl⟩, by kernel_rfl, by kernel_rfl, by kernel_rfl, by kernel_rfl⟩
theorem mnZ_one : ∀ v ∈ mnZ, v.oneCell' = true := by
 intro v hv
 simp only [mnZ, List.mem_cons, List.mem_append] at hv
 rcases hv with rfl | rfl | h | rfl | rfl | h | h | h <;> first | rfl | exact bytn_one _ _ _ h
theorem intS_bad : intS [] true = (0, [], true) := by decide +kernel
theorem Cur.keptE {w w' : World} {g k : Nat} {bad : Bool} (h : Cur w g [] bad) (hg : w.grownBy w' (some k)) (hk : k ≠ g) : Cur w' g [] bad := by
 have hlt := h.lt
 obtain ⟨v, h1, h2, h3, h4, h5⟩ := h
 have hb := hg.block g hlt (by simp only [ne_eq, Option.some.injEq]; exact fun e => hk e.symm)
 refine ⟨v, by rw [World.cell?_of_block (a := ⟨g, 0, none⟩) hb]; exact h1, by rw [World.cell?_of_block (a := ⟨g, 1, none⟩) hb]; exact h2, by rw [World.frozen?_of_block (a := ⟨g, 0, none⟩) hb]; exact h3, by rw [World.frozen?_of_block (a := ⟨g, 1, none⟩) hb]; exact h4, ?_⟩
 rcases h5 with h | ⟨b, o, cap, rfl, q1, q2, q3, q4, q5⟩
 · exact .inl h
 · exact .inr ⟨b, o, cap, rfl, q1, q2, q3, Nat.lt_of_lt_of_le q4 hg.size, fun j u hu => by simp [u8s] at hu⟩
theorem int_bad (g : Nat) (w : World) (hc : Cur w g [] true) : Calls Tryz.prog 134 #[.pointer (some ⟨g, 0, none⟩)] w fun e w' => e = .returned (.int .i64 0) ∧ w.grownBy w' (some g) ∧ Cur w' g [] true := by
 have h := int_any g [] true w hc zDc
 rw [intS_bad] at h
 exact h
theorem mread_short (vb : Value) (bs : List UInt8) (hb3 : bs.length ≤ 3) (w : World) (hs : Sl w vb (u8s bs)) :
 Calls Tryz.prog 139 #[vb] w fun e w' => e = .returned (.tuple #[.agg mnZ.toArray, .int .i64 4]) ∧ Below w.heap.size w w' := by
 have hone := zH mnZ_one
 have hZ0 : mnZ = mnZ := rfl
 obtain ⟨hlen, ⟨x1, x34, x35⟩, ⟨s1, s34, s35⟩, p2, p36, p68, p132⟩ := mnZ_facts
 obtain ⟨X, hX⟩ : ∃ X, mnZ = X := ⟨_, rfl⟩
 rw [hX] at hlen x1 x34 x35 s1 s34 s35 p2 p36 p68 p132 hone ⊢
 clear hZ0
 replace hX := zH hX
 replace hlen := zH hlen
 replace x1 := zH x1
 replace x34 := zH x34
 replace x35 := zH x35
 replace s1 := zH s1
 replace s34 := zH s34
 replace s35 := zH s35
 replace p2 := zH p2
 replace p36 := zH p36
 replace p68 := zH p68
 replace p132 := zH p132
 have cN := zH (fun w' (hb : Below w.heap.size w w') => packNew_any vb bs w' (hs.below hb) zOm)
 replace hb3 := zH hb3
 clear hs
 go_enter Tryz.func139, Tryz.ntmps139
 go_upto_region 1 with fail
 refine wp_new1 (fun W hsz k2 kb => ?_)
 replace k2 : Arr W w.heap.size X := (congrArg (Arr W w.heap.size) ((by kernel_rfl : _ = mnZ).trans hX.out)).mp k2
 obtain ⟨g2, hg2⟩ : ∃ g, w.heap.size = g := ⟨_, rfl⟩
 rw [hg2] at k2 ⊢
 have hw2 : w.heap.size ≤ g2 := by omega
 clear hsz hg2
 go_wp2_with fail
 refine (cN.out _ kb).mono ?_
 rintro e w1 ⟨gc, rfl, hgc, kc, hb⟩
 have h2c := k2.lt
 have h2gc : g2 < gc := by omega
 replace k2 := k2.below hb
 replace kb := bel kb hb
 have cW := zH (raw_no gc bs 4 w1 kc (.inr (by have := hb3.out; omega)))
 clear hb hgc cN h2c kc
 go_wp2_with fail
 refine cW.out.mono ?_
 rintro e w2 ⟨rfl, hg, kc⟩
 replace k2 := k2.kept hg zOm
 replace kb := below_gr kb hg zOm kb.size
 clear cW hg
 have hst : (convert 22 9 (.slice none 0 0)).run Tryz.prog w2 = .ok (.string ⟨#[]⟩) w2 := strBk (bs := []) (Sl.nil _)
 have cI := zH (int_bad gc _ kc)
 clear kc
 go_wp2_with fail
 refine cI.out.mono ?_
 rintro e w3 ⟨rfl, hg, kc⟩
 replace k2 := k2.kept hg zOm
 replace kb := below_gr kb hg zOm kb.size
 clear cI hg
 clear hst
 go_upto_region 4 with (first | (refine wpList_builta rfl _ _ rfl mnZ.toArray zKr ?_; rw [hX.out]) | (refine wpl_storeG rfl _ _ _ rfl _ X rfl rfl _ (Arr.new _ _ _) (by rw [hlen.out]; kernel_rfl) (by rw [hlen.out]; kernel_rfl) hone.out (fun w4 k6 hg hsz => ?_)))
 have hb := below_fresh hg
 have hc3 := kc.lt
 replace k2 := k2.below hb
 replace kc := kc.below hb
 replace kb := bel kb hb
 obtain ⟨g6, hg6⟩ : ∃ g, w3.heap.size = g := ⟨_, rfl⟩
 rw [hg6] at k6 hc3 ⊢
 have hw6 : w.heap.size ≤ g6 := by omega
 clear hb hsz hg hg6
 have cI := zH (int_bad gc _ kc)
 clear kc
 go_wp2_with fail
 refine cI.out.mono ?_
 rintro e w5 ⟨rfl, hg, kc⟩
 replace k2 := k2.kept hg zOm
 replace k6 := k6.kept hg zOm
 replace kb := below_gr kb hg zOm kb.size
 clear cI hg
 have q1 := k6.cell x1.out
 have q2 := k6.frozen 1
 go_upto_region 5 with fail
 clear q1 q2
 refine code_cellG k6 (fun w6 k6 hg hsz => ?_)
 replace k2 := k2.kept hg zOm
 replace kb := below_gr kb hg zOm kb.size
 replace kc := Cur.keptE kc hg zOm
 clear hg hsz
 rw [s1.out] at k6
 have cS := zH (mnum_bad gc _ kc)
 go_wp2_with fail
 refine cS.out.mono ?_
 rintro e w7 ⟨rfl, hb⟩
 replace k2 := k2.below hb
 replace k6 := k6.below hb
 replace kc := kc.below hb
 replace kb := bel kb hb
 clear hb cS
 go_upto_region 6 with (refine wpl_storeMG rfl _ _ _ rfl g6 2 (bytn 32 0) rfl rfl _ k6 (by rw [bytn_len]; kernel_rfl) (by rw [bytn_len, hlen.out]; decide) (bytn_one _ _) (fun w8 k6 hg => ?_))
 rw [p2.out] at k6
 replace k2 := k2.kept hg zOm
 replace kb := below_gr kb hg zOm kb.size
 replace kc := Cur.keptE kc hg zOm
 clear hg
 have cW := zH (raw_bad gc [] 80 _ kc)
 go_wp2_with fail
 refine cW.out.mono ?_
 rintro e wR ⟨rfl, hw⟩
 subst hw
 clear cW
 have q1 := k6.cell x34.out
 have q2 := k6.frozen 34
 go_upto_region 7 with fail
 clear q1 q2
 refine code_cellG k6 (fun w10 k6 hg hsz => ?_)
 replace k2 := k2.kept hg zOm
 replace kb := below_gr kb hg zOm kb.size
 replace kc := Cur.keptE kc hg zOm
 clear hg hsz
 rw [s34.out] at k6
 have cI := zH (int_bad gc _ kc)
 clear kc
 go_wp2_with fail
 refine cI.out.mono ?_
 rintro e w11 ⟨rfl, hg, kc⟩
 replace k2 := k2.kept hg zOm
 replace k6 := k6.kept hg zOm
 replace kb := below_gr kb hg zOm kb.size
 clear cI hg
 have q1 := k6.cell x35.out
 have q2 := k6.frozen 35
 go_upto_region 8 with fail
 clear q1 q2
 refine code_cellG k6 (fun w12 k6 hg hsz => ?_)
 replace k2 := k2.kept hg zOm
 replace kb := below_gr kb hg zOm kb.size
 replace kc := Cur.keptE kc hg zOm
 clear hg hsz
 rw [s35.out] at k6
 have cS := zH (mnum_bad gc _ kc)
 go_wp2_with fail
 refine cS.out.mono ?_
 rintro e wS ⟨rfl, hb⟩
 replace k2 := k2.below hb
 replace k6 := k6.below hb
 replace kc := kc.below hb
 replace kb := bel kb hb
 clear hb cS
 go_upto_region 9 with (refine wpl_storeMG rfl _ _ _ rfl g6 36 (bytn 32 0) rfl rfl _ k6 (by rw [bytn_len]; kernel_rfl) (by rw [bytn_len, hlen.out]; decide) (bytn_one _ _) (fun w8 k6 hg => ?_))
 rw [p36.out] at k6
 replace k2 := k2.kept hg zOm
 replace kb := below_gr kb hg zOm kb.size
 replace kc := Cur.keptE kc hg zOm
 clear hg
 have cS := zH (msig_bad gc _ kc)
 go_wp2_with fail
 refine cS.out.mono ?_
 rintro e wS ⟨rfl, hb⟩
 replace k2 := k2.below hb
 replace k6 := k6.below hb
 replace kc := kc.below hb
 replace kb := bel kb hb
 clear hb cS
 go_upto_region 10 with (refine wpl_storeMG rfl _ _ _ rfl g6 68 (bytn 64 0) rfl rfl _ k6 (by rw [bytn_len]; kernel_rfl) (by rw [bytn_len, hlen.out]; decide) (bytn_one _ _) (fun w8 k6 hg => ?_))
 rw [p68.out] at k6
 replace k2 := k2.kept hg zOm
 replace kb := below_gr kb hg zOm kb.size
 replace kc := Cur.keptE kc hg zOm
 clear hg
 have cS := zH (msig_bad gc _ kc)
 go_wp2_with fail
 refine cS.out.mono ?_
 rintro e wS ⟨rfl, hb⟩
 replace k2 := k2.below hb
 replace k6 := k6.below hb
 replace kc := kc.below hb
 replace kb := bel kb hb
 clear hb cS
 go_upto_region 11 with (refine wpl_storeMG rfl _ _ _ rfl g6 132 (bytn 64 0) rfl rfl _ k6 (by rw [bytn_len]; kernel_rfl) (by rw [bytn_len, hlen.out]; decide) (bytn_one _ _) (fun w8 k6 hg => ?_))
 replace k2 := k2.kept hg zOm
 replace kb := below_gr kb hg zOm kb.size
 replace kc := Cur.keptE kc hg zOm
 clear hg k6
 have cE := end_any gc [] true _ kc
 rw [show endS [] true = false from rfl] at cE
 replace cE := zH cE
 go_wp2_with fail
 refine cE.out.mono ?_
 rintro e wE ⟨rfl, hw⟩
 subst hw
 clear cE kc
 go_wp2_with (first | (refine wpList_builta rfl _ _ rfl mnZ.toArray zKr ?_; rw [hX.out]) | (refine wpl_storeG rfl _ _ _ rfl _ X rfl rfl _ k2 (by rw [hlen.out]; kernel_rfl) (by rw [hlen.out]) hone.out (fun w9 k2 hg hsz => ?_)))
 have qb := below_gr kb hg hw2 kb.size
 exact bodyPost_ret (results_arr_tmp Tryz.results139 _ _ g2 _ rfl Tryz.underlying38 rfl X k2 (by rw [hlen.out]; kernel_rfl) _ rfl) rfl ⟨rfl, qb⟩
def stZ : List Value := [.int .i64 0, .slice none 0 0, .slice none 0 0, .bool false, .int .i64 0, .slice none 0 0, .bool false, .int .i64 0, .int .i64 (-1)]
theorem stZ_eq : newS.cs nilSv = stZ := rfl
def kpV (k : Nat) : Value := .iface 113 (.pointer (some ⟨k, 0, none⟩))
def coZ (k r s : Nat) (bt : Int) : List Value := kpV k :: (bytn 32 r ++ (bytn 32 s ++ (stZ ++ (.int .i64 bt :: bytn 32 0))))
theorem coZ_st {k r s : Nat} {bt : Int} {j : Nat} (hj : j < 9) : (coZ k r s bt)[65 + j]? = stZ[j]? := by
 rw [coZ, show 65 + j = (64 + j) + 1 by omega, List.getElem?_cons_succ, List.getElem?_append_right (by rw [bytn_len]; omega), bytn_len, List.getElem?_append_right (by rw [bytn_len]; omega), bytn_len, show 64 + j - 32 - 32 = j by omega, List.getElem?_append_left (by simp [stZ]; omega)]
theorem coZ_bt (k r s : Nat) (bt : Int) : (coZ k r s bt)[74]? = some (.int .i64 bt) := by
 rw [coZ, show (74 : Nat) = 73 + 1 from rfl, List.getElem?_cons_succ, List.getElem?_append_right (by rw [bytn_len]; omega), bytn_len, List.getElem?_append_right (by rw [bytn_len]; omega), bytn_len, List.getElem?_append_right (by simp [stZ])]
 rfl
theorem coZ_set (k r s : Nat) (bt b2 : Int) : (coZ k r s bt).set 74 (.int .i64 b2) = coZ k r s b2 := by
 rw [coZ, coZ, show (74 : Nat) = 73 + 1 from rfl, List.set_cons_succ, List.set_append_right _ _ (by rw [bytn_len]; omega), bytn_len, List.set_append_right _ _ (by rw [bytn_len]; omega), bytn_len, List.set_append_right _ _ (by simp [stZ])]
 rfl
theorem cnew_any (k r s : Nat) (w : World) :
 Calls Tryz.prog 49 #[kpV k, .agg (bytn 32 r).toArray, .agg (bytn 32 s).toArray, .agg stZ.toArray] w fun e w' => ∃ c, e = .returned (.pointer (some ⟨c, 0, none⟩)) ∧ w.heap.size ≤ c ∧ Arr w' c (coZ k r s (-1)) ∧ Below w.heap.size w w' := by
 obtain ⟨X, hX⟩ : ∃ X, coZ k r s (-1) = X := ⟨_, rfl⟩
 rw [hX]
 replace hX := zH hX
 go_enter Tryz.func49, Tryz.ntmps49
 go_upto_region 1 with fail
 refine wp_new3 (fun W hsz k5 k6 k7 kb => ?_)
 replace k5 : Arr W w.heap.size (bytn 32 r) := k5
 replace k6 : Arr W (w.heap.size + 1) (bytn 32 s) := k6
 replace k7 : Arr W (w.heap.size + 1 + 1) stZ := k7
 clear hsz
 go_wp2_with (first | (refine wpList_load_arr2 rfl _ _ rfl _ rfl zDk _ k5 (by rw [bytn_len]; kernel_rfl) ?_) | (refine wpList_load_arr2 rfl _ _ rfl _ rfl zDk _ k6 (by rw [bytn_len]; kernel_rfl) ?_) | (refine wpList_load_arr2 rfl _ _ rfl _ rfl zDk _ k7 zKr ?_) | (refine wpList_builta rfl _ _ rfl (coZ k r s (-1)).toArray zKr ?_; rw [hX.out]))
 go_ret
 exact ⟨_, rfl, kb.size, Arr.new _ _ _, bel kb (below_alloc _ _)⟩
theorem may_none (c k r s i : Nat) (bt : Int) (hi : i < 2) (w : World) (k0 : Arr w c (coZ k r s bt)) :
 Calls Tryz.prog 151 #[.pointer (some ⟨c, 0, none⟩), .int .i64 (i : Int)] w fun e w' => e = .returned (.bool false) ∧ Below w.heap.size w w' := by
 have hone := zH mnZ_one
 have hlen := zH mnZ_facts.1
 have cR := zH (mread_short (.slice none 0 0) [] zDc w (Sl.nil _))
 obtain ⟨X, hX⟩ : ∃ X, mnZ = X := ⟨_, rfl⟩
 rw [hX] at hone hlen cR
 have h2 := k0.cell (coZ_st (j := 2) zDc)
 have h5 := k0.cell (coZ_st (j := 5) zDc)
 have i0 : (0 : Int) ≤ (i : Int) := by omega
 have i1 : (i : Int) < 2 := by omega
 clear hX
 have hcel : w.cell? ⟨c, 67 + i * 3, none⟩ = some (.slice none 0 0) := by
  have : i = 0 ∨ i = 1 := by omega
  rcases this with rfl | rfl
  · exact h2
  · exact h5
 clear h2 h5 k0
 have kb := Below.refl w.heap.size w
 go_enter Tryz.func151, Tryz.ntmps151
 go_wp2_with fail
 refine cR.out.mono ?_
 rintro e w1 ⟨rfl, hb⟩
 replace kb := bel kb hb
 clear hb cR hcel i0 i1
 go_upto_region 2 with (refine wpl_storeG rfl _ _ _ rfl _ X rfl rfl _ (Arr.new _ _ _) (by rw [hlen.out]; kernel_rfl) (by rw [hlen.out]; kernel_rfl) hone.out (fun w4 k6 hg hsz => ?_))
 replace kb := bel kb (below_fresh hg)
 clear hg hsz k6 hlen hone
 refine Tx.start (fun w' => Below (w4).heap.size (w4) w') 9999 21 rfl zKr ?_
 have hS_1 : Below (w4).heap.size (w4) (World.drew w4) := (Below.refl _ _).drew
 refine Tx.seg (A := ?_) 14 127 zKr (by exact hS_1) [0, 1, 2, 3, 4, 5, 6] zKr ?_ ?_
 rotate_left
 · intro w' hB
   exact zRd
 refine Tx.eff 7 255 rfl zDk (fun K hK => ?_)
 go_simp
 refine hK (fun w' => Below (w4).heap.size (w4) w') _ _ hS_1 (fun _ h => h) ?_
 clear hK K
 try simp only [Act.put, zSa, zSz, zSs]
 refine Tx.seg (A := ?_) 0 2097151 zKr (by exact hS_1) [8, 9, 10, 11, 12, 13, 14, 15, 16, 17, 18, 19, 20] zKr ?_ ?_
 rotate_left
 · intro w' hB
   exact zRd
 refine Tx.done zKr ?_
 have kb := bel kb hS_1
 go_wp2_with fail
 go_ret
 exact ⟨rfl, kb⟩
theorem coZ_range {c k r s : Nat} {bt : Int} {w : World} (k0 : Arr w c (coZ k r s bt)) : w.rangeAt c 65 stZ := k0.range (fun _ hj => coZ_st hj)
theorem pick_newS : pickS newS false false = (-1, false) := by
 unfold pickS newS
 split
 · rw [if_neg zDc, if_neg zDc, if_neg zDc]
 · rfl
theorem newS_ok (w : World) : StOk w newS nilSv := ⟨Sl.nil _, Sl.nil _, Sl.nil _⟩
theorem boot_fresh (c k r s : Nat) (bt : Int) (w : World) (k0 : Arr w c (coZ k r s bt)) :
 Calls Tryz.prog 102 #[.pointer (some ⟨c, 0, none⟩)] w fun e w' => e = .returned (.int .i64 18) ∧ Arr w' c (coZ k r s (-1)) ∧ Ch [c] w w' := by
 obtain ⟨X, hX⟩ : ∃ X, coZ k r s bt = X := ⟨_, rfl⟩
 have hXq : Hid (∀ j, j < stZ.length → X[65 + j]? = stZ[j]?) := zH (by rw [← hX]; exact fun _ hj => coZ_st hj)
 have hXs : Hid (X.set 74 (.int .i64 (-1)) = coZ k r s (-1)) := zH (by rw [← hX]; exact coZ_set _ _ _ _ _)
 have hXc : Hid (X[74]? = some (.int .i64 bt)) := zH (by rw [← hX]; exact coZ_bt _ _ _ _)
 have c0 := zH (show Calls Tryz.prog 151 #[.pointer (some ⟨c, 0, none⟩), .int .i64 0] w _ from may_none c k r s 0 bt zDc w k0)
 have c1 := zH (fun w' (hb : Below w.heap.size w w') => show Calls Tryz.prog 151 #[.pointer (some ⟨c, 0, none⟩), .int .i64 1] w' _ from may_none c k r s 1 bt zDc w' (k0.below hb))
 have cP := zH (fun w' => show Calls Tryz.prog 152 #[.agg stZ.toArray, .agg #[.bool false, .bool false]] w' fun e w'' => e = .returned (.tuple #[.int .i64 (-1), .bool false]) ∧ Below w'.heap.size w' w'' by
  have q := pick_any newS nilSv false false w' (newS_ok w')
  rw [pick_newS, stZ_eq] at q
  exact q)
 rw [hX] at k0
 clear hX
 have hlt := k0.lt
 have kb := Below.refl w.heap.size w
 go_enter Tryz.func102, Tryz.ntmps102
 go_wp2_with fail
 refine c0.out.mono ?_
 rintro e w1 ⟨rfl, hb⟩
 replace kb := bel kb hb
 clear hb c0
 go_wp2_with fail
 refine (c1.out _ kb).mono ?_
 rintro e w2 ⟨rfl, hb⟩
 replace kb := bel kb hb
 clear hb c1
 go_upto_region 2 with fail
 have k0 := k0.below kb
 have k1 : Arr (w2.alloc (.cells #[.bool false, .bool false] 234)) w2.heap.size [.bool false, .bool false] := Arr.new _ _ _
 have kb2 := below_alloc w2 (.cells #[.bool false, .bool false] 234)
 replace k0 := k0.below kb2
 replace kb := bel kb kb2
 have hsz := kb.size
 obtain ⟨W, hW⟩ : ∃ W, w2.alloc (.cells #[.bool false, .bool false] 234) = W := ⟨_, rfl⟩
 obtain ⟨g, hg⟩ : ∃ g, w2.heap.size = g := ⟨_, rfl⟩
 rw [hW] at k0 k1 kb ⊢
 rw [hg] at k1 ⊢
 clear kb2 hW hg hsz
 replace k1 := zH k1
 refine Tx.start (fun w' => Below (W).heap.size (W) w') 9999 11 rfl zKr ?_
 have hS_1 : Below (W).heap.size (W) (World.drew W) := (Below.refl _ _).drew
 refine Tx.seg (A := ?_) 6 31 zKr (by exact hS_1) [0, 1, 2, 3, 4] zKr ?_ ?_
 rotate_left
 · intro w' hB
   have yr := (k0.below hB).range (o := 65) (cs := stZ) (hXq.out)
   have y1 := k1.out.below hB
   exact zRm
 refine Tx.eff 5 63 rfl zDk (fun K hK => ?_)
 go_simp
 refine (cP.out _).mono ?_
 rintro e w_2 ⟨rfl, hb_2⟩
 have hS_2 := ext_trans hS_1 (Nat.le_refl _) hb_2
 refine hK (fun w' => Below (W).heap.size (W) w') _ _ hS_2 (fun _ h => h) ?_
 clear hK K hb_2 hS_1
 try simp only [Act.put, zSa, zSz, zSs]
 refine Tx.seg (A := ?_) 0 2047 zKr (by exact hS_2) [6, 7, 8, 9, 10] zKr ?_ ?_
 rotate_left
 · intro w' hB
   exact zRd
 refine Tx.done zKr ?_
 have k0 := k0.below hS_2
 have kb := bel kb hS_2
 clear hS_2
 have f74 := k0.frozen 74
 have x74 := k0.cell hXc.out
 go_upto_region 8 with fail
 refine code_cellG k0 (fun w7 k7 hg hsz => ?_)
 rw [hXs.out] at k7
 have hc := zH ((Ch.of_below (M := [c]) kb).trans (Ch.of_gr hg (by simp)))
 clear hg hsz kb f74 x74 hXs hXc hXq
 go_wp2_with fail
 go_ret
 exact ⟨rfl, k7, hc.out⟩
theorem ta_feed (v : Value) (w : World) : (Instr.typeAssert (.iface 181 v) 20 175 true).run Tryz.prog w = .ok (.tuple #[.slice none 0 0, .bool false]) w := by kernel_rfl
theorem ta_block (v : Value) (w : World) : (Instr.typeAssert (.iface 181 v) 20 177 true).run Tryz.prog w = .ok (.tuple #[.agg #[.int .i64 0, .slice none 0 0, .int .i64 0], .bool false]) w := by kernel_rfl
theorem ta_commit (v : Value) (w : World) : (Instr.typeAssert (.iface 181 v) 20 180 true).run Tryz.prog w = .ok (.tuple #[.agg #[], .bool false]) w := by kernel_rfl
theorem ta_boot (v : Value) (w : World) : (Instr.typeAssert (.iface 181 v) 20 181 true).run Tryz.prog w = .ok (.tuple #[v, .bool true]) w := by kernel_rfl
theorem move4 (bv : Value) (n : Int) (w : World) :
 Calls Tryz.prog 98 #[.agg #[.int .i64 4, bv, .int .i64 n]] w fun e w' => e = .returned (.iface 181 (.agg #[])) ∧ Below w.heap.size w w' := by
 go_enter Tryz.func98, Tryz.ntmps98
 go_wp2_with fail
 go_ret
 exact ⟨rfl, below_alloc _ _⟩
theorem do4 (c k r s : Nat) (bt : Int) (bv : Value) (n : Int) (w : World) (k0 : Arr w c (coZ k r s bt)) :
 Calls Tryz.prog 53 #[.pointer (some ⟨c, 0, none⟩), .agg #[.int .i64 4, bv, .int .i64 n]] w fun e w' => e = .returned (.tuple #[.slice none 0 0, .int .i64 18]) ∧ Arr w' c (coZ k r s (-1)) ∧ Ch [c] w w' := by
 have cM := zH (fun w' => move4 bv n w')
 have cB := zH (fun w' (hb : Below w.heap.size w w') => boot_fresh c k r s bt w' (k0.below hb))
 clear k0
 have f1 := ta_feed (.agg #[])
 have f2 := ta_block (.agg #[])
 have f3 := ta_commit (.agg #[])
 have f4 := ta_boot (.agg #[])
 go_enter Tryz.func53, Tryz.ntmps53
 go_upto_region 1 with fail
 have kb := below_alloc w (.cells #[.int .i64 4, bv, .int .i64 n] 56)
 have k1 : Arr (w.alloc (.cells #[.int .i64 4, bv, .int .i64 n] 56)) w.heap.size [.int .i64 4, bv, .int .i64 n] := Arr.new _ _ _
 obtain ⟨W, hW⟩ : ∃ W, w.alloc (.cells #[.int .i64 4, bv, .int .i64 n] 56) = W := ⟨_, rfl⟩
 obtain ⟨g, hg⟩ : ∃ g, w.heap.size = g := ⟨_, rfl⟩
 rw [hW] at kb k1 ⊢
 rw [hg] at k1 ⊢
 clear hW hg
 go_wp2_with (refine zLd ?_)
 refine (cM.out _).mono ?_
 rintro e w1 ⟨rfl, hb⟩
 replace kb := bel kb hb
 clear hb k1 cM
 go_wp2_with fail
 replace kb := bel kb (below_alloc w1 (.cells #[] 181))
 refine (cB.out _ kb).mono ?_
 rintro e w2 ⟨rfl, k2, hc⟩
 have hq := (Ch.of_below (M := [c]) kb).trans hc
 clear cB kb hc f1 f2 f3 f4
 replace hq := zH hq
 go_wp2_with fail
 go_ret2
 exact ⟨rfl, k2, hq.out⟩
def st0 : List Value := [.int .i64 0, .slice none 0 0, .slice none 0 0, .bool false, .int .i64 0, .slice none 0 0, .bool false, .int .i64 0, .int .i64 0]
theorem stZ_one : ∀ u ∈ stZ, u.oneCell' = true := by
 intro u hu
 simp only [stZ, List.mem_cons, List.not_mem_nil, or_false] at hu
 rcases hu with rfl | rfl | rfl | rfl | rfl | rfl | rfl | rfl | rfl <;> rfl
theorem snew_any (w : World) : Calls Tryz.prog 96 #[] w fun e w' => e = .returned (.agg stZ.toArray) ∧ Below w.heap.size w w' := by
 go_enter Tryz.func96, Tryz.ntmps96
 go_upto_region 1 with fail
 refine wp_new1 (fun W hsz k2 kb => ?_)
 replace k2 : Arr W w.heap.size st0 := k2
 clear hsz
 go_wp2_with (first | (refine wpList_builta rfl _ _ rfl stZ.toArray zKr ?_) | (refine wpl_storeG rfl _ _ _ rfl _ stZ rfl rfl _ k2 zKr (by rfl) stZ_one (fun w4 k6 hg hsz => ?_)))
 have kb := below_gr kb hg (Nat.le_refl _) kb.size
 exact bodyPost_ret ((results_arr2 Tryz.results96 _ _ _ rfl zKr _ (by first | assumption | exact Arr.setRow zAm _) zLn) ) rfl ⟨rfl, kb⟩
theorem dstate_nil (w : World) : Calls Tryz.prog 46 #[.slice none 0 0] w fun e w' => e = .returned (.tuple #[.agg stZ.toArray, .int .i64 0]) ∧ Below w.heap.size w w' := by
 have cN := zH (fun w => snew_any w)
 go_enter Tryz.func46, Tryz.ntmps46
 go_upto_region 1 with fail
 refine wp_new1 (fun W hsz k2 kb => ?_)
 replace k2 : Arr W w.heap.size st0 := k2
 clear hsz
 go_wp2_with fail
 refine (cN.out _).mono ?_
 rintro e w1 ⟨rfl, hb⟩
 replace k2 := k2.below hb
 replace kb := bel kb hb
 clear hb cN
 go_wp2_with (refine wpl_storeG rfl _ _ _ rfl _ stZ rfl rfl _ k2 zKr (by rfl) stZ_one (fun w4 k6 hg hsz => ?_))
 have kb := below_gr kb hg (Nat.le_refl _) kb.size
 exact bodyPost_ret (results_arr_tmp Tryz.results46 _ _ _ _ rfl Tryz.underlying62 rfl stZ k6 zKr _ rfl) rfl ⟨rfl, kb⟩
theorem vnew_any (p g i : Nat) (F : Fl) (w : World) (kf : FlAt w p g F) (hlen : 32768 ≤ F.b.length) (hi : i < 2) :
 Calls Tryz.prog 48 #[.pointer (some ⟨p, 0, none⟩), .int .i64 (i : Int)] w fun e w' => ∃ a, e = .returned (.tuple #[.pointer (some ⟨a, 0, none⟩), .int .i64 0]) ∧ Below w.heap.size w w' := by
 obtain ⟨L, hL⟩ : ∃ L, F.b.length / 256 = L := ⟨_, rfl⟩
 have hL64 : (128 : Int) ≤ (L : Int) := by omega
 have cS := zH (fsize_any p g F w kf)
 rw [hL] at cS
 have i0 : (0 : Int) ≤ (i : Int) := by omega
 have i1 : (i : Int) ≤ 1 := by omega
 have i2 : IntKind.i64.wrap ((i : Int) * 32) = (i : Int) * 32 := i64_in zOm
 have i3 : IntKind.i64.wrap (64 + (i : Int) * 32) = 64 + (i : Int) * 32 := i64_in zOm
 clear kf hlen hL hi
 go_enter Tryz.func48, Tryz.ntmps48
 go_wp2_with fail
 refine cS.out.mono ?_
 rintro e w1 ⟨rfl, hw⟩
 obtain rfl : w = w1 := hw.symm
 clear cS
 go_wp2_with fail
 go_ret2
 exact ⟨_, rfl, below_alloc _ _⟩
def dvv (p c : Nat) (dead : Bool) : List Value := [.pointer (some ⟨p, 0, none⟩), .pointer (some ⟨c, 0, none⟩), .bool dead]
def DvNew (p q g r s m : Nat) (F : Fl) (w : World) (e : Ending) (w' : World) : Prop := ∃ d c k F', e = .returned (.tuple #[.pointer (some ⟨d, 0, none⟩), .int .i64 0]) ∧ w.heap.size ≤ d ∧ w.heap.size ≤ c ∧ d ≠ c ∧
 F'.dead = false ∧ F'.op = -1 ∧ F'.b = wrB F.b 0 (recL s 1 []) ∧ Arr w' d (dvv p c false) ∧ Arr w' c (coZ k r s (-1)) ∧ Arr w' q (otv (some ⟨p, 0, none⟩) r s 1 (m : Int)) ∧ FlAt w' p g F' ∧ Ch [p, g, q] w w'
theorem dopen_fresh (p q g r s m : Nat) (F : Fl) (w : World) (ko : Arr w q (otv (some ⟨p, 0, none⟩) r s 0 (m : Int))) (kf : FlAt w p g F) (hqp : q ≠ p) (hqg : q ≠ g) (hlen : 32768 ≤ F.b.length) (hop : F.op = -1) (hd : F.dead = false) (hm0 : 0 < m) (hm : m ≤ 1000000) (hf : Unmarked F) :
 Calls Tryz.prog 14 #[.pointer (some ⟨p, 0, none⟩), .pointer (some ⟨q, 0, none⟩)] w (DvNew p q g r s m F w) := by
 have hpl := kf.lt
 have hql := ko.lt
 obtain ⟨L, hL⟩ : ∃ L, F.b.length / 256 = L := ⟨_, rfl⟩
 have hL64 : (128 : Int) ≤ (L : Int) := by omega
 have cS := zH (fsize_any p g F w kf)
 rw [hL] at cS
 have cB := zH (bopen_fresh p q g r s m F w ko kf hqp hqg zOm hop hd hm0 hm hf)
 replace hlen := zH hlen
 clear ko kf hqp hqg hop hd hm0 hm hf hL
 go_enter Tryz.func14, Tryz.ntmps14
 go_wp2_with fail
 refine cS.out.mono ?_
 rintro e w1 ⟨rfl, hw⟩
 obtain rfl : w = w1 := hw.symm
 clear cS
 go_wp2_with fail
 refine cB.out.mono ?_
 rintro e w1 ⟨b, F', rfl, hb0, hFb, hop', hd', kk, hc⟩
 have hlen' : 32768 ≤ F'.b.length := by rw [hFb, wrB_len]; exact hlen.out
 clear cB hlen hL64
 replace hFb := zH hFb
 replace hop' := zH hop'
 replace hd' := zH hd'
 have hcs := hc.size
 replace hc := zH hc
 have cL := zH (bload_nil b p q g r s 1 (m : Int) 0 false F' w1 kk)
 have cV := zH (fun i (hi : i < 2) w' (hb : Below w1.heap.size w1 w') => vnew_any p g i F' w' (kk.fl.below hb) hlen' hi)
 have cR := zH (fun w' (hb : Below w1.heap.size w1 w') => oroot_any q (some ⟨p, 0, none⟩) r s 1 (m : Int) w' (kk.ot.below hb))
 have cT := zH (fun w' (hb : Below w1.heap.size w1 w') => osecret_any q (some ⟨p, 0, none⟩) r s 1 (m : Int) w' (kk.ot.below hb))
 replace kk := zH kk
 clear hlen'
 go_wp2_with fail
 refine cL.out.mono ?_
 rintro e w2 ⟨rfl, hw⟩
 obtain rfl : w1 = w2 := hw.symm
 clear cL
 go_wp2_with fail
 refine (dstate_nil _).mono ?_
 rintro e w2 ⟨rfl, kb⟩
 go_upto_region 9 with (refine wpl_storeG rfl _ _ _ rfl _ stZ rfl rfl _ (Arr.new _ _ _) zKr (by rfl) stZ_one (fun w4 k6 hg hsz => ?_))
 replace kb := bel kb (below_fresh hg)
 have hw2 : w1.heap.size ≤ w4.heap.size := kb.size
 have h8 := k6.lt
 obtain ⟨g8, hg8⟩ : ∃ g, w2.heap.size = g := ⟨_, rfl⟩
 rw [hg8] at k6 h8 ⊢
 clear hg hsz hg8
 go_upto_region 10 with fail
 have kb2 := below_alloc w4 (.cells #[.pointer (some ⟨q, 0, none⟩), .pointer (some ⟨b, 0, none⟩), .pointer none, .pointer none] 117)
 have k9 : Arr (w4.alloc (.cells #[.pointer (some ⟨q, 0, none⟩), .pointer (some ⟨b, 0, none⟩), .pointer none, .pointer none] 117)) w4.heap.size [.pointer (some ⟨q, 0, none⟩), .pointer (some ⟨b, 0, none⟩), .pointer none, .pointer none] := Arr.new _ _ _
 replace k6 := k6.below kb2
 replace kb := bel kb kb2
 obtain ⟨W, hW⟩ : ∃ W, w4.alloc (.cells #[.pointer (some ⟨q, 0, none⟩), .pointer (some ⟨b, 0, none⟩), .pointer none, .pointer none] 117) = W := ⟨_, rfl⟩
 obtain ⟨g9, hg9⟩ : ∃ g, w4.heap.size = g := ⟨_, rfl⟩
 rw [hW] at k6 k9 kb ⊢
 rw [hg9] at k9 h8 hw2 ⊢
 clear hW hg9 kb2
 go_wp2_with fail
 go_loopw [44] (fun iv wr => ∃ (i : Nat) (xs : List Value), i ≤ 2 ∧ iv = .int .i64 i ∧ xs.length = 4 ∧ Arr wr g9 xs ∧ Arr wr g8 stZ ∧ Below w1.heap.size w1 wr) (fun iv _ => 2 - (intOf iv).toNat)
 case atStart => exact ⟨0, _, by omega, rfl, rfl, k9, k6, kb⟩
 case round =>
 clear k6 k9 kb
 obtain ⟨i, xs, hi, rfl, hxl, k9, k8, kb⟩ := hrel
 have hi0 : (0 : Int) ≤ (i : Int) := by omega
 by_cases hin : i < 2
 · have hi1 : (i : Int) < 2 := by omega
   have cVi := zH (cV.out i hin)
   go_upto_region 13 with fail
   obtain ⟨wq, rfl⟩ : ∃ wq : World, wq = wr := ⟨_, rfl⟩
   refine Tx.start (fun w' => Below (wq).heap.size (wq) w') 11 12 rfl zKr ?_
   have hS_1 : Below (wq).heap.size (wq) (World.drew wq) := (Below.refl _ _).drew
   refine Tx.seg2 (A := ?_) 6 783 zKr (by exact hS_1) [0, 1, 2, 3, 8, 9] zKr ?_ ?_
   rotate_left
   · intro w' hB
     exact zRd
   refine Tx.eff 4 799 rfl zDk (fun K hK => ?_)
   go_simp
   refine (cVi.out _ (bel kb hS_1)).mono ?_
   rintro e w_2 ⟨a, rfl, hb_2⟩
   have hS_2 := ext_trans hS_1 (Nat.le_refl _) hb_2
   refine hK (fun w' => Below (wq).heap.size (wq) w') _ _ hS_2 (fun _ h => h) ?_
   clear hK K hS_1
   try simp only [Act.put, zSa, zSz, zSs]
   refine Tx.seg2 (A := ?_) 4 831 zKr (by exact hS_2) [5] zKr ?_ ?_
   rotate_left
   · intro w' hB
     exact zRd
   refine Tx.pure (A := ?_) 3 959 zKr (by exact hS_2) [7] zKr ?_ ?_
   rotate_left
   · intro w'
     iterate 1 (first | (refine rd_skip rfl rfl ?_; simp only [Act.put, zSa, zSz, zSs]) | (refine rd_take (v := ?_) rfl rfl ?_ ?_; rotate_left; (focus (go_simp; try (with_reducible rfl))); simp only [Act.put, zSa, zSz, zSs]))
     exact rd_nil
   refine Tx.seg2 (A := ?_) 1 2047 zKr (by exact hS_2) [6, 10] zKr ?_ ?_
   rotate_left
   · intro w' hB
     exact zRd
   have k9 := k9.below hS_2
   have k8 := k8.below hS_2
   replace kb := bel kb hS_2
   obtain ⟨u, hu⟩ : ∃ u, xs[2 + i]? = some u := ⟨xs[2 + i]'zOm, List.getElem?_eq_getElem zOm⟩
   have hcel := k9.cell hu
   have hfro := k9.frozen (2 + i)
   refine Tx.bar 4095 rfl zDk (fun K hK => ?_)
   go_simp
   refine hK (fun _ => True) 9999 _ _ ?_
   clear hK K
   try simp only [Act.put]
   try simp only [zSa, zSz, zSs]
   refine Tx.done zKr ?_
   clear hcel hfro
   have kg := gr_cell w_2 g9 (2 + i) (.pointer (some ⟨a, 0, none⟩))
   have k9 : Arr (w_2.setCell ⟨g9, 2 + i, none⟩ (.pointer (some ⟨a, 0, none⟩))) g9 (xs.set (2 + i) (.pointer (some ⟨a, 0, none⟩))) := k9.set (2 + i) (.pointer (some ⟨a, 0, none⟩))
   generalize (w_2.setCell ⟨g9, 2 + i, none⟩ (.pointer (some ⟨a, 0, none⟩))) = w5 at *
   have k8 := k8.kept kg zOm
   have kb := below_gr kb kg hw2 kb.size
   go_wp2_with fail
   exact ⟨⟨i + 1, _, by omega, by go_num, by rw [List.length_set]; exact hxl, k9, k8, kb⟩, by simp [intOf]; omega⟩
 · have dj : decide ((i : Int) < 2) = false := decide_eq_false zOm
   have cC := zH (fun w' => cnew_any g9 r s w')
   clear cV hi hi0 hin hxl hb0
   go_upto_region 15 with fail
   obtain ⟨wq, rfl⟩ : ∃ wq : World, wq = wr := ⟨_, rfl⟩
   refine Tx.start (fun w' => Below (wq).heap.size (wq) w') 9999 13 rfl zKr ?_
   have hS_3 : Below (wq).heap.size (wq) (World.drew wq) := (Below.refl _ _).drew
   refine Tx.seg (A := ?_) 7 175 zKr (by exact hS_3) [0, 1, 2, 3, 5, 7] zKr ?_ ?_
   rotate_left
   · intro w' hB
     have y8 := k8.below hB
     exact zRd
   refine Tx.eff 4 191 rfl zDk (fun K hK => ?_)
   go_simp
   refine (cR.out _ (bel kb hS_3)).mono ?_
   rintro e w_4 ⟨rfl, hb_4⟩
   have hS_4 := ext_trans hS_3 (Nat.le_refl _) hb_4
   refine hK (fun w' => Below (wq).heap.size (wq) w') _ _ hS_4 (fun _ h => h) ?_
   clear hK K hb_4 hS_3
   try simp only [Act.put, zSa, zSz, zSs]
   refine Tx.eff 6 255 rfl zDk (fun K hK => ?_)
   go_simp
   refine (cT.out _ (bel kb hS_4)).mono ?_
   rintro e w_5 ⟨rfl, hb_5⟩
   have hS_5 := ext_trans hS_4 (Nat.le_refl _) hb_5
   refine hK (fun w' => Below (wq).heap.size (wq) w') _ _ hS_5 (fun _ h => h) ?_
   clear hK K hb_5 hS_4
   try simp only [Act.put, zSa, zSz, zSs]
   have hs5 := (hS_5).size
   have hsq := kb.size
   refine Tx.eff 8 511 rfl zDk (fun K hK => ?_)
   go_simp
   refine (cC.out _).mono ?_
   rintro e w_6 ⟨c, rfl, hcg, kc, hb_6⟩
   have hS_6 := ext_trans hS_5 (Nat.le_refl _) hb_6
   refine hK (fun w' => Below (wq).heap.size (wq) w') _ _ hS_6 (fun _ h => h) ?_
   clear hK K hS_5
   try simp only [Act.put, zSa, zSz, zSs]
   refine Tx.seg (A := ?_) 3 1023 zKr (by exact hS_6) [9] zKr ?_ ?_
   rotate_left
   · intro w' hB
     exact zRd
   refine Tx.eff 10 2047 rfl zDk (fun K hK => ?_)
   go_simp
   have kd : Arr (w_6.alloc (.cells #[.pointer (some ⟨p, 0, none⟩), .pointer (some ⟨c, 0, none⟩), .bool false] 123)) w_6.heap.size (dvv p c false) := Arr.new _ _ _
   have kb6 := below_alloc w_6 (.cells #[.pointer (some ⟨p, 0, none⟩), .pointer (some ⟨c, 0, none⟩), .bool false] 123)
   have hlt6 := kc.lt
   replace kc := kc.below kb6
   have hS7 := bel hS_6 kb6
   have hw6 := (hS_6).size
   refine hK (fun w' => Below wq.heap.size wq w') _ _ hS7 (fun _ h => h) ?_
   clear hK K
   try simp only [Act.put, zSa, zSz, zSs]
   refine Tx.seg (A := ?_) 0 8191 zKr (by exact hS7) [11, 12] zKr ?_ ?_
   rotate_left
   · intro w' hB
     exact zRd
   refine Tx.done zKr ?_
   have kb := bel kb hS7
   have hcg2 : w.heap.size ≤ c := by omega
   have hd2 : w.heap.size ≤ w_6.heap.size := by omega
   obtain ⟨W7, hW7⟩ : ∃ W, w_6.alloc (.cells #[.pointer (some ⟨p, 0, none⟩), .pointer (some ⟨c, 0, none⟩), .bool false] 123) = W := ⟨_, rfl⟩
   rw [hW7] at kb kc kd ⊢
   go_wp2_with fail
   go_ret2
   exact ⟨_, c, g9, F', rfl, hd2, hcg2, by omega, hd'.out, hop'.out, hFb.out, kd, kc, kk.out.ot.below kb, kk.out.fl.below kb, hc.out.trans (Ch.of_below kb)⟩
theorem ddo4 (d p g c k r s : Nat) (F : Fl) (bv : Value) (n : Int) (w : World) (kd : Arr w d (dvv p c false)) (k0 : Arr w c (coZ k r s (-1))) (kf : FlAt w p g F) (hd : F.dead = false) (hdc : d ≠ c) :
 Calls Tryz.prog 15 #[.pointer (some ⟨d, 0, none⟩), .agg #[.int .i64 4, bv, .int .i64 n]] w fun e w' => e = .returned (.tuple #[.slice none 0 0, .int .i64 18]) ∧ Arr w' c (coZ k r s (-1)) ∧ Ch [c] w w' := by
 have cD := zH (fun w' (hb : Below w.heap.size w w') => fdead_any p g F w' (kf.below hb))
 rw [hd] at cD
 have cC := zH (fun w' (hb : Below w.heap.size w w') => do4 c k r s (-1) bv n w' (k0.below hb))
 replace kd := zH kd
 have hcl := k0.lt
 clear k0 kf hd
 go_enter Tryz.func15, Tryz.ntmps15
 go_upto_region 1 with fail
 have kb := below_alloc w (.cells #[.int .i64 4, bv, .int .i64 n] 56)
 have k1 : Arr (w.alloc (.cells #[.int .i64 4, bv, .int .i64 n] 56)) w.heap.size [.int .i64 4, bv, .int .i64 n] := Arr.new _ _ _
 obtain ⟨W, hW⟩ : ∃ W, w.alloc (.cells #[.int .i64 4, bv, .int .i64 n] 56) = W := ⟨_, rfl⟩
 obtain ⟨g1, hg⟩ : ∃ g, w.heap.size = g := ⟨_, rfl⟩
 rw [hW] at kb k1 ⊢
 rw [hg] at k1 ⊢
 have hg1 : g1 ≠ c := by have := hcl; omega
 clear hW hg
 have kd1 := kd.out.below kb
 have x0 := kd1.cell (j := 0) rfl
 have x2 := kd1.cell (j := 2) rfl
 go_wp2_with fail
 refine (cD.out _ kb).mono ?_
 rintro e w1 ⟨rfl, hw⟩
 obtain rfl : W = w1 := hw.symm
 clear cD x0 x2
 go_upto_region 3 with fail
 refine Tx.start (fun w' => Ch [c] W w') 9999 11 rfl zKr ?_
 have hS0 : Ch [c] W W.drew := Ch.of_below (Below.refl _ _).drew
 refine Tx.seg (A := ?_) 6 31 zKr (by exact hS0) [0, 1, 2, 3, 4] zKr ?_ ?_
 rotate_left
 · intro w' hB
   have x1 := (kd1.ch hB (by simpa using hdc)).cell (j := 1) rfl
   have y1 := k1.ch hB (by simpa using hg1)
   exact zRd
 refine Tx.eff 5 63 rfl zDk (fun K hK => ?_)
 go_simp
 refine (cC.out _ kb.drew).mono ?_
 rintro e w2 ⟨rfl, k2, hc⟩
 have hS1 : Ch [c] W w2 := hS0.trans hc
 refine hK (fun w' => Ch [c] W w') _ _ hS1 (fun _ h => h) ?_
 clear hK K hS0
 try simp only [Act.put, zSa, zSz, zSs]
 refine Tx.seg (A := ?_) 0 2047 zKr (by exact hS1) [6, 7, 8, 9, 10] zKr ?_ ?_
 rotate_left
 · intro w' hB
   exact zRd
 refine Tx.done zKr ?_
 have hq := (Ch.of_below (M := [c]) kb).trans hS1
 clear hS1 cC kb hc
 go_wp2_with fail
 go_ret2
 exact ⟨rfl, k2, hq⟩
end Go.Proofs.YtncnlfpiondpnaaGreat
