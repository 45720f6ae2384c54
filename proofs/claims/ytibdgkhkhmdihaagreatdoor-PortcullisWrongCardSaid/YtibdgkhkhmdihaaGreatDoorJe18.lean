/- PortcullisWrong: part 18 of its proof: lemmas and contracts, each with its conditions in its own statement; the last part holds the law itself. -/
import Derived.Laws.MakeOwn
import Derived.Test.YtibdgkhkhmdihaaGreatDoorJe17
import Derived.Test.YtibdgkhkhmdihaaGreatDoorJe10

set_option maxHeartbeats 4000000
set_option maxRecDepth 100000
namespace Go.Proofs.YtibdgkhkhmdihaaGreatDoor
open Go.RowKit
theorem scMul_any (a b : Nat) (ha : a < 256 ^ 32) (hb : b < 256 ^ 32) (w : World) :
 Calls Tryz.prog 195 #[.agg (byts a).toArray, .agg (byts b).toArray] w fun e w' => e = .returned (.agg (byts (a * b % qN)).toArray) ∧ Below w.heap.size w w' := by
 go_enter Tryz.func195, Tryz.ntmps195
 go_upto_region 1 with fail
 refine wp_new3 (fun W hsz h1 h2 h3 hb0 => ?_)
 refine Tx.start (fun w' => Below (W).heap.size (W) w') 6 7 rfl zKr ?_
 have hS_1 : Below (W).heap.size (W) (World.drew W) := (Below.refl _ _).drew
 refine Tx.seg (A := ?_) 5 5 zKr (by exact (Below.refl _ _).drew) [0, 2] zKr ?_ ?_
 rotate_left
 · intro w' hB
   have e1 := h1.below hB
   have e2 := h2.below hB
   exact zRd
 refine Tx.poolB 1 63 [(1, 7), (3, 9), (4, 10), (5, 5)] [(false, []), (false, []), (false, [(1, 7), (3, 9)]), (false, [])] [(1, Ph.is (.agg (lims 4 a).toArray)), (3, Ph.is (.agg (lims 4 b).toArray)), (4, Ph.is (.agg (lims 8 (a * b)).toArray)), (5, Ph.arr W.heap.size (List.replicate 8 (.int .u64 0)))] zKr zKr (by first | assumption | exact (Below.refl _ _).drew) ?_ ?_
 · refine ⟨⟨_, rfl, ?_⟩, ⟨_, rfl, ?_⟩, ⟨_, rfl, ?_⟩, ⟨_, rfl, ?_⟩, trivial⟩
   · intro vs w1 hS hE hD K hK
     clear hD
     simp only [fillL, Act.put, zSa, zSz, zSs] at hK ⊢
     go_simp
     refine (limOf_any a ha _).mono ?_
     rintro e w2 ⟨rfl, hb2⟩
     exact hK _ _ rfl hb2 nofun
   · intro vs w1 hS hE hD K hK
     clear hD
     simp only [fillL, Act.put, zSa, zSz, zSs] at hK ⊢
     go_simp
     refine (limOf_any b hb _).mono ?_
     rintro e w2 ⟨rfl, hb2⟩
     exact hK _ _ rfl hb2 nofun
   · intro vs w1 hS hE hD K hK
     obtain ⟨q1, q3, -⟩ := hD
     simp only [fillL, Act.put, zSa, zSz, zSs] at hK ⊢
     rw [show vs 1 = _ from q1] at hK ⊢
     clear q1
     rw [show vs 3 = _ from q3] at hK ⊢
     clear q3
     go_simp
     have := limMul_any a b zOm w1
     rw [Nat.mod_eq_of_lt zOm] at this
     refine this.mono ?_
     rintro e w2 ⟨rfl, hb2⟩
     exact hK _ _ rfl hb2 nofun
   · intro vs w1 hS hE hD K hK
     clear hD
     simp only [fillL, Act.put, zSa, zSz, zSs] at hK ⊢
     go_simp
     exact hK _ _ ⟨_, rfl, Nat.le_trans zLe hE.size, Arr.new _ _ _⟩ (below_alloc _ _) (fun _ => ⟨_, rfl, Nat.le_refl _⟩)
 intro vs w_p hS_p hE_p hP hD
 obtain ⟨q1, q3, q4, q5, -⟩ := hP
 simp only [fillL, Act.put, zSa, zSz, zSs]
 rw [show vs 1 = _ from q1]
 clear q1
 rw [show vs 3 = _ from q3]
 clear q3
 rw [show vs 4 = _ from q4]
 clear q4
 obtain ⟨g5, e5, hg5, ha5⟩ := q5
 rw [e5]
 clear e5 hD vs
 refine Tx.bar 127 rfl zDk (fun K hK => ?_)
 refine step_store_arr rfl _ _ _ rfl _ _ rfl rfl _ zAm zLn zLm zOn ?_
 refine hK (fun _ => True) 9999 _ _ ?_
 clear hK K
 try simp only [Act.put]
 try simp only [zSa, zSz, zSs]
 refine Tx.done zKr ?_
 have k3 : Arr W (w.heap.size + 1 + 1) (byts 0) := h3
 have hn3 := k3.lt
 have k3 := (k3.below hS_p).row_other (k := g5) zOm (lims 8 (a * b)).toArray
 have k5 := ha5.setRow (lims 8 (a * b))
 have kb := below_setRow (bel hb0 hS_p) (g := g5) zOm (lims 8 (a * b)).toArray
 generalize w_p.setRow g5 (lims 8 (a * b)).toArray = w5 at *
 clear ha5 hE_p hS_p h1 h2 h3
 have hr := reduce_any (digs 18446744073709551616 8 (a * b)) g5 0 8 w5 (by rw [digs_len]; decide) (by rw [digs_len]; decide) (digs_lt _ _ _ zDc) (fun j x hj => by rw [Nat.zero_add]; exact k5.cell (us_get _ j x hj))
 rw [digs_len, val_digs, Nat.mod_eq_of_lt (Nat.lt_of_lt_of_le (Nat.mul_lt_mul'' ha hb) zDc)] at hr
 have hr := zH hr
 clear ha hb
 go_wp2_with fail
 refine hr.out.mono ?_
 rintro e w6 ⟨rfl, hb6⟩
 have k3 := k3.below hb6
 have kb := bel kb hb6
 clear hr hb6 k5
 go_wp2_with fail
 refine (limNum_any _ _).mono ?_
 rintro e w7 ⟨rfl, hb7⟩
 have k3 := k3.below hb7
 have kb := bel kb hb7
 clear hb7
 go_wp2_with (first | (refine zSt ?_))
 exact bodyPost_ret (results_arr2 Tryz.results195 _ _ _ rfl zKr _ (by first | assumption | exact Arr.setRow zAm _) zLn) rfl ⟨rfl, below_setRow kb zOm _⟩
theorem info_u64 : (Tryz.prog.info? 79).map (fun i => (i.zero, i.size, i.bytes)) = some (some (.int .u64 0), 1, 8) := by kernel_rfl
theorem Sl.of_arr {w : World} {g : Nat} {xs : List Value} (h : Arr w g xs) (hm : xs.length ≤ maxLen) : Sl w (.slice (some ⟨g, 0, none⟩) xs.length xs.length) xs :=
 ⟨some ⟨g, 0, none⟩, xs.length, rfl, Nat.le_refl _, hm, fun h => (by cases h), fun x hx => by
  cases hx
  intro j u hu
  rw [Addr.add_lit, Nat.zero_add]
  exact h.cell hu⟩
theorem sum_val (a b : Nat) (ha : a < 18446744073709551616 ^ 4) (hb : b < 18446744073709551616 ^ 4) : val 18446744073709551616 (digs 18446744073709551616 4 (a + b) ++ [carry 18446744073709551616 4 a b]) = a + b := by
 rw [val_append, val_digs, digs_len]
 unfold carry
 rw [Nat.mod_eq_of_lt ha, Nat.mod_eq_of_lt hb]
 simp only [val, Nat.mul_zero, Nat.add_zero]
 exact Nat.mod_add_div _ _
theorem scAdd_any (a b : Nat) (ha : a < 256 ^ 32) (hb : b < 256 ^ 32) (w : World) :
 Calls Tryz.prog 194 #[.agg (byts a).toArray, .agg (byts b).toArray] w fun e w' => e = .returned (.agg (byts ((a + b) % qN)).toArray) ∧ Below w.heap.size w w' := by
 go_enter Tryz.func194, Tryz.ntmps194
 go_upto_region 1 with fail
 refine wp_new3 (fun W hsz h1 h2 h3 hb0 => ?_)
 refine Tx.start (fun w' => Below (W).heap.size (W) w') 9 11 rfl zKr ?_
 have hS_2 : Below (W).heap.size (W) (World.drew W) := (Below.refl _ _).drew
 refine Tx.seg (A := ?_) 9 5 zKr (by exact (Below.refl _ _).drew) [0, 2] zKr ?_ ?_
 rotate_left
 · intro w' hB
   have e1 := h1.below hB
   have e2 := h2.below hB
   exact zRd
 refine Tx.poolB 2 511 [(1, 9), (3, 11), (4, 12), (5, 7), (6, 13), (7, 14), (8, 5)] [(false, []), (false, []), (false, [(1, 9), (3, 11)]), (true, [(4, 12)]), (true, [(5, 7)]), (true, [(5, 7)]), (false, [])] [(1, Ph.is (.agg (lims 4 a).toArray)), (3, Ph.is (.agg (lims 4 b).toArray)), (4, Ph.is (.tuple #[.agg (lims 4 (a + b)).toArray, .int .u64 (carry 18446744073709551616 4 a b : Nat)])), (5, Ph.is (.tuple #[.agg (lims 4 (a + b)).toArray, .int .u64 (carry 18446744073709551616 4 a b : Nat)])), (6, Ph.is (.agg (lims 4 (a + b)).toArray)), (7, Ph.is (.int .u64 (carry 18446744073709551616 4 a b : Nat))), (8, Ph.arr W.heap.size (lims 4 0))] zKr zKr (by first | assumption | exact (Below.refl _ _).drew) ?_ ?_
 · refine ⟨⟨_, rfl, ?_⟩, ⟨_, rfl, ?_⟩, ⟨_, rfl, ?_⟩, ⟨_, rfl, ?_⟩, ⟨_, rfl, ?_⟩, ⟨_, rfl, ?_⟩, ⟨_, rfl, ?_⟩, trivial⟩
   · intro vs w1 hS hE hD K hK
     clear hD
     simp only [fillL, Act.put, zSa, zSz, zSs] at hK ⊢
     go_simp
     refine (limOf_any a ha _).mono ?_
     rintro e w2 ⟨rfl, hb2⟩
     exact hK _ _ rfl hb2 nofun
   · intro vs w1 hS hE hD K hK
     clear hD
     simp only [fillL, Act.put, zSa, zSz, zSs] at hK ⊢
     go_simp
     refine (limOf_any b hb _).mono ?_
     rintro e w2 ⟨rfl, hb2⟩
     exact hK _ _ rfl hb2 nofun
   · intro vs w1 hS hE hD K hK
     obtain ⟨q1, q3, -⟩ := hD
     simp only [fillL, Act.put, zSa, zSz, zSs] at hK ⊢
     rw [show vs 1 = _ from q1] at hK ⊢
     clear q1
     rw [show vs 3 = _ from q3] at hK ⊢
     clear q3
     go_simp
     refine (limAdd_any a b _).mono ?_
     rintro e w2 ⟨rfl, hb2⟩
     exact hK _ _ rfl hb2 nofun
   · intro vs w1 hS hE hD
     obtain ⟨q4, -⟩ := hD
     simp only [fillL, Act.put, zSa, zSz, zSs] at ⊢
     rw [show vs 4 = _ from q4] at ⊢
     clear q4
     refine ⟨_, rfl, fun w' => (by first | (go_simp; done) | (go_simp; rfl)), rfl, nofun⟩
   · intro vs w1 hS hE hD
     obtain ⟨q5, -⟩ := hD
     simp only [fillL, Act.put, zSa, zSz, zSs] at ⊢
     rw [show vs 5 = _ from q5] at ⊢
     clear q5
     refine ⟨_, rfl, fun w' => (by first | (go_simp; done) | (go_simp; rfl)), rfl, nofun⟩
   · intro vs w1 hS hE hD
     obtain ⟨q5, -⟩ := hD
     simp only [fillL, Act.put, zSa, zSz, zSs] at ⊢
     rw [show vs 5 = _ from q5] at ⊢
     clear q5
     refine ⟨_, rfl, fun w' => (by first | (go_simp; done) | (go_simp; rfl)), rfl, nofun⟩
   · intro vs w1 hS hE hD K hK
     clear hD
     simp only [fillL, Act.put, zSa, zSz, zSs] at hK ⊢
     go_simp
     exact hK _ _ ⟨_, rfl, Nat.le_trans zLe hE.size, Arr.new _ _ _⟩ (below_alloc _ _) (fun _ => ⟨_, rfl, Nat.le_refl _⟩)
 intro vs w_p hS_p hE_p hP hD
 obtain ⟨q1, q3, q4, q5, q6, q7, q8, -⟩ := hP
 simp only [fillL, Act.put, zSa, zSz, zSs]
 rw [show vs 1 = _ from q1]
 clear q1
 rw [show vs 3 = _ from q3]
 clear q3
 rw [show vs 4 = _ from q4]
 clear q4
 rw [show vs 5 = _ from q5]
 clear q5
 rw [show vs 6 = _ from q6]
 clear q6
 rw [show vs 7 = _ from q7]
 clear q7
 obtain ⟨g8, e8, hg8, ha8⟩ := q8
 rw [e8]
 clear e8 hD vs
 refine Tx.bar 1023 rfl zDk (fun K hK => ?_)
 refine step_store_arr rfl _ _ _ rfl _ _ rfl rfl _ zAm zLn zLm zOn ?_
 refine hK (fun _ => True) 9999 _ _ ?_
 clear hK K
 try simp only [Act.put]
 try simp only [zSa, zSz, zSs]
 refine Tx.seg (A := ?_) 0 2047 zKr (by exact trivial) [10] zKr ?_ ?_
 rotate_left
 · intro w' hB
   exact zRd
 refine Tx.done zKr ?_
 have k3 : Arr W (w.heap.size + 1 + 1) (byts 0) := h3
 have hn3 := k3.lt
 have k3 := (k3.below hS_p).row_other (k := g8) zOm (lims 4 (a + b)).toArray
 have k5 := ha8.setRow (lims 4 (a + b))
 have kb := below_setRow (bel hb0 hS_p) (g := g8) zOm (lims 4 (a + b)).toArray
 generalize w_p.setRow g8 (lims 4 (a + b)).toArray = w5 at *
 clear ha8 hE_p hS_p h1 h2 h3
 have hc1 := carry_le 18446744073709551616 4 a b zDc
 have hv := sum_val a b zOm zOm
 obtain ⟨c, hc⟩ : ∃ c, carry 18446744073709551616 4 a b = c := ⟨_, rfl⟩
 rw [hc] at hc1 hv ⊢
 have hv := zH hv
 clear ha hb hc
 obtain ⟨i, hi, hz0, hz1, hz2⟩ := info_parts info_u64
 have hS4 : ∀ o : Obj, Sl (w5.alloc o) (.slice (some ⟨g8, 0, none⟩) 4 4) (lims 4 (a + b)) := fun o => by
  have := Sl.of_arr (k5.alloc o) (by rw [lims_len]; decide)
  rwa [lims_len] at this
 have hlv := lims_len 4 (a + b)
 go_wp2_with (at_builtin; refine wpList_append_new rfl _ _ 306 rfl 79 Tryz.underlying306 hi hz0 hz1 hz2 rfl rfl (hS4 _) rfl (Sl.new1 _ _ _) ?c1 ?c2 ?c3 ?c4 ?_)
 case c1 => rw [hlv]; simp
 case c2 => intro u hu; simp at hu; rw [hu]; rfl
 case c3 => simp [maxLen]
 case c4 => simp
 intro v' w6 hown hb6
 have hus : lims 4 (a + b) ++ [Value.int .u64 (c : Int)] = us (digs 18446744073709551616 4 (a + b) ++ [c]) := by simp [lims_us, us]
 have hsl := Sl.of_own hown
 rw [hus] at hsl
 have kb := bel1 kb hb6
 have k3 := k3.below1 hb6
 obtain ⟨d, cap, rfl, hl1, hl2, hl3, hl4⟩ := id hsl
 have hlen5 : (us (digs 18446744073709551616 4 (a + b) ++ [c])).length = 5 := by simp [us_len, digs_len]
 obtain ⟨bb, oo, rfl, -, -, -, hcc⟩ := hsl.at (by rw [hlen5]; decide)
 rw [hlen5]
 have hr := reduce_any (digs 18446744073709551616 4 (a + b) ++ [c]) bb oo cap w6 (by simp) (by simp [digs_len]) (by
  intro x hx
  rcases List.mem_append.1 hx with hx | hx
  · exact digs_lt _ _ _ zDc x hx
  · simp at hx; omega) (fun j x hj => hcc j _ (us_get _ _ _ hj))
 have hlen6 : (digs 18446744073709551616 4 (a + b) ++ [c]).length = 5 := by simp [digs_len]
 rw [hlen6, hv.out] at hr
 have hr := zH hr
 clear hsl hl1 hl2 hl3 hl4 hown hus hcc hlen5 hlen6 hv hS4 hlv
 go_wp2_with fail
 refine hr.out.mono ?_
 rintro e w7 ⟨rfl, hb7⟩
 have k3 := k3.below hb7
 have kb := bel kb hb7
 clear hr hb7
 go_wp2_with fail
 refine (limNum_any _ _).mono ?_
 rintro e w8 ⟨rfl, hb8⟩
 have k3 := k3.below hb8
 have kb := bel kb hb8
 go_wp2_with (first | (refine zSt ?_))
 exact bodyPost_ret (results_arr2 Tryz.results194 _ _ _ rfl zKr _ (by first | assumption | exact Arr.setRow zAm _) zLn) rfl ⟨rfl, below_setRow kb zOm _⟩
theorem make8 (w : World) : (Instr.makeSlice 306 (.int .i64 8) (.int .i64 8)).run Tryz.prog w = .ok (.slice (some ⟨w.heap.size, 0, none⟩) 8 8) (w.alloc (.cells (lims 8 0).toArray 79)) := by
 obtain ⟨i, hi, hz0, hz1, hz2⟩ := info_parts info_u64
 have h := run_makeSlice (P := Tryz.prog) w 306 79 i _ Tryz.underlying306 hi hz0 .i64 .i64 8 8 zDc zDc (by rw [hz1]; decide) (by rw [hz2]; decide) zDc
 rw [hz1] at h
 have e : madeCells (Value.int .u64 0).cells (Int.toNat 8 * 1) = (lims 8 0).toArray := by kernel_rfl
 rw [e] at h
 exact h
theorem lims_set_of8 (n k : Nat) (_ : k < 64) : (lims 8 (n % 256 ^ k)).set (k / 8) (.int .u64 ((n % 256 ^ (k + 1) / 18446744073709551616 ^ (k / 8) % 18446744073709551616 : Nat) : Int)) = lims 8 (n % 256 ^ (k + 1)) := by
 apply List.ext_getElem?
 intro j
 by_cases hj : j < 8
 · rw [List.getElem?_set, lims_get _ _ _ hj, lims_get _ _ _ hj, lims_len]
   by_cases h1 : k / 8 = j
   · subst h1; rw [if_pos rfl, if_pos hj]
   · rw [if_neg h1]
     rcases Nat.lt_or_ge j (k / 8) with h2 | h2
     · rw [of_low n k j h2]
     · rw [of_high n k j zOm]
 · rw [List.getElem?_eq_none (by rw [List.length_set, lims_len]; omega), List.getElem?_eq_none (by rw [lims_len]; omega)]
theorem scReduce_any (d : Option Addr) (n cap : Nat) (bs : List UInt8) (w : World) (hs : Sl w (.slice d n cap) (u8s bs)) :
 Calls Tryz.prog 239 #[.slice d n cap] w fun e w' => e = .returned (.agg (byts (val 256 ((bs.take 64).map (·.toNat)) % qN)).toArray) ∧ Below w.heap.size w w' := by
 have hlen := hs.len
 rw [u8s_len] at hlen
 obtain ⟨rfl, hlc, hcm⟩ := hlen
 unfold maxLen at hcm
 go_enter Tryz.func239, Tryz.ntmps239
 obtain ⟨m, hm⟩ : ∃ m, min bs.length 64 = m := ⟨_, rfl⟩
 obtain ⟨N, hN⟩ : ∃ N, val 256 ((bs.take 64).map (·.toNat)) = N := ⟨_, rfl⟩
 have hdg : ∀ k (h : k < bs.length), k < 64 → N / 256 ^ k % 256 = (bs[k]).toNat := by
  intro k h1 h2
  have h3 := digs_val 256 zDc ((bs.take 64).map (·.toNat)) (by intro x hx; simp only [List.mem_map] at hx; obtain ⟨y, -, rfl⟩ := hx; exact y.toNat_lt)
  rw [hN] at h3
  have h4 := digs_get 256 ((bs.take 64).map (·.toNat)).length N k (by simp; omega)
  rw [h3] at h4
  simp [h1, h2] at h4
  exact h4.symm
 have hNm : N < 256 ^ m := by
  have h3 := val_lt 256 zDc ((bs.take 64).map (·.toNat)) (by intro x hx; simp only [List.mem_map] at hx; obtain ⟨y, -, rfl⟩ := hx; exact y.toNat_lt)
  rw [hN] at h3
  simpa [Nat.min_comm, ← hm] using h3
 rw [hN]
 have hdg := zH hdg
 have hNm' := zH hNm
 have hN' := zH hN
 clear hN hNm
 have hmk := fun w => make8 w
 go_upto_region 2 with fail
 refine wp_new2 (fun W hsz h1 h2 hb0 => ?_)
 go_wp2_with fail
 all_goals
  clear hmk
  try rw [show max (64 : Int) 0 = 64 from rfl]
  go_loopw [13] (fun kv wr => ∃ k : Nat, k ≤ m ∧ kv = .int .i64 k ∧ Arr wr w.heap.size (byts 0) ∧ Arr wr (w.heap.size + 1) (lims 8 (N % 256 ^ k)) ∧ Below w.heap.size w wr) (fun kv _ => m - (intOf kv).toNat)
  case atStart => exact ⟨0, Nat.zero_le _, rfl, h1, by rw [Nat.pow_zero, Nat.mod_one]; exact h2, hb0⟩
  case round =>
   obtain ⟨k, hk, rfl, k1, k2, kb⟩ := hrel
   clear h1 h2 hb0 hsz
   by_cases hlt : k < m
   · have hkl : k < bs.length := by omega
     obtain ⟨b0, hb0⟩ : ∃ x : Nat, (bs[k]).toNat = x := ⟨_, rfl⟩
     have hbl : b0 < 256 := by rw [← hb0]; exact (bs[k]).toNat_lt
     obtain ⟨bb, oo, rfl, -, -, -, hcc⟩ := hs.at (by rw [u8s_len]; omega)
     have hcell := hcc k _ (u8s_get bs k hkl)
     rw [hb0] at hcell
     have hbbl := World.block_lt_of_cell? w _ hcell
     have hcell2 : wr.cell? ⟨bb, oo + k, none⟩ = some (.int .u8 (b0 : Int)) := by rw [kb.cell hbbl]; exact hcell
     obtain ⟨l0, hl0⟩ : ∃ l0, N % 256 ^ k / 18446744073709551616 ^ (k / 8) % 18446744073709551616 = l0 := ⟨_, rfl⟩
     have hl1 : l0 < 18446744073709551616 := by rw [← hl0]; exact Nat.mod_lt _ zDc
     have hc := k2.cell (lims_get 8 (N % 256 ^ k) (k / 8) zOm)
     rw [hl0] at hc
     have hf := k2.frozen (k / 8)
     have hl0' := zH hl0
     have hb0' := zH hb0
     clear hl0 hb0 hcell hcc
     go_upto_region 5 with fail
     have hq0 : (0 : Int) ≤ (k : Int) / 8 := by omega
     have hq1 : (k : Int) / 8 < 8 := by omega
     have ew1 : IntKind.i64.wrap ((k : Int) / 8) = (k : Int) / 8 := i64_in zOm
     have et : ((k : Int) / 8).toNat = k / 8 := by omega
     have em : ((k : Int)).tmod 8 = (k : Int) % 8 := Int.tmod_eq_emod_of_nonneg zOm
     have eb : IntKind.u64.wrap (b0 : Int) = (b0 : Int) := by simp [IntKind.wrap, IntKind.bits, IntKind.signed]; omega
     have hs0 : (0 : Int) ≤ 8 * ((k : Int) % 8) := by omega
     have ew2 : IntKind.i64.wrap ((k : Int) % 8) = (k : Int) % 8 := i64_in zOm
     have ew3 : IntKind.i64.wrap (8 * ((k : Int) % 8)) = 8 * ((k : Int) % 8) := i64_in zOm
     refine Tx.start (fun w' => Below (wr).heap.size (wr) w') 13 14 rfl zKr ?_
     have hS_1 : Below (wr).heap.size (wr) (World.drew wr) := (Below.refl _ _).drew
     refine Tx.seg (A := ?_) 1 8191 zKr (by exact (Below.refl _ _).drew) [0, 1, 2, 3, 4, 5, 6, 7, 8, 9, 10, 11, 12] zKr ?_ ?_
     rotate_left
     · intro w' hB
       have e1 : w'.cell? ⟨w.heap.size + 1, k / 8, none⟩ = some (.int .u64 (l0 : Int)) := by rw [hB.cell (by simpa using k2.lt)]; exact hc
       exact zRd
     have hc2 : wr.drew.cell? ⟨w.heap.size + 1, k / 8, none⟩ = some (.int .u64 (l0 : Int)) := hc
     have hf2 : wr.drew.frozen? ⟨w.heap.size + 1, k / 8, none⟩ = false := hf
     refine Tx.bar 16383 rfl zDk (fun K hK => ?_)
     go_simp
     refine hK (fun _ => True) 9999 _ _ ?_
     clear hK K
     try simp only [Act.put]
     try simp only [zSa, zSz, zSs]
     refine Tx.done zKr ?_
     go_wp2_with fail
     refine ⟨⟨k + 1, by omega, by go_num, k1.other (by simp) _, ?_, (kb.setCell (by simp) _).drew⟩, by simp [intOf]; omega⟩
     have h9 := k2.set (k / 8) (.int .u64 ((N % 256 ^ (k + 1) / 18446744073709551616 ^ (k / 8) % 18446744073709551616 : Nat) : Int))
     rw [lims_set_of8 _ _ zOm] at h9
     rw [show (b0 : Int) * 2 ^ (8 * (k % 8)) = ((b0 * 2 ^ (8 * (k % 8)) : Nat) : Int) by simp, of_step hl0'.out (by rw [hdg.out k hkl zOm]; exact hb0'.out)]
     exact h9
   · obtain rfl : k = m := by omega
     rw [Nat.mod_eq_of_lt hNm'.out] at k2
     have hr := reduce_any (digs 18446744073709551616 8 N) (w.heap.size + 1) 0 8 wr (by rw [digs_len]; decide) (by rw [digs_len]; decide) (digs_lt _ _ _ zDc) (fun j x hj => by rw [Nat.zero_add]; exact k2.cell (us_get _ j x hj))
     have hN512 : N < 18446744073709551616 ^ 8 := Nat.lt_of_lt_of_le hNm'.out (by rw [lim_pow]; exact Nat.pow_le_pow_right zDc zOm)
     rw [digs_len, val_digs, Nat.mod_eq_of_lt hN512] at hr
     have hr := zH hr
     clear hN512
     go_wp2_with fail
     refine hr.out.mono ?_
     rintro e w6 ⟨rfl, hb6⟩
     have k1 := k1.below hb6
     have kb := bel kb hb6
     clear hr hb6 k2
     go_wp2_with fail
     refine (limNum_any _ _).mono ?_
     rintro e w7 ⟨rfl, hb7⟩
     have k1 := k1.below hb7
     have kb := bel kb hb7
     clear hb7
     go_wp2_with (first | (refine zSt ?_))
     exact bodyPost_ret (results_arr2 Tryz.results239 _ _ _ rfl zKr _ (by first | assumption | exact Arr.setRow zAm _) zLn) rfl ⟨rfl, below_setRow kb zOm _⟩
theorem Sls.app {w0 w : World} {v : Value} {uu vs : List Value} {al ls : List (List UInt8)} (h : Sl w v (uu ++ vs)) (ha : uu.length = al.length) (hl : vs.length = ls.length) (h1 : ∀ (j : Nat) (a : Value) (b : List UInt8), uu[j]? = some a → al[j]? = some b → Sl w0 a (u8s b))
 (h2 : ∀ (j : Nat) (a : Value) (b : List UInt8), vs[j]? = some a → ls[j]? = some b → Sl w0 a (u8s b)) (hb : Below w0.heap.size w0 w) : Sls w v (al ++ ls) := by
 refine ⟨_, h, by simp [ha, hl], ?_⟩
 intro j a b hj hj'
 by_cases hlt : j < uu.length
 · rw [List.getElem?_append_left hlt] at hj
   rw [List.getElem?_append_left zOm] at hj'
   exact (h1 j a b hj hj').below hb
 · rw [List.getElem?_append_right zOm] at hj
   rw [List.getElem?_append_right zOm, ← ha] at hj'
   exact (h2 _ a b hj hj').below hb
theorem val_bytn {N : Nat} (h : N < 256 ^ 64) : val 256 ((((digs 256 64 N).map UInt8.ofNat).take 64).map (·.toNat)) = N := by
 rw [List.take_of_length_le (by simp [digs_len]), List.map_map]
 have : (digs 256 64 N).map ((fun x : UInt8 => x.toNat) ∘ UInt8.ofNat) = digs 256 64 N := by
  conv => rhs; rw [← List.map_id (digs 256 64 N)]
  apply List.map_congr_left
  intro x hx
  have := digs_lt 256 64 N zDc x hx
  simp only [Function.comp_apply, UInt8.toNat_ofNat', id_eq]
  omega
 rw [this, val_digs, Nat.mod_eq_of_lt h]
theorem run_append_nothing {P : Program} {w : World} (t ty e : TypeId) {i : TypeInfo} (ht : P.underlying t = some (.slice e)) (hi : P.info? e = some i) {a : Option Addr} {n cap : Nat} (hn : n ≤ cap) {vx : Value} (hx : Sl w vx []) :
 (Builtin.append_ #[t, t] ty #[.slice a n cap, vx]).run P w = .ok (.slice a n cap) w := by
 obtain ⟨x, c, rfl, -⟩ := hx
 cases x <;> cases a <;> simp [Builtin.append_, run_underlying ht, sizeOf, typeInfo, hi, Builtin.lenOf, Builtin.firstCells, hn, storeCells, loadCells, loadCellsFrom]
theorem wpList_append_run {P : Program} {w w' : World} {ops : Array Oper} {rest : List Oper} {o : Oper} {a : Act} {Q : Exit → Act → World → Prop} (hgd : o.guard = none) (s x : Operand) (t : TypeId)
 (ho : o.op = .call { callee := .builtin .append, args := #[s, x], argTypes := #[t, t] }) {v vx v' : Value} (hs : a.eval s = v) (hx : a.eval x = vx) (hr : (Builtin.append_ #[t, t] o.type #[v, vx]).run P w = .ok v' w')
 (h : wpList P ops Q rest (a.put o.dst v') w') : wpList P ops Q (o :: rest) a w := by
 refine wpList_plain hgd fun K hK => ?_
 unfold Oper.wp execOp
 simp only [ho, resolve, invoke, builtin, Sem.run_bind, Sem.run_pure, Result.andThen_ok, List.map_toArray, List.map_cons, List.map_nil, hs, hx, hr]
 exact hK _ _ h
theorem csum2_any (w : World) (d d2 : Option Addr) (na nb2 cb : Nat) (al ls : List (List UInt8)) (h1 : Sls w (.slice d na na) al) (hs : Sls w (.slice d2 nb2 cb) ls) (ha1 : al.length ≤ 1000) (hl : ls.length ≤ 100000) :
 Calls Tryz.prog 193 #[.slice d2 nb2 cb, .slice d na na] w fun e w' => e = .returned (.agg (byts (shab (al ++ ls).flatten % qN)).toArray) ∧ Below w.heap.size w w' := by
 obtain ⟨vs, hv1, hvl, hvo, hvj⟩ := hs.vals
 obtain ⟨uu, hu1, hul, huo, huj⟩ := h1.vals
 have hna : na = uu.length := by obtain ⟨a', c', e, h2, -⟩ := hu1; simp only [Value.slice.injEq] at e; exact e.2.1
 obtain ⟨N, hN⟩ : ∃ N, shab (al ++ ls).flatten = N := ⟨_, rfl⟩
 have hNl : N < 256 ^ 64 := hN ▸ shab_lt _
 have hap := zH (fun w' v (hb : Below w.heap.size w w') (h : Sl w' v (uu ++ vs)) => Sls.app h hul hvl huj hvj hb)
 rw [hN]
 obtain ⟨i, hi, hz0, hz1, hz2⟩ := info_parts info_sl
 have hap2 : Hid (∀ ty W, Below w.heap.size w W → ∃ v' wC, (Builtin.append_ #[38, 38] ty #[.slice d na na, .slice d2 nb2 cb]).run Tryz.prog W = .ok v' wC ∧ Sl wC v' (uu ++ vs) ∧ Below W.heap.size W wC) := zH (by
  intro ty W hb
  by_cases hz : vs = []
  · subst hz
    exact ⟨_, W, run_append_nothing 38 ty 26 Tryz.underlying38 hi (Nat.le_refl _) (hv1.below hb), by rw [List.append_nil]; exact hu1.below hb, Below.refl _ _⟩
  · have hpos : 0 < vs.length := List.length_pos_iff.2 hz
    obtain ⟨v', wC, r1, r2, r3⟩ := run_append_new (P := Tryz.prog) 38 ty 26 Tryz.underlying38 hi hz0 hz1 hz2 rfl (hu1.below hb) (hv1.below hb) zOm hvo (by unfold maxLen; omega) zOm
    exact ⟨v', wC, r1, Sl.of_own r2, r3⟩)
 have hvs := zH hv1
 have hvl2 := zH hvl
 replace hvo := zH hvo
 clear hv1 hvl hvj hu1 hul huo huj h1 hs hna hi hz0 hz1 hz2
 go_enter Tryz.func193, Tryz.ntmps193
 go_upto_region 1 with fail
 refine wp_new1 (fun W hsz k4 kb => ?_)
 have k4 : Arr W w.heap.size (byts 0) := k4
 have h4 := kb.size
 clear hsz
 obtain ⟨v', wC, hr, hsl, hb1⟩ := hap2.out 38 W kb
 replace hr := zH hr
 go_wp2_with (at_builtin; refine wpList_append_run rfl _ _ 38 rfl rfl rfl hr.out ?_)
 replace k4 := k4.below hb1
 have hbC : Below w.heap.size w wC := bel kb hb1
 have hS := hap.out _ _ hbC hsl
 obtain ⟨aS, cS, rfl⟩ : ∃ aS cS, v' = .slice aS (al ++ ls).length cS := by
  obtain ⟨vs2, ⟨aS, cS, he, -⟩, hl2, -⟩ := hS
  exact ⟨aS, cS, by rw [he, hl2]⟩
 have cs := shsumb_any _ _ _ wC hS
 rw [hN] at cs
 replace cs := zH cs
 obtain ⟨n3, hn3⟩ : ∃ n, (al ++ ls).length = n := ⟨_, rfl⟩
 rw [hn3] at cs ⊢
 clear hS hn3 hsl hr hb1 hvs hap hvo hvl2 kb hap2 h4
 go_wp2_with fail
 refine cs.out.mono ?_
 rintro e wD ⟨rfl, hb⟩
 replace k4 := k4.below hb
 replace hbC : Below w.heap.size w wD := bel hbC hb
 clear hb cs
 go_upto_region 2 with (refine wpl_storeG rfl _ _ _ rfl _ (bytn 64 N) rfl rfl _ (Arr.new _ _ _) (by rw [bytn_len]; kernel_rfl) (by rw [bytn_len]; rfl) (bytn_one _ _) (fun wE k5 hg hsz => ?_))
 have hb := below_fresh hg
 have lt4 := k4.lt
 replace k4 := k4.below hb
 replace hbC : Below w.heap.size w wE := bel hbC hb
 obtain ⟨g5, hg5⟩ : ∃ g, wD.heap.size = g := ⟨_, rfl⟩
 rw [hg5] at k5 lt4 ⊢
 clear hb hg hsz hg5
 rw [bytn_u8s] at k5
 have cR := scReduce_any (some ⟨g5, 0, none⟩) 64 64 _ wE (Sl.ofArrN k5 (by simp [digs_len]) zDc)
 rw [val_bytn hNl] at cR
 replace cR := zH cR
 clear k5
 go_wp2_with fail
 refine cR.out.mono ?_
 rintro e wF ⟨rfl, hb⟩
 replace k4 := k4.below hb
 replace hbC : Below w.heap.size w wF := bel hbC hb
 clear hb cR
 go_wp2_with (refine zSt ?_)
 exact bodyPost_ret (results_arr2 Tryz.results193 _ _ _ rfl zKr _ (by first | assumption | exact Arr.setRow zAm _) zLn) rfl ⟨rfl, below_setRow hbC zOm _⟩
def sgL (R s : Nat) : List Value := byts R ++ byts s
theorem sgL_len (R s : Nat) : (sgL R s).length = 64 := by simp [sgL, byts_len]
theorem byts_nb (R : Nat) : byts R = u8s (nb 32 R) := nb_u8s 32 R
def Ph.sls (n : Nat) (ls : List (List UInt8)) : Ph := ⟨fun v w => ∃ d, v = .slice d n n ∧ Sls w v ls, fun _ _ _ ⟨d, h1, h2⟩ hb => ⟨d, h1, h2.below hb⟩, false, fun h => by cases h⟩
def seedN (K : Nat) : Nat := shab (nb 32 K)
def secN (K : Nat) : Nat := clampN (seedN K % 256 ^ 32)
theorem secN_lt (K : Nat) : secN K < 256 ^ 32 := Nat.lt_trans (clamp_lt _) zDc
def sideL (K : Nat) : List UInt8 := nb 32 (seedN K / 256 ^ 32)
def pubN (K : Nat) : Nat := encP (tmsP bP (secN K) 256)
theorem bytn64_lo {w : World} {k N : Nat} (h : Arr w k (bytn 64 N)) : w.rangeAt k 0 (byts (N % 256 ^ 32)) := h.range (fun j hj => bytn_part N j hj)
theorem bytn64_hi (N j : Nat) (hj : j < 32) : (bytn 64 N)[32 + j]? = (bytn 32 (N / 256 ^ 32))[j]? := by
 rw [bytn_get _ _ _ zOm, bytn_get _ _ _ hj, Nat.pow_add, ← Nat.div_div_eq_div_mul]
theorem csecret_any (K : Nat) (w : World) :
 Calls Tryz.prog 75 #[.agg (byts K).toArray] w fun e w' => ∃ g, e = .returned (.tuple #[.agg (byts (secN K)).toArray, .slice (some ⟨g, 32, none⟩) 32 32]) ∧ Sl w' (.slice (some ⟨g, 32, none⟩) 32 32) (u8s (sideL K)) ∧ Below w.heap.size w w' := by
 obtain ⟨N, hN⟩ : ∃ N, seedN K = N := ⟨_, rfl⟩
 have cS := zH (fun (w : World) g (h : Sls w (.slice (some ⟨g, 0, none⟩) 1 1) [nb 32 K]) => show Calls Tryz.prog 117 #[.slice (some ⟨g, 0, none⟩) 1 1] w fun e w' => e = .returned (.agg (bytn 64 N).toArray) ∧ Below w.heap.size w w' from by
  have q := shsumb_any (some ⟨g, 0, none⟩) 1 [nb 32 K] w h
  rw [show [nb 32 K].flatten = nb 32 K by simp, show shab (nb 32 K) = N from hN] at q
  exact q)
 have cC := zH (fun w => lclamp_any (N % 256 ^ 32) (Nat.mod_lt _ zDc) w)
 unfold secN sideL
 rw [hN]
 obtain ⟨A, hA⟩ : ∃ A, clampN (N % 256 ^ 32) = A := ⟨_, rfl⟩
 rw [hA] at cC ⊢
 clear hN hA
 go_enter Tryz.func75, Tryz.ntmps75
 go_upto_region 1 with fail
 refine wp_new2 (fun W hsz k1 k2 kb => ?_)
 replace k2 : Arr W (w.heap.size + 1) (byts 0) := k2
 have h1 := zH (show Sl W (.slice (some ⟨w.heap.size, 0, none⟩) 32 32) (u8s (nb 32 K)) from Sl.ofArrN (by rw [← byts_nb]; exact k1) (nb_len _ _) zDc)
 have kb2 := below_alloc W (.cells #[.slice (some ⟨w.heap.size, 0, none⟩) 32 32] 26)
 have h2 := zH (Sls.new1 h1.out 26)
 clear hsz h1 k1
 go_wp2_with fail
 refine (cS.out _ _ h2.out).mono ?_
 rintro e w1 ⟨rfl, hb⟩
 replace hb := bel kb2 hb
 replace k2 := k2.below hb
 replace kb := bel kb hb
 clear hb kb2 h2 cS
 go_upto_region 2 with (refine wpl_storeG rfl _ _ _ rfl _ (bytn 64 N) rfl rfl _ (Arr.new _ _ _) (by rw [bytn_len]; kernel_rfl) (by rw [bytn_len]; rfl) (bytn_one _ _) (fun wE k5 hg hsz => ?_))
 have hb := below_fresh hg
 have lt2 := k2.lt
 replace k2 := k2.below hb
 replace kb : Below w.heap.size w wE := bel kb hb
 obtain ⟨g5, hg5⟩ : ∃ g, w1.heap.size = g := ⟨_, rfl⟩
 rw [hg5] at k5 lt2 ⊢
 clear hb hg hsz hg5
 have hat2 : ∀ w o, (Instr.arrayAt 34 (.slice (some ⟨o, 0, none⟩) 32 64)).run Tryz.prog w = .ok (.pointer (some ⟨o, 0, none⟩)) w := fun w o => run_arrayAt w 34 5 32 _ 32 64 Tryz.underlying34 zDc
 refine Tx.start (fun w' => Below (wE).heap.size (wE) w') 5 7 rfl zKr ?_
 have hS_1 : Below (wE).heap.size (wE) (World.drew wE) := (Below.refl _ _).drew
 refine Tx.seg (A := ?_) 4 7 zKr (by exact hS_1) [0, 1, 2] zKr ?_ ?_
 rotate_left
 · intro w' hB
   have y5 := bytn64_lo (k5.below hB)
   exact zRm
 refine Tx.pure (A := ?_) 3 23 zKr (by exact hS_1) [4] zKr ?_ ?_
 rotate_left
 · intro w'
   iterate 1 (first | (refine rd_skip rfl rfl ?_; simp only [Act.put, zSa, zSz, zSs]) | (refine rd_take (v := ?_) rfl rfl ?_ ?_; rotate_left; (focus (go_simp; try (with_reducible rfl))); simp only [Act.put, zSa, zSz, zSs]))
   exact rd_nil
 refine Tx.eff 3 31 rfl zDk (fun K hK => ?_)
 go_simp
 refine (cC.out _).mono ?_
 rintro e w_2 ⟨rfl, hb_2⟩
 have hS_2 := ext_trans hS_1 (Nat.le_refl _) hb_2
 refine hK (fun w' => Below (wE).heap.size (wE) w') _ _ hS_2 (fun _ h => h) ?_
 clear hK K hb_2 hS_1
 try simp only [Act.put, zSa, zSz, zSs]
 have k2 := k2.below hS_2
 have k5 := k5.below hS_2
 have kb := bel kb hS_2
 refine Tx.bar 63 rfl zDk (fun K hK => ?_)
 refine step_store_arr rfl _ _ _ rfl _ _ rfl rfl _ zAm zLn zLm zOn ?_
 refine hK (fun _ => True) 9999 _ _ ?_
 clear hK K
 try simp only [Act.put]
 try simp only [zSa, zSz, zSs]
 refine Tx.seg (A := ?_) 0 127 zKr (by exact trivial) [6] zKr ?_ ?_
 rotate_left
 · intro w' hB
   exact zRd
 refine Tx.done zKr ?_
 refine then_row k2 (fun w_3 k2 hoth hbel => ?_)
 have k5 := hoth _ _ zOm k5
 have kb := hbel _ _ zOm kb
 clear hoth hbel
 go_wp2_with fail
 refine bodyPost_ret (results_arr_tmp Tryz.results75 _ _ _ _ rfl Tryz.underlying34 rfl _ k2 (by rw [byts_len]; kernel_rfl) _ rfl) rfl ⟨g5, rfl, ?_, kb⟩
 refine ⟨some ⟨g5, 32, none⟩, 32, by rw [u8s_len, nb_len], by rw [u8s_len, nb_len]; decide, by decide, fun h => (by cases h), fun x hx j u hu => ?_⟩
 cases hx
 rw [Addr.add_lit]
 rw [← nb_u8s] at hu
 have hj : j < 32 := by
  have := (List.getElem?_eq_some_iff.1 hu).1
  rwa [bytn_len] at this
 exact k5.cell (by rw [bytn64_hi N j hj]; exact hu)
theorem cpublic_any (K : Nat) (w : World) :
 Calls Tryz.prog 48 #[.agg (byts K).toArray] w fun e w' => e = .returned (.agg (byts (pubN K)).toArray) ∧ Below w.heap.size w w' := by
 have cS := zH (fun w => csecret_any K w)
 have lS := secN_lt K
 unfold pubN
 obtain ⟨A, hA⟩ : ∃ A, secN K = A := ⟨_, rfl⟩
 rw [hA] at lS ⊢
 simp only [hA] at cS
 have c0 := zH (fun w => pbase_any w)
 have c1 := zH (fun w => ptimes_any bP A bP_ok lS w)
 have c2 := zH (fun w => pbytes_any (tmsP bP A 256) (tmsP_ok _ _ _) w)
 obtain ⟨T, hT⟩ : ∃ P, tmsP bP A 256 = P := ⟨_, rfl⟩
 rw [hT] at c1 c2 ⊢
 obtain ⟨b, hb⟩ : ∃ b, bP = b := ⟨_, rfl⟩
 rw [hb] at c0 c1
 obtain ⟨E, hE⟩ : ∃ b, encP T = b := ⟨_, rfl⟩
 rw [hE] at c2 ⊢
 clear hA hT hb hE lS
 go_enter Tryz.func48, Tryz.ntmps48
 go_upto_region 1 with fail
 refine wp_new2 (fun W hsz k1 k2 kb => ?_)
 replace k2 : Arr W (w.heap.size + 1) (byts 0) := k2
 clear hsz
 go_wp2_with (refine zLd ?_)
 refine (cS.out _).mono ?_
 rintro e w1 ⟨g, rfl, -, hb⟩
 replace k2 := k2.below hb
 replace kb := bel kb hb
 clear hb k1 cS
 go_upto_region 2 with (refine wpl_storeG rfl _ _ _ rfl _ (byts A) rfl rfl _ (Arr.new _ _ _) (by rw [byts_len]; kernel_rfl) (by rw [byts_len]; rfl) (byts_one _) (fun wE k5 hg hsz => ?_))
 have hb := below_fresh hg
 have lt2 := k2.lt
 replace k2 := k2.below hb
 replace kb : Below w.heap.size w wE := bel kb hb
 obtain ⟨g5, hg5⟩ : ∃ g, w1.heap.size = g := ⟨_, rfl⟩
 rw [hg5] at k5 lt2 ⊢
 clear hb hg hsz hg5
 refine Tx.start (fun w' => Below (wE).heap.size (wE) w') 4 5 rfl zKr ?_
 have hS_4 : Below (wE).heap.size (wE) (World.drew wE) := (Below.refl _ _).drew
 refine Tx.seg (A := ?_) 4 2 zKr (by exact hS_4) [1] zKr ?_ ?_
 rotate_left
 · intro w' hB
   have y5 := k5.below hB
   exact zRd
 refine Tx.eff 0 3 rfl zDk (fun K hK => ?_)
 go_simp
 refine (c0.out _).mono ?_
 rintro e w_5 ⟨rfl, hb_5⟩
 have hS_5 := ext_trans hS_4 (Nat.le_refl _) hb_5
 refine hK (fun w' => Below (wE).heap.size (wE) w') _ _ hS_5 (fun _ h => h) ?_
 clear hK K hb_5 hS_4
 try simp only [Act.put, zSa, zSz, zSs]
 refine Tx.eff 2 7 rfl zDk (fun K hK => ?_)
 go_simp
 refine (c1.out _).mono ?_
 rintro e w_6 ⟨rfl, hb_6⟩
 have hS_6 := ext_trans hS_5 (Nat.le_refl _) hb_6
 refine hK (fun w' => Below (wE).heap.size (wE) w') _ _ hS_6 (fun _ h => h) ?_
 clear hK K hb_6 hS_5
 try simp only [Act.put, zSa, zSz, zSs]
 refine Tx.eff 3 15 rfl zDk (fun K hK => ?_)
 go_simp
 refine (c2.out _).mono ?_
 rintro e w_7 ⟨rfl, hb_7⟩
 have hS_7 := ext_trans hS_6 (Nat.le_refl _) hb_7
 refine hK (fun w' => Below (wE).heap.size (wE) w') _ _ hS_7 (fun _ h => h) ?_
 clear hK K hb_7 hS_6
 try simp only [Act.put, zSa, zSz, zSs]
 have k2 := k2.below hS_7
 have kb := bel kb hS_7
 refine Tx.bar 31 rfl zDk (fun K hK => ?_)
 refine step_store_arr rfl _ _ _ rfl _ _ rfl rfl _ zAm zLn zLm zOn ?_
 refine hK (fun _ => True) 9999 _ _ ?_
 clear hK K
 try simp only [Act.put]
 try simp only [zSa, zSz, zSs]
 refine Tx.done zKr ?_
 refine then_row k2 (fun w_8 k2 hoth hbel => ?_)
 have kb := hbel _ _ zOm kb
 clear hoth hbel
 go_wp2_with fail
 exact bodyPost_ret (results_arr2 Tryz.results48 _ _ _ rfl zKr _ k2 (by rw [byts_len]; kernel_rfl)) rfl ⟨rfl, kb⟩
def erB (b : List UInt8) (o : Nat) : Nat → List UInt8
 | 0 => b
 | j + 1 => (erB b o j).set (o + j) 255
theorem erB_len (b : List UInt8) (o : Nat) : ∀ j, (erB b o j).length = b.length
 | 0 => rfl
 | j + 1 => by rw [erB, List.length_set, erB_len b o j]
def prB (b : List UInt8) (o : Nat) (xs : List UInt8) : Nat → List UInt8
 | 0 => b
 | j + 1 => (prB b o xs j).set (o + j) ((prB b o xs j).getD (o + j) 0 &&& xs.getD j 0)
theorem prB_len (b : List UInt8) (o : Nat) (xs : List UInt8) : ∀ j, (prB b o xs j).length = b.length
 | 0 => rfl
 | j + 1 => by rw [prB, List.length_set, prB_len b o xs j]
theorem FlAt.byte {w : World} {p g : Nat} {F : Fl} (h : FlAt w p g F) (j : Nat) (x : UInt8) (hj : j < F.b.length) : FlAt (w.setCell ⟨g, j, none⟩ (.int .u8 (x.toNat : Int))) p g { F with b := F.b.set j x } ∧ Ch [p, g] w (w.setCell ⟨g, j, none⟩ (.int .u8 (x.toNat : Int))) := by
 obtain ⟨h1, ⟨pad, h2⟩, h3, h4, h5, h6⟩ := h
 refine ⟨⟨?_, ⟨pad, ?_⟩, h3, by rw [List.length_set]; exact h4, h5, h6⟩, Ch.of_gr (gr_cell w g j _) (by simp)⟩
 · have e : flv g { F with b := F.b.set j x } = flv g F := by simp [flv]
   rw [e]
   exact h1.other (a := ⟨g, j, none⟩) h3 _
 · have := h2.set j (.int .u8 (x.toNat : Int))
   rw [List.set_append_left _ _ (by rw [u8s_len]; exact hj)] at this
   have e : (u8s F.b).set j (.int .u8 (x.toNat : Int)) = u8s (F.b.set j x) := by simp [u8s, List.map_set]
   rwa [e] at this
theorem FlAt.cellb {w : World} {p g : Nat} {F : Fl} (h : FlAt w p g F) (j : Nat) (hj : j < F.b.length) : w.cell? ⟨g, j, none⟩ = some (.int .u8 ((F.b[j]).toNat : Int)) ∧ w.frozen? ⟨g, j, none⟩ = false := by
 obtain ⟨-, ⟨pad, h2⟩, -, -, -, -⟩ := h
 exact ⟨h2.cell (by rw [List.getElem?_append_left (by rw [u8s_len]; exact hj), u8s_get _ _ hj]), h2.frozen _⟩
theorem FlAt.v0 {w : World} {p g : Nat} {F : Fl} (h : FlAt w p g F) : w.cell? ⟨p, 0, none⟩ = some (.slice (some ⟨g, 0, none⟩) F.b.length F.b.length) := h.st.cell (j := 0) rfl
theorem ferase_never (p g s : Nat) (F : Fl) (w : World) (k0 : FlAt w p g F) (hop : F.op = -1) (hd : F.dead = false) (hs : 256 * s + 256 ≤ F.b.length) :
 Calls Tryz.prog 278 #[.pointer (some ⟨p, 0, none⟩), .int .i64 (s : Int)] w fun e w' => e = .returned (.bool true) ∧ (∃ er, FlAt w' p g { F with b := erB F.b (256 * s) 256, er := er }) ∧ Ch [p, g] w w' := by
 obtain ⟨⟨v0, v1, v2, v3, v4, v5⟩, ⟨f0, f1, f2, f3, f4, f5⟩⟩ : (w.cell? ⟨p, 0, none⟩ = some (.slice (some ⟨g, 0, none⟩) F.b.length F.b.length) ∧ w.cell? ⟨p, 1, none⟩ = some (.int .i64 F.op) ∧ w.cell? ⟨p, 2, none⟩ = some (.int .i64 F.cut) ∧ w.cell? ⟨p, 3, none⟩ = some (.bool F.dead) ∧ w.cell? ⟨p, 4, none⟩ = some (.int .i64 F.er) ∧ w.cell? ⟨p, 5, none⟩ = some (.int .i64 F.pr)) ∧
  (w.frozen? ⟨p, 0, none⟩ = false ∧ w.frozen? ⟨p, 1, none⟩ = false ∧ w.frozen? ⟨p, 2, none⟩ = false ∧ w.frozen? ⟨p, 3, none⟩ = false ∧ w.frozen? ⟨p, 4, none⟩ = false ∧ w.frozen? ⟨p, 5, none⟩ = false) :=
  ⟨⟨k0.st.cell (j := 0) rfl, k0.st.cell (j := 1) rfl, k0.st.cell (j := 2) rfl, k0.st.cell (j := 3) rfl, k0.st.cell (j := 4) rfl, k0.st.cell (j := 5) rfl⟩, ⟨k0.st.frozen _, k0.st.frozen _, k0.st.frozen _, k0.st.frozen _, k0.st.frozen _, k0.st.frozen _⟩⟩
 rw [hd] at v3
 have c1 := zH (fsize_any p g F w k0)
 have c2 := zH (show Calls Tryz.prog 309 #[.pointer (some ⟨p, 0, none⟩), .int .i64 256] w _ from fop_never p g 256 F w k0 hop)
 have hl := k0.len
 have s0 : (0 : Int) ≤ (s : Int) := by omega
 have s1 : (s : Int) < ((F.b.length / 256 : Nat) : Int) := by omega
 obtain ⟨q, hq⟩ : ∃ q, F.b.length / 256 = q := ⟨_, rfl⟩
 rw [hq] at c1 s1
 obtain ⟨o, ho⟩ : ∃ o, 256 * s = o := ⟨_, rfl⟩
 rw [ho] at hs ⊢
 have hoI : (s : Int) * 256 = (o : Int) := by omega
 have o0 : (0 : Int) ≤ (o : Int) := by omega
 have o1 : (o : Int) ≤ 261888 := by omega
 have hsH := zH hs
 have s2 : (s : Int) ≤ 1024 := by omega
 clear ho hq v0 v1 v2 v4 v5 f0 f1 f2 f3 f4 f5 k0 hd hs hl
 replace hop := zH hop
 go_enter Tryz.func278, Tryz.ntmps278
 go_wp2_with fail
 refine c1.out.mono ?_
 rintro e w1 ⟨rfl, hw⟩
 obtain rfl : w = w1 := hw.symm
 clear c1
 go_wp2_with fail
 refine c2.out.mono ?_
 rintro e w2 ⟨rfl, k0, hc⟩
 replace hc : Ch [p, g] w w2 := hc.mono (by simp)
 have hw0 := k0.lt
 clear c2
 go_wp2_with fail
 go_loopw [31] (fun iv wr => ∃ i : Nat, i ≤ 256 ∧ iv = .int .i64 i ∧ FlAt wr p g { F with b := erB F.b o i } ∧ Ch [p, g] w wr) (fun iv _ => 256 - (intOf iv).toNat)
 case atStart => exact ⟨0, by omega, rfl, k0, hc⟩
 case round =>
 clear k0 hc
 obtain ⟨i, hi, rfl, k0, hc⟩ := hrel
 have hi0 : (0 : Int) ≤ (i : Int) := by omega
 by_cases hin : i < 256
 · have hi1 : (i : Int) < 256 := by omega
   have hv0 := k0.v0
   rw [show ({ F with b := erB F.b o i } : Fl).b.length = F.b.length from erB_len _ _ _] at hv0
   obtain ⟨hcb, hfb⟩ := k0.cellb (o + i) (by show o + i < (erB F.b o i).length; rw [erB_len]; have := hsH.out; omega)
   generalize ((({ F with b := erB F.b o i } : Fl).b)[o + i]'_).toNat = y at hcb
   obtain ⟨L, hL⟩ : ∃ L, F.b.length = L := ⟨_, rfl⟩
   rw [hL] at hv0
   have hoi : (o : Int) + (i : Int) < (L : Int) := by have := hsH.out; omega
   obtain ⟨m, hm⟩ : ∃ m, o + i = m := ⟨_, rfl⟩
   have hmI : (o : Int) + (i : Int) = (m : Int) := by omega
   have hm0 : (0 : Int) ≤ (m : Int) := by omega
   have hm1 : (m : Int) < (L : Int) := by omega
   rw [hm] at hcb hfb
   have hLH := zH hL
   have hmH := zH hm
   clear hL hm
   go_wp2_with fail
   obtain ⟨k1, hc1⟩ := k0.byte m 255 (by show m < (erB F.b o i).length; rw [erB_len, hLH.out]; omega)
   have e1 : ({ F with b := (erB F.b o i).set m 255 } : Fl) = { F with b := erB F.b o (i + 1) } := by rw [erB, hmH.out]
   exact ⟨⟨i + 1, by omega, by go_num, by rw [← e1]; exact k1, hc.trans hc1⟩, by simp [intOf]; omega⟩
 · have dj : decide ((i : Int) < 256) = false := decide_eq_false zOm
   have hie : Hid (i = 256) := zH zOm
   rw [hie.out] at k0
   obtain ⟨G, hG⟩ : ∃ G : Fl, ({ F with b := erB F.b o 256 } : Fl) = G := ⟨_, rfl⟩
   have hv4 := k0.st.cell (j := 4) rfl
   have hf4 := k0.st.frozen 4
   have hE := k0.er
   rw [hG] at k0 hv4 hE
   obtain ⟨E, hEe⟩ : ∃ E, G.er = E := ⟨_, rfl⟩
   rw [hEe] at hv4 hE
   obtain ⟨hE0, hE1⟩ := hE
   have hGe : Hid (∀ er, ({ F with b := erB F.b o 256, er := er } : Fl) = { G with er := er }) := zH (fun er => by rw [← hG])
   replace hEe := zH hEe
   clear hG hie hi hin hi0 v3 s0 s1 hoI o0 o1 s2
   obtain ⟨ic, hic⟩ : ∃ ic : Int, (i : Int) = ic := ⟨_, rfl⟩
   rw [hic] at dj ⊢
   clear hic
   replace k0 := zH k0
   replace hc := zH hc
   by_cases hEl : E < 1099511627776
   · have e1 : E + 1 ≤ 1099511627776 := by omega
     have e2 : ¬ 1099511627776 < E + 1 := by omega
     go_wp2_with fail
     go_ret
     refine ⟨rfl, ⟨E + 1, ?_⟩, hc.out.trans (Ch.of_gr (gr_cell _ p 4 _) (by simp))⟩
     rw [hGe.out]
     obtain ⟨h1, ⟨pad, h2⟩, h3, h4, h5, h6⟩ := k0.out
     exact ⟨h1.set 4 (.int .i64 (E + 1)), ⟨pad, h2.other (a := ⟨p, 4, none⟩) (Ne.symm h3) _⟩, h3, h4, ⟨by show 0 ≤ E + 1; omega, e1⟩, h6⟩
   · obtain rfl : E = 1099511627776 := by omega
     go_wp2_with fail
     go_ret
     refine ⟨rfl, ⟨1099511627776, ?_⟩, hc.out.trans (Ch.of_gr (gr_cell _ p 4 _) (by simp))⟩
     rw [hGe.out]
     obtain ⟨h1, ⟨pad, h2⟩, h3, h4, h5, h6⟩ := k0.out
     exact ⟨h1.set 4 (.int .i64 1099511627776), ⟨pad, h2.other (a := ⟨p, 4, none⟩) (Ne.symm h3) _⟩, h3, h4, ⟨by simp, by simp⟩, h6⟩
theorem and_u8c {a b : Nat} (ha : a < 256) (hb : b < 256) : bits .and .u8 (a : Int) (b : Int) = ((a &&& b : Nat) : Int) := by
 have h8 : ∀ {a : Nat}, a < 256 → (BitVec.ofInt 8 (a : Int)).toNat = a := fun h => by
  rw [BitVec.ofInt_natCast, BitVec.toNat_ofNat]
  exact Nat.mod_eq_of_lt h
 show IntKind.u8.wrap ((BitVec.ofInt 8 (a : Int) &&& BitVec.ofInt 8 (b : Int)).toNat : Int) = _
 rw [BitVec.toNat_and, h8 ha, h8 hb, u8_mod, Nat.mod_eq_of_lt (Nat.lt_of_le_of_lt Nat.and_le_left ha)]
theorem fprogram_never (p g o : Nat) (F : Fl) (a : Option Addr) (c : Nat) (xs : List UInt8) (w : World) (k0 : FlAt w p g F) (hop : F.op = -1) (hd : F.dead = false) (ho : o + xs.length ≤ F.b.length) (hx0 : 0 < xs.length) (hsl : Sl w (.slice a xs.length c) (u8s xs)) (hv : ∀ x, a = some x → x.block ≠ p ∧ x.block ≠ g) :
 Calls Tryz.prog 279 #[.pointer (some ⟨p, 0, none⟩), .int .i64 (o : Int), .slice a xs.length c] w fun e w' => e = .returned (.bool true) ∧ (∃ pr, FlAt w' p g { F with b := prB F.b o xs xs.length, pr := pr }) ∧ Ch [p, g] w w' := by
 obtain ⟨⟨v0, v1, v2, v3, v4, v5⟩, ⟨f0, f1, f2, f3, f4, f5⟩⟩ : (w.cell? ⟨p, 0, none⟩ = some (.slice (some ⟨g, 0, none⟩) F.b.length F.b.length) ∧ w.cell? ⟨p, 1, none⟩ = some (.int .i64 F.op) ∧ w.cell? ⟨p, 2, none⟩ = some (.int .i64 F.cut) ∧ w.cell? ⟨p, 3, none⟩ = some (.bool F.dead) ∧ w.cell? ⟨p, 4, none⟩ = some (.int .i64 F.er) ∧ w.cell? ⟨p, 5, none⟩ = some (.int .i64 F.pr)) ∧
  (w.frozen? ⟨p, 0, none⟩ = false ∧ w.frozen? ⟨p, 1, none⟩ = false ∧ w.frozen? ⟨p, 2, none⟩ = false ∧ w.frozen? ⟨p, 3, none⟩ = false ∧ w.frozen? ⟨p, 4, none⟩ = false ∧ w.frozen? ⟨p, 5, none⟩ = false) :=
  ⟨⟨k0.st.cell (j := 0) rfl, k0.st.cell (j := 1) rfl, k0.st.cell (j := 2) rfl, k0.st.cell (j := 3) rfl, k0.st.cell (j := 4) rfl, k0.st.cell (j := 5) rfl⟩, ⟨k0.st.frozen _, k0.st.frozen _, k0.st.frozen _, k0.st.frozen _, k0.st.frozen _, k0.st.frozen _⟩⟩
 rw [hd] at v3
 obtain ⟨n, hn⟩ : ∃ n, xs.length = n := ⟨_, rfl⟩
 rw [hn] at ho hx0 hsl ⊢
 have c1 := zH (fis_yes p g o n F w k0 ho)
 have c2 := zH (show Calls Tryz.prog 309 #[.pointer (some ⟨p, 0, none⟩), .int .i64 (n : Int)] w _ from fop_never p g n F w k0 hop)
 have hl := k0.len
 have o0 : (0 : Int) ≤ (o : Int) := by omega
 have o1 : (o : Int) ≤ 262144 := by omega
 have n0 : (0 : Int) < (n : Int) := by omega
 have n1 : (n : Int) ≤ 262144 := by omega
 have hnc : n ≤ c ∧ c ≤ maxLen := by have := hsl.len; exact ⟨this.2.1, this.2.2⟩
 have hvn : (n : Int) ≤ (c : Int) := by omega
 replace ho := zH ho
 replace hn := zH hn
 replace hsl := zH hsl
 replace hv := zH hv
 replace hnc := zH hnc
 clear v0 v1 v2 v4 v5 f0 f1 f2 f3 f4 f5 k0 hd hl hx0
 replace hop := zH hop
 go_enter Tryz.func279, Tryz.ntmps279
 go_wp2_with fail
 refine c1.out.mono ?_
 rintro e w1 ⟨rfl, hw⟩
 obtain rfl : w = w1 := hw.symm
 clear c1
 go_wp2_with fail
 refine c2.out.mono ?_
 rintro e w2 ⟨rfl, k0, hc⟩
 replace hc : Ch [p, g] w w2 := hc.mono (by simp)
 clear c2
 go_wp2_with fail
 go_loopw [34] (fun iv wr => ∃ i : Nat, i ≤ n ∧ iv = .int .i64 i ∧ FlAt wr p g { F with b := prB F.b o xs i } ∧ Ch [p, g] w wr) (fun iv _ => n - (intOf iv).toNat)
 case atStart => exact ⟨0, by omega, rfl, k0, hc⟩
 case round =>
 clear k0 hc
 obtain ⟨i, hi, rfl, k0, hc⟩ := hrel
 have hi0 : (0 : Int) ≤ (i : Int) := by omega
 by_cases hin : i < n
 · have hi1 : (i : Int) < (n : Int) := by omega
   have hin2 : i < xs.length := by rw [hn.out]; exact hin
   have hS2 := hsl.out.ch hc (fun x m cc e => by
    simp only [Value.slice.injEq] at e
    have := hv.out x e.1
    simp
    exact this)
   obtain ⟨b2, o2, rfl, -, -, -, hcc⟩ := hS2.at (by rw [u8s_len]; omega)
   have hcx := hcc i _ (u8s_get xs i hin2)
   obtain ⟨x, hx⟩ : ∃ x, (xs[i]).toNat = x := ⟨_, rfl⟩
   have lx : x < 256 := by rw [← hx]; exact (xs[i]).toNat_lt
   rw [hx] at hcx
   have hv0 := k0.v0
   rw [show ({ F with b := prB F.b o xs i } : Fl).b.length = F.b.length from prB_len _ _ _ _] at hv0
   have hml : o + i < (prB F.b o xs i).length := by rw [prB_len]; have := ho.out; omega
   obtain ⟨hcb, hfb⟩ := k0.cellb (o + i) hml
   replace hcb : wr.cell? ⟨g, o + i, none⟩ = some (.int .u8 (((prB F.b o xs i)[o + i]).toNat : Int)) := hcb
   obtain ⟨y, hy⟩ : ∃ y, ((prB F.b o xs i)[o + i]).toNat = y := ⟨_, rfl⟩
   have ly : y < 256 := by rw [← hy]; exact ((prB F.b o xs i)[o + i]).toNat_lt
   have hz : Hid ((prB F.b o xs i).set (o + i) (UInt8.ofNat (y &&& x)) = prB F.b o xs (i + 1)) := zH (by
    rw [prB, List.getD_eq_getElem?_getD, List.getElem?_eq_getElem hml, List.getD_eq_getElem?_getD, List.getElem?_eq_getElem hin2, Option.getD_some, Option.getD_some, ← hx, ← hy, ← UInt8.toNat_and]
    simp)
   rw [hy] at hcb
   have fa := and_u8c ly lx
   obtain ⟨z, hze⟩ : ∃ z, y &&& x = z := ⟨_, rfl⟩
   have lz : z < 256 := by rw [← hze]; exact Nat.lt_of_le_of_lt Nat.and_le_left ly
   rw [hze] at fa hz
   obtain ⟨L, hL⟩ : ∃ L, F.b.length = L := ⟨_, rfl⟩
   rw [hL] at hv0
   obtain ⟨m, hm⟩ : ∃ m, o + i = m := ⟨_, rfl⟩
   have hmI : (o : Int) + (i : Int) = (m : Int) := by omega
   have hm0 : (0 : Int) ≤ (m : Int) := by omega
   have hm1 : (m : Int) < (L : Int) := by have := ho.out; omega
   rw [hm] at hcb hfb hz hml
   have hLH := zH hL
   have hmlH := zH hml
   clear hL hm hx hy hze hcc hml hin2 hS2
   go_wp2_with fail
   obtain ⟨k1, hc1⟩ := k0.byte m (UInt8.ofNat z) hmlH.out
   have e0 : ((UInt8.ofNat z).toNat : Int) = (z : Int) := by rw [UInt8.toNat_ofNat', Nat.mod_eq_of_lt lz]
   rw [e0] at k1 hc1
   have e1 : ({ F with b := (prB F.b o xs i).set m (UInt8.ofNat z) } : Fl) = { F with b := prB F.b o xs (i + 1) } := by rw [hz.out]
   exact ⟨⟨i + 1, by omega, by go_num, by rw [← e1]; exact k1, hc.trans hc1⟩, by simp [intOf]; omega⟩
 · have dj : decide ((i : Int) < (n : Int)) = false := decide_eq_false zOm
   have hie : Hid (i = n) := zH zOm
   rw [hie.out] at k0
   obtain ⟨G, hG⟩ : ∃ G : Fl, ({ F with b := prB F.b o xs n } : Fl) = G := ⟨_, rfl⟩
   have hv4 := k0.st.cell (j := 5) rfl
   have hf4 := k0.st.frozen 5
   have hE := k0.pr
   rw [hG] at k0 hv4 hE
   obtain ⟨E, hEe⟩ : ∃ E, G.pr = E := ⟨_, rfl⟩
   rw [hEe] at hv4 hE
   obtain ⟨hE0, hE1⟩ := hE
   have hGe : Hid (∀ er : Int, ({ F with b := prB F.b o xs n, pr := er } : Fl) = { G with pr := er }) := zH (fun er => by rw [← hG])
   replace hEe := zH hEe
   clear hG hie hi hin hi0 v3 o0 o1 hsl n0 n1 hvn
   obtain ⟨ic, hic⟩ : ∃ ic : Int, (i : Int) = ic := ⟨_, rfl⟩
   rw [hic] at dj ⊢
   clear hic
   replace k0 := zH k0
   replace hc := zH hc
   by_cases hEl : E < 1099511627776
   · have e1 : E + 1 ≤ 1099511627776 := by omega
     have e2 : ¬ 1099511627776 < E + 1 := by omega
     go_wp2_with fail
     go_ret
     refine ⟨rfl, ⟨E + 1, ?_⟩, hc.out.trans (Ch.of_gr (gr_cell _ p 5 _) (by simp))⟩
     rw [hGe.out]
     obtain ⟨h1, ⟨pad, h2⟩, h3, h4, h5, h6⟩ := k0.out
     exact ⟨h1.set 5 (.int .i64 (E + 1)), ⟨pad, h2.other (a := ⟨p, 5, none⟩) (Ne.symm h3) _⟩, h3, h4, h5, ⟨by show 0 ≤ E + 1; omega, e1⟩⟩
   · obtain rfl : E = 1099511627776 := by omega
     go_wp2_with fail
     go_ret
     refine ⟨rfl, ⟨1099511627776, ?_⟩, hc.out.trans (Ch.of_gr (gr_cell _ p 5 _) (by simp))⟩
     rw [hGe.out]
     obtain ⟨h1, ⟨pad, h2⟩, h3, h4, h5, h6⟩ := k0.out
     exact ⟨h1.set 5 (.int .i64 1099511627776), ⟨pad, h2.other (a := ⟨p, 5, none⟩) (Ne.symm h3) _⟩, h3, h4, h5, ⟨by simp, by simp⟩⟩
def otv (x : Option Addr) (r s : Nat) (c m : Int) : List Value   := .pointer x :: (bytn 32 r ++ (bytn 32 s ++ [.int .i64 c, .int .i64 m]))
theorem otv_r {fv : Option Addr} {r s : Nat} {c m : Int} {j : Nat} (hj : j < (bytn 32 r).length) : (otv fv r s c m)[1 + j]? = (bytn 32 r)[j]? := by
 rw [otv, Nat.add_comm 1 j, List.getElem?_cons_succ, List.getElem?_append_left hj]
theorem otv_s {fv : Option Addr} {r s : Nat} {c m : Int} {j : Nat} (hj : j < (bytn 32 s).length) : (otv fv r s c m)[33 + j]? = (bytn 32 s)[j]? := by
 rw [otv, show 33 + j = (32 + j) + 1 by omega, List.getElem?_cons_succ, List.getElem?_append_right (by rw [bytn_len]; omega), bytn_len, show 32 + j - 32 = j by omega, List.getElem?_append_left hj]
theorem otv_c (fv : Option Addr) (r s : Nat) (c m : Int) : (otv fv r s c m)[65]? = some (.int .i64 c) ∧ (otv fv r s c m)[66]? = some (.int .i64 m) := by
 constructor
 · rw [otv, show (65 : Nat) = 64 + 1 from rfl, List.getElem?_cons_succ, List.getElem?_append_right (by rw [bytn_len]; omega), bytn_len, List.getElem?_append_right (by rw [bytn_len]; omega), bytn_len]; rfl
 · rw [otv, show (66 : Nat) = 65 + 1 from rfl, List.getElem?_cons_succ, List.getElem?_append_right (by rw [bytn_len]; omega), bytn_len, List.getElem?_append_right (by rw [bytn_len]; omega), bytn_len]; rfl
theorem otv_set (fv : Option Addr) (r s : Nat) (c m c' : Int) : (otv fv r s c m).set 65 (.int .i64 c') = otv fv r s c' m := by
 rw [otv, otv, show (65 : Nat) = 64 + 1 from rfl, List.set_cons_succ, List.set_append_right _ _ (by rw [bytn_len]; omega), bytn_len, List.set_append_right _ _ (by rw [bytn_len]; omega), bytn_len]; rfl
theorem onew_any (fv : Option Addr) (r s n : Nat) (h0 : 0 < n) (hn : n ≤ 1000000) (w : World) :
 Calls Tryz.prog 47 #[.pointer fv, .agg (bytn 32 r).toArray, .agg (bytn 32 s).toArray, .int .i64 (n : Int)] w fun e w' => ∃ q, e = .returned (.pointer (some ⟨q, 0, none⟩)) ∧ w.heap.size ≤ q ∧ Arr w' q (otv fv r s 0 (n : Int)) ∧ Below w.heap.size w w' := by
 have n0 : (0 : Int) < (n : Int) := by omega
 have n1 : (n : Int) ≤ 1000000 := by omega
 obtain ⟨X, hX⟩ : ∃ X, otv fv r s 0 (n : Int) = X := ⟨_, rfl⟩
 rw [hX]
 replace hX := zH hX
 go_enter Tryz.func47, Tryz.ntmps47
 go_upto_region 1 with fail
 refine wp_new2 (fun W hsz k5 k6 kb => ?_)
 replace k5 : Arr W w.heap.size (bytn 32 r) := k5
 replace k6 : Arr W (w.heap.size + 1) (bytn 32 s) := k6
 clear hsz
 go_wp2_with (first | (refine wpList_load_arr2 rfl _ _ rfl _ rfl zDk _ k5 (by rw [bytn_len]; kernel_rfl) ?_) | (refine wpList_load_arr2 rfl _ _ rfl _ rfl zDk _ k6 (by rw [bytn_len]; kernel_rfl) ?_) | (refine wpList_builta rfl _ _ rfl (otv fv r s 0 (n : Int)).toArray zKr ?_; rw [hX.out]))
 go_ret
 exact ⟨_, rfl, kb.size, Arr.new _ _ _, bel kb (below_alloc _ _)⟩
theorem oroot_any (q : Nat) (fv : Option Addr) (r s : Nat) (c m : Int) (w : World) (k0 : Arr w q (otv fv r s c m)) :
 Calls Tryz.prog 132 #[.pointer (some ⟨q, 0, none⟩)] w fun e w' => e = .returned (.agg (bytn 32 r).toArray) ∧ Below w.heap.size w w' := by
 have hr : Hid (∀ w', Arr w' q (otv fv r s c m) → w'.rangeAt q 1 (bytn 32 r)) := zH (fun w' h => h.range (fun j hj => otv_r hj))
 go_enter Tryz.func132, Tryz.ntmps132
 go_upto_region 1 with fail
 refine wp_new1 (fun W hsz k2 kb => ?_)
 replace k2 : Arr W w.heap.size (bytn 32 0) := k2
 have hr1 := hr.out W (k0.below kb)
 clear hsz k0 hr
 go_wp2_with (first | (refine wpList_load_mid2 rfl _ _ rfl _ _ rfl zKr _ hr1 (by rw [bytn_len]; kernel_rfl) ?_) | (refine wpl_storeG rfl _ _ _ rfl _ (bytn 32 r) rfl rfl _ k2 (by rw [bytn_len]; kernel_rfl) (by rw [bytn_len, bytn_len]) (bytn_one _ _) (fun w9 k2 hg hsz => ?_)))
 have qb := below_gr kb hg (Nat.le_refl _) kb.size
 exact bodyPost_ret (results_arr2 Tryz.results132 _ _ _ rfl zKr _ k2 (by rw [bytn_len]; kernel_rfl)) rfl ⟨rfl, qb⟩
theorem osecret_any (q : Nat) (fv : Option Addr) (r s : Nat) (c m : Int) (w : World) (k0 : Arr w q (otv fv r s c m)) :
 Calls Tryz.prog 133 #[.pointer (some ⟨q, 0, none⟩)] w fun e w' => e = .returned (.agg (bytn 32 s).toArray) ∧ Below w.heap.size w w' := by
 have hr : Hid (∀ w', Arr w' q (otv fv r s c m) → w'.rangeAt q 33 (bytn 32 s)) := zH (fun w' h => h.range (fun j hj => otv_s hj))
 go_enter Tryz.func133, Tryz.ntmps133
 go_upto_region 1 with fail
 refine wp_new1 (fun W hsz k2 kb => ?_)
 replace k2 : Arr W w.heap.size (bytn 32 0) := k2
 have hr1 := hr.out W (k0.below kb)
 clear hsz k0 hr
 go_wp2_with (first | (refine wpList_load_mid2 rfl _ _ rfl _ _ rfl zKr _ hr1 (by rw [bytn_len]; kernel_rfl) ?_) | (refine wpl_storeG rfl _ _ _ rfl _ (bytn 32 s) rfl rfl _ k2 (by rw [bytn_len]; kernel_rfl) (by rw [bytn_len, bytn_len]) (bytn_one _ _) (fun w9 k2 hg hsz => ?_)))
 have qb := below_gr kb hg (Nat.le_refl _) kb.size
 exact bodyPost_ret (results_arr2 Tryz.results133 _ _ _ rfl zKr _ k2 (by rw [bytn_len]; kernel_rfl)) rfl ⟨rfl, qb⟩
theorem ocount_any (q : Nat) (fv : Option Addr) (r s : Nat) (c m : Int) (w : World) (k0 : Arr w q (otv fv r s c m)) :
 Calls Tryz.prog 62 #[.pointer (some ⟨q, 0, none⟩)] w fun e w' => e = .returned (.int .i64 c) ∧ w' = w := by
 have hc := k0.cell (otv_c fv r s c m).1
 clear k0
 go_enter Tryz.func62, Tryz.ntmps62
 go_wp2_with fail
 go_ret
 exact ⟨rfl, rfl⟩
theorem omost_any (q : Nat) (fv : Option Addr) (r s : Nat) (c m : Int) (w : World) (k0 : Arr w q (otv fv r s c m)) :
 Calls Tryz.prog 226 #[.pointer (some ⟨q, 0, none⟩)] w fun e w' => e = .returned (.int .i64 m) ∧ w' = w := by
 have hc := k0.cell (otv_c fv r s c m).2
 clear k0
 go_enter Tryz.func226, Tryz.ntmps226
 go_wp2_with fail
 go_ret
 exact ⟨rfl, rfl⟩
theorem ostep_never (q p g r s c m : Nat) (F : Fl) (w : World) (k0 : Arr w q (otv (some ⟨p, 0, none⟩) r s c m)) (kf : FlAt w p g F) (hop : F.op = -1) (hd : F.dead = false) (hcm : c < m) (hm : m ≤ 1000000) (hqp : q ≠ p) (hqg : q ≠ g) :
 Calls Tryz.prog 228 #[.pointer (some ⟨q, 0, none⟩)] w fun e w' => e = .returned (.int .i64 0) ∧ Arr w' q (otv (some ⟨p, 0, none⟩) r s ((c + 1 : Nat) : Int) m) ∧ FlAt w' p g F ∧ Ch [p, q] w w' := by
 obtain ⟨e1, e2⟩ := otv_c (some ⟨p, 0, none⟩) r s c m
 have e0 : (otv (some ⟨p, 0, none⟩) r s c m)[0]? = some (.pointer (some ⟨p, 0, none⟩)) := rfl
 replace e0 := zH e0
 replace e1 := zH e1
 replace e2 := zH e2
 have hset := zH (otv_set (some ⟨p, 0, none⟩) r s (c : Int) m ((c + 1 : Nat) : Int))
 have hne : ((c : Int) == (m : Int)) = false := by simp; omega
 have hc1 : (c : Int) < 1000000 := by omega
 have hc0 : (0 : Int) ≤ (c : Int) := by omega
 clear hcm hm
 replace hop := zH hop
 replace hd := zH hd
 go_enter Tryz.func228, Tryz.ntmps228
 go_upto_region 1 with fail
 refine Tx.start (fun w' => Below (w).heap.size (w) w') 9999 10 rfl zKr ?_
 have hS_1 : Below (w).heap.size (w) (World.drew w) := (Below.refl _ _).drew
 refine Tx.seg (A := ?_) 0 1023 zKr (by exact hS_1) [0, 1, 2, 3, 4, 5, 6, 7, 8, 9] zKr ?_ ?_
 rotate_left
 · intro w' hB
   have f1 := (k0.below hB).cell e1.out
   have f2 := (k0.below hB).cell e2.out
   exact zRd
 refine Tx.done zKr ?_
 have hch := Ch.of_below (M := [p, q]) hS_1
 replace k0 := k0.below hS_1
 replace kf := kf.below hS_1
 clear hS_1 hne e2
 obtain ⟨wq, hwq⟩ : ∃ wq : World, w.drew = wq := ⟨_, rfl⟩
 rw [hwq] at k0 kf hch ⊢
 clear hwq
 have c1 := zH (fturn_never p g F wq kf hop.out hd.out)
 have h0 := k0.cell e0.out
 go_wp2_with fail
 refine c1.out.mono ?_
 rintro e w1 ⟨rfl, kf1, hc⟩
 replace k0 := k0.ch hc (by simp; exact hqp)
 replace hch := hch.trans (hc.mono (by simp))
 clear c1 hc h0 kf
 have h1 := k0.cell e1.out
 have h2 := k0.frozen 65
 go_wp2_with fail
 go_ret
 have k1 := k0.set 65 (.int .i64 ((c + 1 : Nat) : Int))
 rw [hset.out] at k1
 have hc2 : Ch [p, q] w1 (w1.setCell ⟨q, 65, none⟩ (.int .i64 ((c + 1 : Nat) : Int))) := Ch.of_gr (gr_cell _ q 65 _) (by simp)
 exact ⟨rfl, k1, kf1.ch (Ch.of_gr (M := [q]) (gr_cell _ q 65 _) (by simp)) (by simp; exact Ne.symm hqp) (by simp; exact Ne.symm hqg), hch.trans hc2⟩
end Go.Proofs.YtibdgkhkhmdihaaGreatDoor
