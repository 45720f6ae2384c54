/- PortcullisWrong: part 16 of its proof: lemmas and contracts, each with its conditions in its own statement; the last part holds the law itself. -/
import Derived.Test.YtibdgkhkhmdihaaGreatDoorJe15
import Derived.WalkSpells
import Derived.WalkKit
import Derived.Deep.CutRange
import Derived.Deep.CutBlock
import Derived.RegionTactic
import Derived.ScopeJumps
import Derived.WalkLawsBesides
import Derived.StillTailTactics
import Derived.ProofKit

set_option maxHeartbeats 4000000
set_option maxRecDepth 100000
namespace Go.Proofs.YtibdgkhkhmdihaaGreatDoor
open Go.RowKit
theorem rtv_lt (a : Nat) : Nt.rtv pN eN iN a < pN := by
 have h := Nt.rtx_lt (e := eN) (i := iN) pN_pos a
 unfold Nt.rtv
 split
 · split
   · have : 0 < pN := pN_pos
     omega
   · exact h
 · exact pN_pos
def zP : Pn := ⟨0, 0, 0, 0⟩
def undP (y : Nat) : Nat := (y * y % pN + pN - 1) % pN * (((dN * (y * y % pN) % pN + 1) % pN) ^ (pN - 2) % pN) % pN
def readP (b : Nat) : Pn × Bool :=
 if b % 2 ^ 255 % pN ≠ b % 2 ^ 255 then (zP, false)
 else if Nt.rtok pN eN iN (undP (b % 2 ^ 255)) = false then (zP, false)
 else if b / 2 ^ 255 = 1 then
  (if Nt.rtv pN eN iN (undP (b % 2 ^ 255)) = 0 then (zP, false)
  else (⟨(0 + pN - Nt.rtv pN eN iN (undP (b % 2 ^ 255))) % pN, b % 2 ^ 255, 1, (0 + pN - Nt.rtv pN eN iN (undP (b % 2 ^ 255))) % pN * (b % 2 ^ 255) % pN⟩, true))
 else (⟨Nt.rtv pN eN iN (undP (b % 2 ^ 255)), b % 2 ^ 255, 1, Nt.rtv pN eN iN (undP (b % 2 ^ 255)) * (b % 2 ^ 255) % pN⟩, true)
theorem pread_any (b : Nat) (hb : b < 256 ^ 32) (w : World) :
 Calls Tryz.prog 192 #[.agg (byts b).toArray] w fun e w' => e = .returned (.tuple #[.agg (readP b).1.cs.toArray, .bool (readP b).2]) ∧ Below w.heap.size w w' := by
 have hp4 : pN < 18446744073709551616 ^ 4 := by decide
 have lim : ∀ {n : Nat}, n < pN → n < 18446744073709551616 ^ 4 := fun h => Nat.lt_trans h hp4
 obtain ⟨d, hd⟩ : ∃ d, b / 256 ^ 31 % 256 = d := ⟨_, rfl⟩
 have ld : d < 256 := hd ▸ Nat.mod_lt _ zDc
 have a1 := and_127 d ld
 obtain ⟨y, hy⟩ : ∃ y, b % 2 ^ 255 = y := ⟨_, rfl⟩
 have s1 : (byts b).set 31 (.int .u8 ((d % 128 : Nat) : Int)) = byts y := byts_set zDc hb zOm (by
  rw [hd, ← hy]
  have : b / 256 ^ 31 = d := by omega
  omega)
 have a1' : (((d % 128 : Nat) : Int)) = (d : Int) % 128 := by omega
 rw [a1'] at s1 a1
 have g31 := byts_get b 31 zDc
 rw [hd] at g31
 have ly32 : y < 256 ^ 32 := by omega
 have ly4 := lim_of32 ly32
 obtain ⟨o, ho⟩ : ∃ o : Bool, ((d : Int) / 128 == 1) = o := ⟨_, rfl⟩
 have hob : Hid (o = true ↔ b / 2 ^ 255 = 1) := zH (by rw [← ho, beq_iff_eq]; omega)
 obtain ⟨R, hR⟩ : ∃ R, readP b = R := ⟨_, rfl⟩
 rw [hR]
 unfold readP at hR
 rw [hy] at hR
 have c1 := zH (fun w => limOf_any y ly32 w)
 have c2 := zH (fun w => lessen_any y ly4 w)
 have qy := fun w => eq_lims (y % pN) y (p_lt4 _) ly4 w
 obtain ⟨yp, hyp⟩ : ∃ v, y % pN = v := ⟨_, rfl⟩
 rw [hyp] at c2 qy hR
 have c3 := fun w => times_any y y ly4 ly4 w
 obtain ⟨yy, hyy⟩ : ∃ v, y * y % pN = v := ⟨_, rfl⟩
 rw [hyy] at c3
 have lyy : yy < pN := hyy ▸ Nat.mod_lt _ pN_pos
 have c4 := fun w => minus_any yy 1 lyy zDc w
 obtain ⟨u, hu⟩ : ∃ v, (yy + pN - 1) % pN = v := ⟨_, rfl⟩
 rw [hu] at c4
 have lu : u < pN := hu ▸ Nat.mod_lt _ pN_pos
 have c5 := fun w => times_any dN yy (lim dN_lt) (lim lyy) w
 obtain ⟨dy, hdy⟩ : ∃ v, dN * yy % pN = v := ⟨_, rfl⟩
 rw [hdy] at c5
 have ldy : dy < pN := hdy ▸ Nat.mod_lt _ pN_pos
 have c6 := fun w => plus_any dy 1 (lim ldy) zDc w
 obtain ⟨v, hv⟩ : ∃ v, (dy + 1) % pN = v := ⟨_, rfl⟩
 rw [hv] at c6
 have lv : v < pN := hv ▸ Nat.mod_lt _ pN_pos
 have c7 := fun w => inverse_any v (lim lv) w
 obtain ⟨vi, hvi⟩ : ∃ x, v ^ (pN - 2) % pN = x := ⟨_, rfl⟩
 rw [hvi] at c7
 have lvi : vi < pN := hvi ▸ Nat.mod_lt _ pN_pos
 have c8 := fun w => times_any u vi (lim lu) (lim lvi) w
 obtain ⟨a, ha⟩ : ∃ x, u * vi % pN = x := ⟨_, rfl⟩
 rw [ha] at c8
 have la : a < pN := ha ▸ Nat.mod_lt _ pN_pos
 have hund : undP y = a := by rw [undP, hyy, hu, hdy, hv, hvi, ha]
 rw [hund] at hR
 have c9 := fun w => square_any a la w
 have lx0 := rtv_lt a
 obtain ⟨x0, hx0⟩ : ∃ x, Nt.rtv pN eN iN a = x := ⟨_, rfl⟩
 obtain ⟨ok, hok⟩ : ∃ x, Nt.rtok pN eN iN a = x := ⟨_, rfl⟩
 rw [hx0, hok] at hR c9
 rw [hx0] at lx0
 have l0 : (lims 4 0).toArray = #[.int .u64 0, .int .u64 0, .int .u64 0, .int .u64 0] := lims_small 0 zDc
 have qz := fun w => eq_lims x0 0 (lim lx0) zDc w
 have c10 := fun w => minus_any 0 x0 zDc lx0 w
 rw [l0] at qz c10
 obtain ⟨x1, hx1⟩ : ∃ x, (0 + pN - x0) % pN = x := ⟨_, rfl⟩
 rw [hx1] at c10 hR
 have lx1 : x1 < pN := hx1 ▸ Nat.mod_lt _ pN_pos
 have cM := zH (fun x (hx : x < pN) w => times_any x y (lim hx) ly4 w)
 replace c3 := zH c3
 replace c4 := zH c4
 replace c5 := zH c5
 replace c6 := zH c6
 replace c7 := zH c7
 replace c8 := zH c8
 replace c9 := zH c9
 replace c10 := zH c10
 obtain ⟨bb, hbb⟩ : ∃ x : Bool, decide (yp = y) = x := ⟨_, rfl⟩
 rw [hbb] at qy
 replace hbb := zH hbb
 replace qy := zH qy
 replace qz := zH qz
 replace hR := zH hR
 replace lx0 := zH lx0
 replace lx1 := zH lx1
 clear hp4 lim hd ld hy a1' ly32 ly4 hyp hyy lyy hu lu hdy ldy hv lv hvi lvi ha la hund hx0 hok l0 hx1 hb
 go_enter Tryz.func192, Tryz.ntmps192
 go_upto_region 1 with fail
 refine wp_new2 (fun W hsz k1 k2 kb => ?_)
 have k2 : Arr W (w.heap.size + 1) (ptL 0 0 0 0) := k2
 clear hsz
 have hcel := k1.cell g31
 have hfro := k1.frozen 31
 go_upto_region 3 with fail
 refine code_cell k1 (fun w_1 k1 hoth hbel => ?_)
 have k2 := hoth _ _ zOm k2
 have kb := hbel _ _ zOm kb
 clear hoth hbel
 rw [s1] at k1
 clear hcel hfro a1 ho s1 g31
 go_upto_region 3 with (first | (refine zLd ?_) | (refine zSt ?_))
 go_wp2_with (first | (refine zLd ?_) | (refine zSt ?_))
 refine (c1.out _).mono ?_
 rintro e w_2 ⟨rfl, hb_2⟩
 have k1 := k1.below hb_2
 have k2 := k2.below hb_2
 have kb := bel kb hb_2
 clear hb_2
 go_upto_region 4 with (first | (refine zLd ?_) | (refine zSt ?_))
 have hg_k5_k2 := k2.lt
 refine code_new (fun w_3 k5 hnew => ?_)
 have k2 := k2.below hnew
 have kb := bel kb hnew
 clear hnew
 generalize (w_2).heap.size = g_k5 at k5 hg_k5_k2 ⊢
 cases bb
 · skip
   go_upto_region 4 with (first | (refine zLd ?_) | (refine zSt ?_))
   refine Tx.start (fun w' => Below (w_3).heap.size (w_3) w') 9999 4 rfl zKr ?_
   have hS_4 : Below (w_3).heap.size (w_3) (World.drew w_3) := (Below.refl _ _).drew
   refine Tx.seg (A := ?_) 2 5 zKr (by exact hS_4) [0, 2] zKr ?_ ?_
   rotate_left
   · intro w' hB
     have e0 := k2.below hB
     have e1 := k5.below hB
     exact zRd
   refine Tx.eff 1 7 rfl zDk (fun K hK => ?_)
   go_simp
   refine (c2.out _).mono ?_
   rintro e w_5 ⟨rfl, hb_5⟩
   have hS_5 := ext_trans hS_4 (Nat.le_refl _) hb_5
   refine hK (fun w' => Below (w_3).heap.size (w_3) w') _ _ hS_5 (fun _ h => h) ?_
   clear hK K hb_5 hS_4
   try simp only [Act.put, zSa, zSz, zSs]
   refine Tx.seg (A := ?_) 0 15 zKr (by exact hS_5) [3] zKr ?_ ?_
   rotate_left
   · intro w' hB
     have eqf1 := qy.out w'
     exact zRd
   refine Tx.done zKr ?_
   have k2 := k2.below hS_5
   have k5 := k5.below hS_5
   have kb := bel kb hS_5
   clear hS_5
   have hR0 : Hid (R = (zP, false)) := zH (by rw [← hR.out, if_pos (of_decide_eq_false hbb.out)])
   clear c1 c2 c3 c4 c5 c6 c7 c8 c9 c10
   go_wp2_with (refine zSt ?_)
   exact bodyPost_ret (results_arr_tmp Tryz.results192 _ _ _ _ rfl Tryz.underlying129 rfl _ (k2.setRow _) zKr _ rfl) rfl ⟨by rw [hR0.out]; rfl, below_setRow kb zOm _⟩
 go_upto_region 4 with (first | (refine zLd ?_) | (refine zSt ?_))
 refine Tx.start (fun w' => Below (w_3).heap.size (w_3) w') 9999 4 rfl zKr ?_
 have hS_6 : Below (w_3).heap.size (w_3) (World.drew w_3) := (Below.refl _ _).drew
 refine Tx.seg (A := ?_) 2 5 zKr (by exact hS_6) [0, 2] zKr ?_ ?_
 rotate_left
 · intro w' hB
   have e0 := k2.below hB
   have e1 := k5.below hB
   exact zRd
 refine Tx.eff 1 7 rfl zDk (fun K hK => ?_)
 go_simp
 refine (c2.out _).mono ?_
 rintro e w_7 ⟨rfl, hb_7⟩
 have hS_7 := ext_trans hS_6 (Nat.le_refl _) hb_7
 refine hK (fun w' => Below (w_3).heap.size (w_3) w') _ _ hS_7 (fun _ h => h) ?_
 clear hK K hb_7 hS_6
 try simp only [Act.put, zSa, zSz, zSs]
 refine Tx.seg (A := ?_) 0 15 zKr (by exact hS_7) [3] zKr ?_ ?_
 rotate_left
 · intro w' hB
   have eqf1 := qy.out w'
   exact zRd
 refine Tx.done zKr ?_
 have k2 := k2.below hS_7
 have k5 := k5.below hS_7
 have kb := bel kb hS_7
 clear hS_7
 have hyy : Hid (yp = y) := zH (of_decide_eq_true hbb.out)
 go_upto_region 7 with (first | (refine zLd ?_) | (refine zSt ?_))
 have hg_k6_k2 := k2.lt
 have hg_k6_k5 := k5.lt
 refine code_new (fun w_8 k6 hnew => ?_)
 have k2 := k2.below hnew
 have k5 := k5.below hnew
 have kb := bel kb hnew
 clear hnew
 generalize (w_7).heap.size = g_k6 at k6 hg_k6_k2 hg_k6_k5 ⊢
 have k6 : Arr w_8 g_k6 (lims 4 1) := k6
 go_upto_region 7 with (first | (refine zLd ?_) | (refine zSt ?_))
 go_wp2_with (first | (refine zLd ?_) | (refine zSt ?_))
 refine (c3.out _).mono ?_
 rintro e w_9 ⟨rfl, hb_9⟩
 have k2 := k2.below hb_9
 have k5 := k5.below hb_9
 have k6 := k6.below hb_9
 have kb := bel kb hb_9
 clear hb_9
 go_upto_region 8 with (first | (refine zLd ?_) | (refine zSt ?_))
 have hg_k7_k2 := k2.lt
 have hg_k7_k5 := k5.lt
 have hg_k7_k6 := k6.lt
 refine code_new (fun w_10 k7 hnew => ?_)
 have k2 := k2.below hnew
 have k5 := k5.below hnew
 have k6 := k6.below hnew
 have kb := bel kb hnew
 clear hnew
 generalize (w_9).heap.size = g_k7 at k7 hg_k7_k2 hg_k7_k5 hg_k7_k6 ⊢
 go_upto_region 8 with (first | (refine zLd ?_) | (refine zSt ?_))
 refine Tx.start (fun w' => Below (w_10).heap.size (w_10) w') 10 12 rfl zKr ?_
 have hS_11 : Below (w_10).heap.size (w_10) (World.drew w_10) := (Below.refl _ _).drew
 refine Tx.seg2 (A := ?_) 8 83 zKr (by exact hS_11) [0, 1, 4, 6] zKr ?_ ?_
 rotate_left
 · intro w' hB
   have e0 := k2.below hB
   have e1 := k5.below hB
   have e2 := k6.below hB
   have e3 := k7.below hB
   exact zRd
 refine Tx.poolBC 2 1023 [(2, 33), (3, 34), (5, 36), (7, 38), (8, 8), (9, 9)] [(false, []), (false, []), (false, [(3, 34)]), (false, [(5, 36)]), (false, []), (false, [])] [(2, Ph.is (.agg (lims 4 u).toArray)), (3, Ph.is (.agg (lims 4 dN).toArray)), (5, Ph.is (.agg (lims 4 dy).toArray)), (7, Ph.is (.agg (lims 4 v).toArray)), (8, Ph.arr (w_10).heap.size (lims 4 0)), (9, Ph.arr (w_10).heap.size (lims 4 0))] zKr zKr (by first | assumption | exact (Below.refl _ _).drew) ?_ ?_
 · refine ⟨⟨_, rfl, ?_⟩, ⟨_, rfl, ?_⟩, ⟨_, rfl, ?_⟩, ⟨_, rfl, ?_⟩, ⟨_, rfl, ?_⟩, ⟨_, rfl, ?_⟩, trivial⟩
   · intro vs w1 hS hE hD K hK
     clear hD
     simp only [fillL, Act.put, zSa, zSz, zSs] at hK ⊢
     go_simp
     refine (c4.out _).mono ?_
     rintro e w2 ⟨rfl, hb2⟩
     exact hK _ _ rfl hb2 nofun
   · intro vs w1 hS hE hD K hK
     clear hD
     simp only [fillL, Act.put, zSa, zSz, zSs] at hK ⊢
     go_simp
     refine (factor_any _).mono ?_
     rintro e w2 ⟨rfl, hb2⟩
     exact hK _ _ rfl hb2 nofun
   · intro vs w1 hS hE hD K hK
     obtain ⟨q3, -⟩ := hD
     simp only [fillL, Act.put, zSa, zSz, zSs] at hK ⊢
     rw [show vs 3 = _ from q3] at hK ⊢
     clear q3
     go_simp
     refine (c5.out _).mono ?_
     rintro e w2 ⟨rfl, hb2⟩
     exact hK _ _ rfl hb2 nofun
   · intro vs w1 hS hE hD K hK
     obtain ⟨q5, -⟩ := hD
     simp only [fillL, Act.put, zSa, zSz, zSs] at hK ⊢
     rw [show vs 5 = _ from q5] at hK ⊢
     clear q5
     go_simp
     refine (c6.out _).mono ?_
     rintro e w2 ⟨rfl, hb2⟩
     exact hK _ _ rfl hb2 nofun
   · intro vs w1 hS hE hD K hK
     clear hD
     simp only [fillL, Act.put, zSa, zSz, zSs] at hK ⊢
     go_simp
     exact hK _ _ ⟨_, rfl, Nat.le_trans zLe hE.size, Arr.new _ _ _⟩ (below_alloc _ _) (fun _ => ⟨_, rfl, Nat.le_refl _⟩)
   · intro vs w1 hS hE hD K hK
     clear hD
     simp only [fillL, Act.put, zSa, zSz, zSs] at hK ⊢
     go_simp
     exact hK _ _ ⟨_, rfl, Nat.le_trans zLe hE.size, Arr.new _ _ _⟩ (below_alloc _ _) (fun _ => ⟨_, rfl, Nat.le_refl _⟩)
 intro vs w_p8_5192 hS_p8_5192 hE_p8_5192 hP hD
 obtain ⟨q2, q3, q5, q7, q8, q9, -⟩ := hP
 simp only [fillL, Act.put, zSa, zSz, zSs]
 rw [show vs 2 = _ from q2]
 clear q2
 rw [show vs 3 = _ from q3]
 clear q3
 rw [show vs 5 = _ from q5]
 clear q5
 rw [show vs 7 = _ from q7]
 clear q7
 obtain ⟨g8, e8, hg8, ha8⟩ := q8
 rw [e8]
 obtain ⟨g9, e9, hg9, ha9⟩ := q9
 rw [e9]
 have ne8_9 : g8 ≠ g9 := fun h => hD 8 9 rfl rfl rfl rfl rfl (by rw [e8, e9, h])
 clear e8 e9 hD vs
 have lt_k8_k2 := Nat.lt_of_lt_of_le k2.lt hg8
 have lt_k8_k5 := Nat.lt_of_lt_of_le k5.lt hg8
 have lt_k8_k6 := Nat.lt_of_lt_of_le k6.lt hg8
 have lt_k8_k7 := Nat.lt_of_lt_of_le k7.lt hg8
 have lt_k9_k2 := Nat.lt_of_lt_of_le k2.lt hg9
 have lt_k9_k5 := Nat.lt_of_lt_of_le k5.lt hg9
 have lt_k9_k6 := Nat.lt_of_lt_of_le k6.lt hg9
 have lt_k9_k7 := Nat.lt_of_lt_of_le k7.lt hg9
 have k2 := k2.below hS_p8_5192
 have k5 := k5.below hS_p8_5192
 have k6 := k6.below hS_p8_5192
 have k7 := k7.below hS_p8_5192
 have kb := bel kb hS_p8_5192
 have k8 := ha8
 clear ha8
 generalize g8 = g_k8 at *
 have k9 := ha9
 clear ha9
 generalize g9 = g_k9 at *
 refine Tx.bar 2047 rfl zDk (fun K hK => ?_)
 refine step_store_arr rfl _ _ _ rfl _ _ rfl rfl _ zAm zLn zLm zOn ?_
 refine hK (fun _ => True) 9999 _ _ ?_
 clear hK K
 try simp only [Act.put]
 try simp only [zSa, zSz, zSs]
 refine Tx.row k8 (fun w_12 k8 hoth hbel => ?_)
 have k2 := hoth _ _ zOm k2
 have k5 := hoth _ _ zOm k5
 have k6 := hoth _ _ zOm k6
 have k7 := hoth _ _ zOm k7
 have k9 := hoth _ _ zOm k9
 have kb := hbel _ _ zOm kb
 clear hoth hbel
 refine Tx.eff 11 4095 rfl zDk (fun K hK => ?_)
 refine step_store_arr rfl _ _ _ rfl _ _ rfl rfl _ zAm zLn zLm zOn ?_
 refine hK (fun _ => True) _ _ trivial (fun _ h => h) ?_
 clear hK K
 try simp only [Act.put]
 refine Tx.done zKr ?_
 first | refine then_row k9 (fun w_13 k9 hoth hbel => ?_) | refine inb_row k9 (fun w_13 k9 hoth hbel => ?_)
 have k2 := hoth _ _ zOm k2
 have k5 := hoth _ _ zOm k5
 have k6 := hoth _ _ zOm k6
 have k7 := hoth _ _ zOm k7
 have k8 := hoth _ _ zOm k8
 have kb := hbel _ _ zOm kb
 clear hoth hbel
 go_upto_region 9 with (first | (refine zLd ?_) | (refine zSt ?_))
 refine Tx.start (fun w' => Below (w_13).heap.size (w_13) w') 9 11 rfl zKr ?_
 have hS_14 : Below (w_13).heap.size (w_13) (World.drew w_13) := (Below.refl _ _).drew
 refine Tx.seg2 (A := ?_) 9 3 zKr (by exact hS_14) [0, 1] zKr ?_ ?_
 rotate_left
 · intro w' hB
   have y8 := k8.below hB
   have y9 := k9.below hB
   exact zRd
 refine Tx.poolB 2 511 [(2, 42), (3, 43), (4, 44), (5, 39), (6, 45), (7, 46), (8, 10)] [(false, []), (false, [(2, 42)]), (false, [(3, 43)]), (true, [(4, 44)]), (true, [(5, 39)]), (true, [(5, 39)]), (false, [])] [(2, Ph.is (.agg (lims 4 vi).toArray)), (3, Ph.is (.agg (lims 4 a).toArray)), (4, Ph.is (.tuple #[.agg (lims 4 x0).toArray, .bool ok])), (5, Ph.is (.tuple #[.agg (lims 4 x0).toArray, .bool ok])), (6, Ph.is (.agg (lims 4 x0).toArray)), (7, Ph.is (.bool ok)), (8, Ph.arr (w_13).heap.size (lims 4 0))] zKr zKr (by first | assumption | exact (Below.refl _ _).drew) ?_ ?_
 · refine ⟨⟨_, rfl, ?_⟩, ⟨_, rfl, ?_⟩, ⟨_, rfl, ?_⟩, ⟨_, rfl, ?_⟩, ⟨_, rfl, ?_⟩, ⟨_, rfl, ?_⟩, ⟨_, rfl, ?_⟩, trivial⟩
   · intro vs w1 hS hE hD K hK
     clear hD
     simp only [fillL, Act.put, zSa, zSz, zSs] at hK ⊢
     go_simp
     refine (c7.out _).mono ?_
     rintro e w2 ⟨rfl, hb2⟩
     exact hK _ _ rfl hb2 nofun
   · intro vs w1 hS hE hD K hK
     obtain ⟨q2, -⟩ := hD
     simp only [fillL, Act.put, zSa, zSz, zSs] at hK ⊢
     rw [show vs 2 = _ from q2] at hK ⊢
     clear q2
     go_simp
     refine (c8.out _).mono ?_
     rintro e w2 ⟨rfl, hb2⟩
     exact hK _ _ rfl hb2 nofun
   · intro vs w1 hS hE hD K hK
     obtain ⟨q3, -⟩ := hD
     simp only [fillL, Act.put, zSa, zSz, zSs] at hK ⊢
     rw [show vs 3 = _ from q3] at hK ⊢
     clear q3
     go_simp
     refine (c9.out _).mono ?_
     rintro e w2 ⟨rfl, hb2⟩
     exact hK _ _ rfl hb2 nofun
   · intro vs w1 hS hE hD
     obtain ⟨q4, -⟩ := hD
     simp only [fillL, Act.put, zSa, zSz, zSs] at ⊢
     rw [show vs 4 = _ from q4] at ⊢
     clear q4
     refine ⟨_, rfl, fun w' => (by first | (go_simp; done) | (go_simp; rfl)), rfl, nofun⟩
   · intro vs w1 hS hE hD
     obtain ⟨q5, -⟩ := hD
     simp only [fillL, Act.put, zSa, zSz, zSs] at ⊢
     rw [show vs 5 = _ from q5] at ⊢
     clear q5
     refine ⟨_, rfl, fun w' => (by first | (go_simp; done) | (go_simp; rfl)), rfl, nofun⟩
   · intro vs w1 hS hE hD
     obtain ⟨q5, -⟩ := hD
     simp only [fillL, Act.put, zSa, zSz, zSs] at ⊢
     rw [show vs 5 = _ from q5] at ⊢
     clear q5
     refine ⟨_, rfl, fun w' => (by first | (go_simp; done) | (go_simp; rfl)), rfl, nofun⟩
   · intro vs w1 hS hE hD K hK
     clear hD
     simp only [fillL, Act.put, zSa, zSz, zSs] at hK ⊢
     go_simp
     exact hK _ _ ⟨_, rfl, Nat.le_trans zLe hE.size, Arr.new _ _ _⟩ (below_alloc _ _) (fun _ => ⟨_, rfl, Nat.le_refl _⟩)
 intro vs w_p9 hS_p9 hE_p9 hP hD
 obtain ⟨q2, q3, q4, q5, q6, q7, q8, -⟩ := hP
 simp only [fillL, Act.put, zSa, zSz, zSs]
 rw [show vs 2 = _ from q2]
 clear q2
 rw [show vs 3 = _ from q3]
 clear q3
 rw [show vs 4 = _ from q4]
 clear q4
 rw [show vs 5 = _ from q5]
 clear q5
 rw [show vs 6 = _ from q6]
 clear q6
 rw [show vs 7 = _ from q7]
 clear q7
 obtain ⟨g8, e8, hg8, ha8⟩ := q8
 rw [e8]
 clear e8 hD vs
 have lt_2 := Nat.lt_of_lt_of_le k2.lt hg8
 have lt_5 := Nat.lt_of_lt_of_le k5.lt hg8
 have lt_6 := Nat.lt_of_lt_of_le k6.lt hg8
 have k2 := k2.below hS_p9
 have k5 := k5.below hS_p9
 have k6 := k6.below hS_p9
 have kb := bel kb hS_p9
 refine Tx.bar 1023 rfl zDk (fun K hK => ?_)
 refine step_store_arr rfl _ _ _ rfl _ _ rfl rfl _ zAm zLn zLm zOn ?_
 refine hK (fun _ => True) 9999 _ _ ?_
 clear hK K
 try simp only [Act.put]
 try simp only [zSa, zSz, zSs]
 refine Tx.seg2 (A := ?_) 0 2047 zKr (by exact trivial) [10] zKr ?_ ?_
 rotate_left
 · intro w' hB
   exact zRd
 refine Tx.done zKr ?_
 first | refine then_row ha8 (fun w_15 ha8 hoth hbel => ?_) | refine inb_row ha8 (fun w_15 ha8 hoth hbel => ?_)
 have k2 := hoth _ _ zOm k2
 have k5 := hoth _ _ zOm k5
 have k6 := hoth _ _ zOm k6
 have kb := hbel _ _ zOm kb
 clear hoth hbel
 have k10 := ha8
 clear ha8
 generalize g8 = g_k10 at *
 clear c1 c2 c3 c4 c5 c6 c7 c8 c9
 obtain ⟨zz, hzz⟩ : ∃ z : Bool, decide (x0 = 0) = z := ⟨_, rfl⟩
 have qz := qz.out
 rw [hzz] at qz
 have hR2 : R = if ok = false then (zP, false) else if b / 2 ^ 255 = 1 then (if x0 = 0 then (zP, false) else (⟨x1, y, 1, x1 * y % pN⟩, true)) else (⟨x0, y, 1, x0 * y % pN⟩, true) := by rw [← hR.out, if_neg (fun h => h hyy.out)]
 replace hzz := zH hzz
 replace hR2 := zH hR2
 clear hR hyy hbb qy
 cases ok
 · skip
   have hR0 : Hid (R = (zP, false)) := zH (by rw [hR2.out, if_pos rfl])
   clear c10 cM
   go_wp2_with (refine zSt ?_)
   exact bodyPost_ret (results_arr_tmp Tryz.results192 _ _ _ _ rfl Tryz.underlying129 rfl _ (k2.setRow _) zKr _ rfl) rfl ⟨by rw [hR0.out]; rfl, below_setRow kb zOm _⟩
 cases o
 · skip
   have hR0 : Hid (R = (⟨x0, y, 1, x0 * y % pN⟩, true)) := zH (by rw [hR2.out, if_neg zDc, if_neg (fun h => by have := hob.out.2 h; cases this)])
   have cMX := zH (cM.out x0 lx0.out)
   obtain ⟨X, hXe⟩ : ∃ X, x0 = X := ⟨_, rfl⟩
   rw [hXe] at k10 cMX hR0
   clear hXe qz hzz c10 cM hR2 hob
   go_upto_region 14 with (first | (refine zLd ?_) | (refine zSt ?_))
   refine Tx.start (fun w' => Below (w_15).heap.size (w_15) w') 7 9 rfl zKr ?_
   have hS_16 : Below (w_15).heap.size (w_15) (World.drew w_15) := (Below.refl _ _).drew
   refine Tx.seg2 (A := ?_) 4 31 zKr (by exact hS_16) [0, 1, 2, 3, 4] zKr ?_ ?_
   rotate_left
   · intro w' hB
     have y5 := k5.below hB
     have y6 := k6.below hB
     have y10 := k10.below hB
     exact zRd
   refine Tx.eff 5 63 rfl zDk (fun K hK => ?_)
   go_simp
   refine (cMX.out _).mono ?_
   rintro e w_17 ⟨rfl, hb_17⟩
   have hS_17 := ext_trans hS_16 (Nat.le_refl _) hb_17
   refine hK (fun w' => Below (w_15).heap.size (w_15) w') _ _ hS_17 (fun _ h => h) ?_
   clear hK K hb_17 hS_16
   try simp only [Act.put, zSa, zSz, zSs]
   refine Tx.seg2 (A := ?_) 2 127 zKr (by exact hS_17) [6] zKr ?_ ?_
   rotate_left
   · intro w' hB
     iterate 1 (first | (refine rd_skip rfl rfl ?_; simp only [Act.put, zSa, zSz, zSs]) | (refine rd_load_arr rfl rfl _ _ rfl _ rfl zDk _ zAm zLn ?_; simp only [Act.put, zSa, zSz, zSs]) | (refine rd_builta rfl rfl _ _ rfl (ptL X y 1 (X * y % pN)).toArray zKr ?_; simp only [Act.put, zSa, zSz, zSs]) | (refine rd_take (v := ?_) rfl rfl ?_ ?_; rotate_left; (focus (go_simp; try (with_reducible rfl))); simp only [Act.put, zSa, zSz, zSs]))
     exact rd_nil
   have k2 := k2.below hS_17
   have kb := bel kb hS_17
   refine Tx.bar 255 rfl zDk (fun K hK => ?_)
   refine step_store_arr rfl _ _ _ rfl _ _ rfl rfl _ zAm zLn zLm zOn ?_
   refine hK (fun _ => True) 9999 _ _ ?_
   clear hK K
   try simp only [Act.put]
   try simp only [zSa, zSz, zSs]
   refine Tx.seg2 (A := ?_) 0 511 zKr (by exact trivial) [8] zKr ?_ ?_
   rotate_left
   · intro w' hB
     exact zRd
   refine Tx.done zKr ?_
   first | refine then_row k2 (fun w_18 k2 hoth hbel => ?_) | refine inb_row k2 (fun w_18 k2 hoth hbel => ?_)
   have kb := hbel _ _ zOm kb
   clear hoth hbel
   go_wp2_with fail
   exact bodyPost_ret (results_arr_tmp Tryz.results192 _ _ _ _ rfl Tryz.underlying129 rfl (ptL X y 1 (X * y % pN)) k2 (by rw [ptL_len]; kernel_rfl) _ rfl) rfl ⟨by rw [hR0.out]; rfl, kb⟩
 have ho1 := hob.out.1 rfl
 cases zz
 · skip
   have hR0 : Hid (R = (⟨x1, y, 1, x1 * y % pN⟩, true)) := zH (by rw [hR2.out, if_neg zDc, if_pos ho1, if_neg (of_decide_eq_false hzz.out)])
   have cMX := zH (cM.out x1 lx1.out)
   obtain ⟨X, hXe⟩ : ∃ X, x1 = X := ⟨_, rfl⟩
   rw [hXe] at c10 cMX hR0
   clear hXe hzz cM hR2 hob ho1
   go_upto_region 13 with (first | (refine zLd ?_) | (refine zSt ?_))
   go_wp2_with (first | (refine zLd ?_) | (refine zSt ?_))
   refine (c10.out _).mono ?_
   rintro e w_19 ⟨rfl, hb_19⟩
   have k2 := k2.below hb_19
   have k5 := k5.below hb_19
   have k6 := k6.below hb_19
   have k10 := k10.below hb_19
   have kb := bel kb hb_19
   clear hb_19
   go_upto_region 14 with (first | (refine zLd ?_) | (refine zSt ?_))
   refine code_row k10 (fun w_20 k10 hoth hbel => ?_)
   have k2 := hoth _ _ zOm k2
   have k5 := hoth _ _ zOm k5
   have k6 := hoth _ _ zOm k6
   have kb := hbel _ _ zOm kb
   clear hoth hbel
   go_upto_region 14 with (first | (refine zLd ?_) | (refine zSt ?_))
   refine Tx.start (fun w' => Below (w_20).heap.size (w_20) w') 7 9 rfl zKr ?_
   have hS_21 : Below (w_20).heap.size (w_20) (World.drew w_20) := (Below.refl _ _).drew
   refine Tx.seg2 (A := ?_) 4 31 zKr (by exact hS_21) [0, 1, 2, 3, 4] zKr ?_ ?_
   rotate_left
   · intro w' hB
     have y5 := k5.below hB
     have y6 := k6.below hB
     have y10 := k10.below hB
     exact zRd
   refine Tx.eff 5 63 rfl zDk (fun K hK => ?_)
   go_simp
   refine (cMX.out _).mono ?_
   rintro e w_22 ⟨rfl, hb_22⟩
   have hS_22 := ext_trans hS_21 (Nat.le_refl _) hb_22
   refine hK (fun w' => Below (w_20).heap.size (w_20) w') _ _ hS_22 (fun _ h => h) ?_
   clear hK K hb_22 hS_21
   try simp only [Act.put, zSa, zSz, zSs]
   refine Tx.seg2 (A := ?_) 2 127 zKr (by exact hS_22) [6] zKr ?_ ?_
   rotate_left
   · intro w' hB
     iterate 1 (first | (refine rd_skip rfl rfl ?_; simp only [Act.put, zSa, zSz, zSs]) | (refine rd_load_arr rfl rfl _ _ rfl _ rfl zDk _ zAm zLn ?_; simp only [Act.put, zSa, zSz, zSs]) | (refine rd_builta rfl rfl _ _ rfl (ptL X y 1 (X * y % pN)).toArray zKr ?_; simp only [Act.put, zSa, zSz, zSs]) | (refine rd_take (v := ?_) rfl rfl ?_ ?_; rotate_left; (focus (go_simp; try (with_reducible rfl))); simp only [Act.put, zSa, zSz, zSs]))
     exact rd_nil
   have k2 := k2.below hS_22
   have kb := bel kb hS_22
   refine Tx.bar 255 rfl zDk (fun K hK => ?_)
   refine step_store_arr rfl _ _ _ rfl _ _ rfl rfl _ zAm zLn zLm zOn ?_
   refine hK (fun _ => True) 9999 _ _ ?_
   clear hK K
   try simp only [Act.put]
   try simp only [zSa, zSz, zSs]
   refine Tx.seg2 (A := ?_) 0 511 zKr (by exact trivial) [8] zKr ?_ ?_
   rotate_left
   · intro w' hB
     exact zRd
   refine Tx.done zKr ?_
   first | refine then_row k2 (fun w_23 k2 hoth hbel => ?_) | refine inb_row k2 (fun w_23 k2 hoth hbel => ?_)
   have kb := hbel _ _ zOm kb
   clear hoth hbel
   go_wp2_with fail
   exact bodyPost_ret (results_arr_tmp Tryz.results192 _ _ _ _ rfl Tryz.underlying129 rfl (ptL X y 1 (X * y % pN)) k2 (by rw [ptL_len]; kernel_rfl) _ rfl) rfl ⟨by rw [hR0.out]; rfl, kb⟩
 have hR0 : Hid (R = (zP, false)) := zH (by rw [hR2.out, if_neg zDc, if_pos ho1, if_pos (of_decide_eq_true hzz.out)])
 clear c10 cM hR2 hob ho1
 go_upto_region 11 with (refine zLd ?_)
 go_wp2_with (refine zSt ?_)
 exact bodyPost_ret (results_arr_tmp Tryz.results192 _ _ _ _ rfl Tryz.underlying129 rfl _ (k2.setRow _) zKr _ rfl) rfl ⟨by rw [hR0.out]; rfl, below_setRow kb zOm _⟩
theorem q64_toNat {a : Nat} (ha : a < 18446744073709551616) : (BitVec.ofInt 64 (a : Int)).toNat = a := by
 rw [BitVec.ofInt_natCast, BitVec.toNat_ofNat]
 exact Nat.mod_eq_of_lt ha
theorem q64_in {a : Nat} (ha : a < 18446744073709551616) : IntKind.u64.wrap (a : Int) = (a : Int) := by
 simp [IntKind.wrap, IntKind.bits, IntKind.signed]
 omega
theorem q64_mod (a : Nat) : IntKind.u64.wrap (a : Int) = ((a % 18446744073709551616 : Nat) : Int) := by
 simp [IntKind.wrap, IntKind.bits, IntKind.signed]
theorem wrap_q64 (z : Int) : IntKind.u64.wrap z = z % 18446744073709551616 := by
 simp [IntKind.wrap, IntKind.bits, IntKind.signed]
theorem xor_q64 {a b : Nat} (ha : a < 18446744073709551616) (hb : b < 18446744073709551616) : bits .xor .u64 (a : Int) (b : Int) = ((a ^^^ b : Nat) : Int) := by
 show IntKind.u64.wrap ((BitVec.ofInt 64 (a : Int) ^^^ BitVec.ofInt 64 (b : Int)).toNat : Int) = _
 rw [BitVec.toNat_xor, q64_toNat ha, q64_toNat hb]
 exact q64_in (Nat.xor_lt_two_pow (n := 64) ha hb)
theorem or_q64 {a b : Nat} (ha : a < 18446744073709551616) (hb : b < 18446744073709551616) : bits .or .u64 (a : Int) (b : Int) = ((a ||| b : Nat) : Int) := by
 show IntKind.u64.wrap ((BitVec.ofInt 64 (a : Int) ||| BitVec.ofInt 64 (b : Int)).toNat : Int) = _
 rw [BitVec.toNat_or, q64_toNat ha, q64_toNat hb]
 exact q64_in (Nat.or_lt_two_pow (n := 64) ha hb)
theorem and_q64 {a b : Nat} (ha : a < 18446744073709551616) (hb : b < 18446744073709551616) : bits .and .u64 (a : Int) (b : Int) = ((a &&& b : Nat) : Int) := by
 show IntKind.u64.wrap ((BitVec.ofInt 64 (a : Int) &&& BitVec.ofInt 64 (b : Int)).toNat : Int) = _
 rw [BitVec.toNat_and, q64_toNat ha, q64_toNat hb]
 exact q64_in (Nat.lt_of_le_of_lt Nat.and_le_left ha)
def wd (l : List Nat) : List Value := l.map fun (x : Nat) => .int .u64 (x : Int)
theorem wd_len (l : List Nat) : (wd l).length = l.length := by simp [wd]
theorem wd_one (l : List Nat) : ∀ v ∈ wd l, v.oneCell' = true := by
 intro v hv
 simp only [wd, List.mem_map] at hv
 obtain ⟨x, -, rfl⟩ := hv
 rfl
theorem wd_get {l : List Nat} {j : Nat} (h : j < l.length) : (wd l)[j]? = some (.int .u64 ((l.getD j 0 : Nat) : Int)) := by
 simp [wd, h]
theorem wd_set (l : List Nat) (j x : Nat) : (wd l).set j (.int .u64 (x : Int)) = wd (l.set j x) := by
 simp [wd, List.map_set]
def W64 (l : List Nat) : Prop := ∀ x ∈ l, x < 18446744073709551616
theorem W64.get {l : List Nat} (h : W64 l) (j : Nat) : l.getD j 0 < 18446744073709551616 := by
 rw [List.getD_eq_getElem?_getD]
 cases e : l[j]? with
 | none => decide
 | some x => exact h x (List.mem_of_getElem? e)
theorem W64.set {l : List Nat} (h : W64 l) (j : Nat) {x : Nat} (hx : x < 18446744073709551616) : W64 (l.set j x) := by
 intro y hy
 rcases List.mem_or_eq_of_mem_set hy with h1 | rfl
 · exact h y h1
 · exact hx
def rL (x k : Nat) : Nat := (x * 2 ^ k % 18446744073709551616) ||| (x / 2 ^ (64 - k))
theorem rL_lt {x : Nat} (hx : x < 18446744073709551616) (k : Nat) : rL x k < 18446744073709551616 :=
 Nat.or_lt_two_pow (n := 64) (Nat.mod_lt _ zDc) (Nat.lt_of_le_of_lt (Nat.div_le_self _ _) hx)
theorem rotrb_1 {x r : Nat} (hx : x < 18446744073709551616) (hr : rL x 63 = r) (w : World) :
 Calls Tryz.prog 274 #[.int .u64 (x : Int), .int .i64 (-1)] w fun e w' => e = .returned (.int .u64 (r : Int)) ∧ Below w.heap.size w w' := by
 have h0 : bits .and .u64 18446744073709551615 63 = 63 := by decide
 have hwm := wrap_q64
 have h2 : bits .or .u64 ((x : Int) * 9223372036854775808 % 18446744073709551616) ((x : Int) / 2) = ((rL x 63 : Nat) : Int) := by
  have := or_q64 (a := x * 9223372036854775808 % 18446744073709551616) (b := x / 2) (Nat.mod_lt _ zDc) (Nat.lt_of_le_of_lt (Nat.div_le_self _ _) hx)
  rw [show ((x : Int) * 9223372036854775808 % 18446744073709551616) = ((x * 9223372036854775808 % 18446744073709551616 : Nat) : Int) by omega, show ((x : Int) / 2) = ((x / 2 : Nat) : Int) by omega]
  exact this
 rw [hr] at h2
 clear hr
 go_enter Tryz.func274, Tryz.ntmps274
 go_wp2_with fail
 go_ret
 exact ⟨rfl, Below.refl _ _⟩
theorem rotrb_8 {x r : Nat} (hx : x < 18446744073709551616) (hr : rL x 56 = r) (w : World) :
 Calls Tryz.prog 274 #[.int .u64 (x : Int), .int .i64 (-8)] w fun e w' => e = .returned (.int .u64 (r : Int)) ∧ Below w.heap.size w w' := by
 have h0 : bits .and .u64 18446744073709551608 63 = 56 := by decide
 have hwm := wrap_q64
 have h2 : bits .or .u64 ((x : Int) * 72057594037927936 % 18446744073709551616) ((x : Int) / 256) = ((rL x 56 : Nat) : Int) := by
  have := or_q64 (a := x * 72057594037927936 % 18446744073709551616) (b := x / 256) (Nat.mod_lt _ zDc) (Nat.lt_of_le_of_lt (Nat.div_le_self _ _) hx)
  rw [show ((x : Int) * 72057594037927936 % 18446744073709551616) = ((x * 72057594037927936 % 18446744073709551616 : Nat) : Int) by omega, show ((x : Int) / 256) = ((x / 256 : Nat) : Int) by omega]
  exact this
 rw [hr] at h2
 clear hr
 go_enter Tryz.func274, Tryz.ntmps274
 go_wp2_with fail
 go_ret
 exact ⟨rfl, Below.refl _ _⟩
theorem rotrb_19 {x r : Nat} (hx : x < 18446744073709551616) (hr : rL x 45 = r) (w : World) :
 Calls Tryz.prog 274 #[.int .u64 (x : Int), .int .i64 (-19)] w fun e w' => e = .returned (.int .u64 (r : Int)) ∧ Below w.heap.size w w' := by
 have h0 : bits .and .u64 18446744073709551597 63 = 45 := by decide
 have hwm := wrap_q64
 have h2 : bits .or .u64 ((x : Int) * 35184372088832 % 18446744073709551616) ((x : Int) / 524288) = ((rL x 45 : Nat) : Int) := by
  have := or_q64 (a := x * 35184372088832 % 18446744073709551616) (b := x / 524288) (Nat.mod_lt _ zDc) (Nat.lt_of_le_of_lt (Nat.div_le_self _ _) hx)
  rw [show ((x : Int) * 35184372088832 % 18446744073709551616) = ((x * 35184372088832 % 18446744073709551616 : Nat) : Int) by omega, show ((x : Int) / 524288) = ((x / 524288 : Nat) : Int) by omega]
  exact this
 rw [hr] at h2
 clear hr
 go_enter Tryz.func274, Tryz.ntmps274
 go_wp2_with fail
 go_ret
 exact ⟨rfl, Below.refl _ _⟩
theorem rotrb_61 {x r : Nat} (hx : x < 18446744073709551616) (hr : rL x 3 = r) (w : World) :
 Calls Tryz.prog 274 #[.int .u64 (x : Int), .int .i64 (-61)] w fun e w' => e = .returned (.int .u64 (r : Int)) ∧ Below w.heap.size w w' := by
 have h0 : bits .and .u64 18446744073709551555 63 = 3 := by decide
 have hwm := wrap_q64
 have h2 : bits .or .u64 ((x : Int) * 8 % 18446744073709551616) ((x : Int) / 2305843009213693952) = ((rL x 3 : Nat) : Int) := by
  have := or_q64 (a := x * 8 % 18446744073709551616) (b := x / 2305843009213693952) (Nat.mod_lt _ zDc) (Nat.lt_of_le_of_lt (Nat.div_le_self _ _) hx)
  rw [show ((x : Int) * 8 % 18446744073709551616) = ((x * 8 % 18446744073709551616 : Nat) : Int) by omega, show ((x : Int) / 2305843009213693952) = ((x / 2305843009213693952 : Nat) : Int) by omega]
  exact this
 rw [hr] at h2
 clear hr
 go_enter Tryz.func274, Tryz.ntmps274
 go_wp2_with fail
 go_ret
 exact ⟨rfl, Below.refl _ _⟩
theorem rotrb_14 {x r : Nat} (hx : x < 18446744073709551616) (hr : rL x 50 = r) (w : World) :
 Calls Tryz.prog 274 #[.int .u64 (x : Int), .int .i64 (-14)] w fun e w' => e = .returned (.int .u64 (r : Int)) ∧ Below w.heap.size w w' := by
 have h0 : bits .and .u64 18446744073709551602 63 = 50 := by decide
 have hwm := wrap_q64
 have h2 : bits .or .u64 ((x : Int) * 1125899906842624 % 18446744073709551616) ((x : Int) / 16384) = ((rL x 50 : Nat) : Int) := by
  have := or_q64 (a := x * 1125899906842624 % 18446744073709551616) (b := x / 16384) (Nat.mod_lt _ zDc) (Nat.lt_of_le_of_lt (Nat.div_le_self _ _) hx)
  rw [show ((x : Int) * 1125899906842624 % 18446744073709551616) = ((x * 1125899906842624 % 18446744073709551616 : Nat) : Int) by omega, show ((x : Int) / 16384) = ((x / 16384 : Nat) : Int) by omega]
  exact this
 rw [hr] at h2
 clear hr
 go_enter Tryz.func274, Tryz.ntmps274
 go_wp2_with fail
 go_ret
 exact ⟨rfl, Below.refl _ _⟩
theorem rotrb_18 {x r : Nat} (hx : x < 18446744073709551616) (hr : rL x 46 = r) (w : World) :
 Calls Tryz.prog 274 #[.int .u64 (x : Int), .int .i64 (-18)] w fun e w' => e = .returned (.int .u64 (r : Int)) ∧ Below w.heap.size w w' := by
 have h0 : bits .and .u64 18446744073709551598 63 = 46 := by decide
 have hwm := wrap_q64
 have h2 : bits .or .u64 ((x : Int) * 70368744177664 % 18446744073709551616) ((x : Int) / 262144) = ((rL x 46 : Nat) : Int) := by
  have := or_q64 (a := x * 70368744177664 % 18446744073709551616) (b := x / 262144) (Nat.mod_lt _ zDc) (Nat.lt_of_le_of_lt (Nat.div_le_self _ _) hx)
  rw [show ((x : Int) * 70368744177664 % 18446744073709551616) = ((x * 70368744177664 % 18446744073709551616 : Nat) : Int) by omega, show ((x : Int) / 262144) = ((x / 262144 : Nat) : Int) by omega]
  exact this
 rw [hr] at h2
 clear hr
 go_enter Tryz.func274, Tryz.ntmps274
 go_wp2_with fail
 go_ret
 exact ⟨rfl, Below.refl _ _⟩
theorem rotrb_41 {x r : Nat} (hx : x < 18446744073709551616) (hr : rL x 23 = r) (w : World) :
 Calls Tryz.prog 274 #[.int .u64 (x : Int), .int .i64 (-41)] w fun e w' => e = .returned (.int .u64 (r : Int)) ∧ Below w.heap.size w w' := by
 have h0 : bits .and .u64 18446744073709551575 63 = 23 := by decide
 have hwm := wrap_q64
 have h2 : bits .or .u64 ((x : Int) * 8388608 % 18446744073709551616) ((x : Int) / 2199023255552) = ((rL x 23 : Nat) : Int) := by
  have := or_q64 (a := x * 8388608 % 18446744073709551616) (b := x / 2199023255552) (Nat.mod_lt _ zDc) (Nat.lt_of_le_of_lt (Nat.div_le_self _ _) hx)
  rw [show ((x : Int) * 8388608 % 18446744073709551616) = ((x * 8388608 % 18446744073709551616 : Nat) : Int) by omega, show ((x : Int) / 2199023255552) = ((x / 2199023255552 : Nat) : Int) by omega]
  exact this
 rw [hr] at h2
 clear hr
 go_enter Tryz.func274, Tryz.ntmps274
 go_wp2_with fail
 go_ret
 exact ⟨rfl, Below.refl _ _⟩
theorem rotrb_28 {x r : Nat} (hx : x < 18446744073709551616) (hr : rL x 36 = r) (w : World) :
 Calls Tryz.prog 274 #[.int .u64 (x : Int), .int .i64 (-28)] w fun e w' => e = .returned (.int .u64 (r : Int)) ∧ Below w.heap.size w w' := by
 have h0 : bits .and .u64 18446744073709551588 63 = 36 := by decide
 have hwm := wrap_q64
 have h2 : bits .or .u64 ((x : Int) * 68719476736 % 18446744073709551616) ((x : Int) / 268435456) = ((rL x 36 : Nat) : Int) := by
  have := or_q64 (a := x * 68719476736 % 18446744073709551616) (b := x / 268435456) (Nat.mod_lt _ zDc) (Nat.lt_of_le_of_lt (Nat.div_le_self _ _) hx)
  rw [show ((x : Int) * 68719476736 % 18446744073709551616) = ((x * 68719476736 % 18446744073709551616 : Nat) : Int) by omega, show ((x : Int) / 268435456) = ((x / 268435456 : Nat) : Int) by omega]
  exact this
 rw [hr] at h2
 clear hr
 go_enter Tryz.func274, Tryz.ntmps274
 go_wp2_with fail
 go_ret
 exact ⟨rfl, Below.refl _ _⟩
theorem rotrb_34 {x r : Nat} (hx : x < 18446744073709551616) (hr : rL x 30 = r) (w : World) :
 Calls Tryz.prog 274 #[.int .u64 (x : Int), .int .i64 (-34)] w fun e w' => e = .returned (.int .u64 (r : Int)) ∧ Below w.heap.size w w' := by
 have h0 : bits .and .u64 18446744073709551582 63 = 30 := by decide
 have hwm := wrap_q64
 have h2 : bits .or .u64 ((x : Int) * 1073741824 % 18446744073709551616) ((x : Int) / 17179869184) = ((rL x 30 : Nat) : Int) := by
  have := or_q64 (a := x * 1073741824 % 18446744073709551616) (b := x / 17179869184) (Nat.mod_lt _ zDc) (Nat.lt_of_le_of_lt (Nat.div_le_self _ _) hx)
  rw [show ((x : Int) * 1073741824 % 18446744073709551616) = ((x * 1073741824 % 18446744073709551616 : Nat) : Int) by omega, show ((x : Int) / 17179869184) = ((x / 17179869184 : Nat) : Int) by omega]
  exact this
 rw [hr] at h2
 clear hr
 go_enter Tryz.func274, Tryz.ntmps274
 go_wp2_with fail
 go_ret
 exact ⟨rfl, Below.refl _ _⟩
theorem rotrb_39 {x r : Nat} (hx : x < 18446744073709551616) (hr : rL x 25 = r) (w : World) :
 Calls Tryz.prog 274 #[.int .u64 (x : Int), .int .i64 (-39)] w fun e w' => e = .returned (.int .u64 (r : Int)) ∧ Below w.heap.size w w' := by
 have h0 : bits .and .u64 18446744073709551577 63 = 25 := by decide
 have hwm := wrap_q64
 have h2 : bits .or .u64 ((x : Int) * 33554432 % 18446744073709551616) ((x : Int) / 549755813888) = ((rL x 25 : Nat) : Int) := by
  have := or_q64 (a := x * 33554432 % 18446744073709551616) (b := x / 549755813888) (Nat.mod_lt _ zDc) (Nat.lt_of_le_of_lt (Nat.div_le_self _ _) hx)
  rw [show ((x : Int) * 33554432 % 18446744073709551616) = ((x * 33554432 % 18446744073709551616 : Nat) : Int) by omega, show ((x : Int) / 549755813888) = ((x / 549755813888 : Nat) : Int) by omega]
  exact this
 rw [hr] at h2
 clear hr
 go_enter Tryz.func274, Tryz.ntmps274
 go_wp2_with fail
 go_ret
 exact ⟨rfl, Below.refl _ _⟩
def shKb : List Nat := [4794697086780616226, 8158064640168781261, 13096744586834688815, 16840607885511220156, 4131703408338449720, 6480981068601479193, 10538285296894168987, 12329834152419229976, 15566598209576043074, 1334009975649890238, 2608012711638119052, 6128411473006802146, 8268148722764581231, 9286055187155687089, 11230858885718282805, 13951009754708518548, 16472876342353939154, 17275323862435702243, 1135362057144423861, 2597628984639134821, 3308224258029322869, 5365058923640841347, 6679025012923562964, 8573033837759648693, 10970295158949994411, 12119686244451234320, 12683024718118986047, 13788192230050041572, 14330467153632333762, 15395433587784984357, 489312712824947311, 1452737877330783856, 2861767655752347644, 3322285676063803686, 5560940570517711597, 5996557281743188959, 7280758554555802590, 8532644243296465576, 9350256976987008742, 10552545826968843579, 11727347734174303076, 12113106623233404929, 14000437183269869457, 14369950271660146224, 15101387698204529176, 15463397548674623760, 17586052441742319658, 1182934255886127544, 1847814050463011016, 2177327727835720531, 2830643537854262169, 3796741975233480872, 4115178125766777443, 5681478168544905931, 6601373596472566643, 7507060721942968483, 8399075790359081724, 8693463985226723168, 9568029438360202098, 10144078919501101548, 10430055236837252648, 11840083180663258601, 13761210420658862357, 14299343276471374635, 14566680578165727644, 15097957966210449927, 16922976911328602910, 17689382322260857208, 500013540394364858, 748580250866718886, 1242879168328830382, 1977374033974150939, 2944078676154940804, 3659926193048069267, 4368137639120453308, 4836135668995329356, 5532061633213252278, 6448918945643986474, 6902733635092675308, 7801388544844847127]
def shIb : List Nat := [7640891576956012808, 13503953896175478587, 4354685564936845355, 11912009170470909681, 5840696475078001361, 11170449401992604703, 2270897969802886507, 6620516959819538809]
def shPb (x : Nat) : Nat := rL x 63 ^^^ rL x 56 ^^^ x / 128
def shQb (x : Nat) : Nat := rL x 45 ^^^ rL x 3 ^^^ x / 64
def shEb (x : Nat) : Nat := rL x 50 ^^^ rL x 46 ^^^ rL x 23
def shAb (x : Nat) : Nat := rL x 36 ^^^ rL x 30 ^^^ rL x 25
theorem shKb_ok : shKb.length = 80 ∧ W64 shKb := by unfold W64; decide
theorem shIb_ok : shIb.length = 8 ∧ W64 shIb := by unfold W64; decide
theorem div_ltb {x : Nat} (h : x < 18446744073709551616) (d : Nat) : x / d < 18446744073709551616 := Nat.lt_of_le_of_lt (Nat.div_le_self _ _) h
theorem xo_ltb {x y : Nat} (hx : x < 18446744073709551616) (hy : y < 18446744073709551616) : x ^^^ y < 18446744073709551616 := Nat.xor_lt_two_pow (n := 64) hx hy
theorem an_ltb {x y : Nat} (hx : x < 18446744073709551616) : x &&& y < 18446744073709551616 := Nat.lt_of_le_of_lt Nat.and_le_left hx
theorem shEb_lt {x : Nat} (h : x < 18446744073709551616) : shEb x < 18446744073709551616 := xo_ltb (xo_ltb (rL_lt h _) (rL_lt h _)) (rL_lt h _)
theorem shAb_lt {x : Nat} (h : x < 18446744073709551616) : shAb x < 18446744073709551616 := xo_ltb (xo_ltb (rL_lt h _) (rL_lt h _)) (rL_lt h _)
def schBb (bs : List UInt8) : Nat → List Nat
 | 0 => List.replicate 80 0
 | i + 1 => (schBb bs i).set (i / 8) (((schBb bs i).getD (i / 8) 0 * 256 % 18446744073709551616) ||| (bs.getD i 0).toNat)
def schNb (l : List Nat) (t : Nat) : Nat := (shQb (l.getD (t - 2) 0) + l.getD (t - 7) 0 + shPb (l.getD (t - 15) 0) + l.getD (t - 16) 0) % 18446744073709551616
def schWb (bs : List UInt8) : Nat → List Nat
 | 0 => schBb bs 128
 | j + 1 => (schWb bs j).set (16 + j) (schNb (schWb bs j) (16 + j))
def schLb (bs : List UInt8) : List Nat := schWb bs 64
theorem schBb_ok (bs : List UInt8) : ∀ i, (schBb bs i).length = 80 ∧ W64 (schBb bs i)
 | 0 => ⟨by simp [schBb], by
  intro x hx
  rw [schBb, List.mem_replicate] at hx
  omega⟩
 | i + 1 => ⟨by rw [schBb, List.length_set, (schBb_ok bs i).1], (schBb_ok bs i).2.set _ (Nat.or_lt_two_pow (n := 64) (Nat.mod_lt _ zDc) (Nat.lt_trans (UInt8.toNat_lt _) zDc))⟩
theorem schWb_ok (bs : List UInt8) : ∀ j, (schWb bs j).length = 80 ∧ W64 (schWb bs j)
 | 0 => schBb_ok bs 128
 | j + 1 => ⟨by rw [schWb, List.length_set, (schWb_ok bs j).1], (schWb_ok bs j).2.set _ (Nat.mod_lt _ zDc)⟩
def stvb (h : List Nat) (bs : List UInt8) (n lg : Nat) : List Value := wd h ++ (wd shKb ++ (u8s bs ++ [.int .i64 (n : Int), .int .u64 (lg : Int)]))
section
variable {h : List Nat} {bs : List UInt8} {n lg : Nat} (hh : h.length = 8)
theorem stvb_h {j : Nat} (hj : j < (wd h).length) : (stvb h bs n lg)[0 + j]? = (wd h)[j]? := by
 rw [stvb, Nat.zero_add, List.getElem?_append_left hj]
include hh
theorem stvb_len (hb : bs.length = 128) : (stvb h bs n lg).length = 218 := by simp [stvb, wd_len, u8s_len, hb, hh, shKb_ok.1]
theorem stvb_hj {j : Nat} (hj : j < 8) : (stvb h bs n lg)[j]? = some (.int .u64 ((h.getD j 0 : Nat) : Int)) := by
 have := stvb_h (h := h) (bs := bs) (n := n) (lg := lg) (j := j) (by rw [wd_len, hh]; exact hj)
 rw [Nat.zero_add] at this
 rw [this, wd_get (by rw [hh]; exact hj)]
theorem stvb_k {j : Nat} (hj : j < 80) : (stvb h bs n lg)[8 + j]? = some (.int .u64 ((shKb.getD j 0 : Nat) : Int)) := by
 rw [stvb, List.getElem?_append_right (by rw [wd_len]; omega), wd_len, hh, show 8 + j - 8 = j by omega, List.getElem?_append_left (by rw [wd_len, shKb_ok.1]; exact hj), wd_get (by rw [shKb_ok.1]; exact hj)]
theorem stvb_b {j : Nat} (hj : j < bs.length) : (stvb h bs n lg)[88 + j]? = (u8s bs)[j]? := by
 rw [stvb, List.getElem?_append_right (by rw [wd_len]; omega), wd_len, hh, List.getElem?_append_right (by rw [wd_len, shKb_ok.1]; omega), wd_len, shKb_ok.1, show 88 + j - 8 - 80 = j by omega, List.getElem?_append_left (by rw [u8s_len]; exact hj)]
theorem stvb_n (hb : bs.length = 128) : (stvb h bs n lg)[216]? = some (.int .i64 (n : Int)) := by
 rw [stvb, List.getElem?_append_right (by rw [wd_len]; omega), wd_len, hh, List.getElem?_append_right (by rw [wd_len, shKb_ok.1]; omega), wd_len, shKb_ok.1, List.getElem?_append_right (by rw [u8s_len]; omega), u8s_len, hb]; rfl
theorem stvb_l (hb : bs.length = 128) : (stvb h bs n lg)[217]? = some (.int .u64 (lg : Int)) := by
 rw [stvb, List.getElem?_append_right (by rw [wd_len]; omega), wd_len, hh, List.getElem?_append_right (by rw [wd_len, shKb_ok.1]; omega), wd_len, shKb_ok.1, List.getElem?_append_right (by rw [u8s_len]; omega), u8s_len, hb]; rfl
theorem stvb_set_n {m : Nat} (hb : bs.length = 128) : (stvb h bs n lg).set 216 (.int .i64 (m : Int)) = stvb h bs m lg := by
 rw [stvb, stvb, List.set_append_right _ _ (by rw [wd_len]; omega), wd_len, hh, List.set_append_right _ _ (by rw [wd_len, shKb_ok.1]; omega), wd_len, shKb_ok.1, List.set_append_right _ _ (by rw [u8s_len]; omega), u8s_len, hb]; rfl
theorem stvb_set_l {m : Nat} (hb : bs.length = 128) : (stvb h bs n lg).set 217 (.int .u64 (m : Int)) = stvb h bs n m := by
 rw [stvb, stvb, List.set_append_right _ _ (by rw [wd_len]; omega), wd_len, hh, List.set_append_right _ _ (by rw [wd_len, shKb_ok.1]; omega), wd_len, shKb_ok.1, List.set_append_right _ _ (by rw [u8s_len]; omega), u8s_len, hb]; rfl
theorem stvb_set_b {j : Nat} {x : UInt8} (hj : j < bs.length) : (stvb h bs n lg).set (88 + j) (.int .u8 (x.toNat : Int)) = stvb h (bs.set j x) n lg := by
 rw [stvb, stvb, List.set_append_right _ _ (by rw [wd_len]; omega), wd_len, hh, List.set_append_right _ _ (by rw [wd_len, shKb_ok.1]; omega), wd_len, shKb_ok.1, show 88 + j - 8 - 80 = j by omega, List.set_append_left _ _ (by rw [u8s_len]; exact hj)]
 congr 3
 simp [u8s, List.map_set]
theorem stvb_set_h {j x : Nat} (hj : j < 8) : (stvb h bs n lg).set j (.int .u64 (x : Int)) = stvb (h.set j x) bs n lg := by
 rw [stvb, stvb, List.set_append_left _ _ (by rw [wd_len, hh]; exact hj), wd_set]
end
theorem schedb_any {g : Nat} {h : List Nat} {bs : List UInt8} {n lg : Nat} (w : World) (k0 : Arr w g (stvb h bs n lg)) (hh : h.length = 8) (hb : bs.length = 128) :
 Calls Tryz.prog 273 #[.pointer (some ⟨g, 0, none⟩)] w fun e w' => e = .returned (.agg (wd (schLb bs)).toArray) ∧ Below w.heap.size w w' := by
 have hr0 : Hid (∀ w', Arr w' g (stvb h bs n lg) → w'.rangeAt g 88 (u8s bs)) := zH (fun w' hk => hk.range (fun j hj => stvb_b hh (by rw [u8s_len] at hj; exact hj)))
 replace hb := zH hb
 clear hh
 have hl := zH (show (wd (schLb bs)).length = 80 by rw [wd_len]; exact (schWb_ok bs 64).1)
 obtain ⟨L, hL⟩ : ∃ L, schLb bs = L := ⟨_, rfl⟩
 rw [hL] at hl ⊢
 replace hL := zH hL
 go_enter Tryz.func273, Tryz.ntmps273
 go_upto_region 2 with fail
 refine wp_new2 (fun W hsz k2 k3 kb => ?_)
 have k2 : Arr W w.heap.size (wd (List.replicate 80 0)) := k2
 have k3 : Arr W (w.heap.size + 1) (wd (schBb bs 0)) := k3
 have lt0 := k0.lt
 have hr1 := hr0.out W (k0.below kb)
 obtain ⟨g2, hg2⟩ : ∃ g, w.heap.size = g := ⟨_, rfl⟩
 rw [hg2] at k2 k3 lt0 ⊢
 have hw2 : w.heap.size ≤ g2 := by omega
 clear hg2 hsz k0 hr0
 go_wp2_with (refine wpList_load_mid2 rfl _ _ rfl _ _ rfl zKr _ hr1 (by rw [u8s_len, hb.out]; kernel_rfl) ?_)
 clear hr1
 go_loopw [15] (fun iv wr => ∃ i : Nat, i ≤ 128 ∧ iv = .int .i64 i ∧ Arr wr g2 (wd (List.replicate 80 0)) ∧ Arr wr (g2 + 1) (wd (schBb bs i)) ∧ Below w.heap.size w wr) (fun iv _ => 128 - (intOf iv).toNat)
 case atStart => exact ⟨0, by omega, rfl, k2, k3, kb⟩
 case round =>
 clear k2 k3 kb
 obtain ⟨i, hi, rfl, k2, k3, kb⟩ := hrel
 have hi0 : (0 : Int) ≤ (i : Int) := by omega
 by_cases hin : i < 128
 · have hi1 : (i : Int) < 128 := by omega
   have hib : i < bs.length := by rw [hb.out]; exact hin
   obtain ⟨inf, hinf, -, hz1, -⟩ := info_parts info_u8
   have hix := run_index_arr (P := Tryz.prog) wr 241 5 128 _ inf Tryz.underlying241 Tryz.underlying5 rfl hinf hz1 (u8s bs) i _ hin (u8s_get bs i hib)
   obtain ⟨x, hx⟩ : ∃ x, (bs[i]).toNat = x := ⟨_, rfl⟩
   have lx : x < 256 := by rw [← hx]; exact (bs[i]).toNat_lt
   rw [hx] at hix
   have hxd : Hid ((bs.getD i 0).toNat = x) := zH (by rw [← hx, List.getD_eq_getElem?_getD, List.getElem?_eq_getElem hib]; rfl)
   clear hx hib hinf hz1
   have ok := schBb_ok bs i
   have hcx := wd_get (l := schBb bs i) (j := i / 8) (by rw [ok.1]; omega)
   have lyy := ok.2.get (i / 8)
   obtain ⟨y, hy⟩ : ∃ y, (schBb bs i).getD (i / 8) 0 = y := ⟨_, rfl⟩
   rw [hy] at hcx lyy
   have hst : Hid ((wd (schBb bs i)).set (i / 8) (.int .u64 (((y * 256 % 18446744073709551616) ||| x : Nat) : Int)) = wd (schBb bs (i + 1))) := zH (by rw [wd_set, schBb, hy, hxd.out])
   have hsl : Hid ((wd (schBb bs i)).length = 80) := zH (by rw [wd_len, ok.1])
   obtain ⟨l, hl⟩ : ∃ l, schBb bs i = l := ⟨_, rfl⟩
   rw [hl] at k3 hcx hst hsl
   obtain ⟨q, hq⟩ : ∃ q, i / 8 = q := ⟨_, rfl⟩
   rw [hq] at hcx hst
   have fq : (i : Int) / 8 = (q : Int) := by omega
   have hq0 : (0 : Int) ≤ (q : Int) := by omega
   have hq1 : (q : Int) < 80 := by omega
   have fw : IntKind.i64.wrap (q : Int) = (q : Int) := i64_in zOm
   have fx : IntKind.u64.wrap (x : Int) = (x : Int) := q64_in zOm
   have fo := or_q64 (a := y * 256 % 18446744073709551616) (b := x) (Nat.mod_lt _ zDc) (Nat.lt_trans lx zDc)
   rw [show ((y * 256 % 18446744073709551616 : Nat) : Int) = IntKind.u64.wrap ((y : Int) * 256) by rw [wrap_q64]; omega] at fo
   clear hy hl ok hxd
   obtain ⟨z, hz⟩ : ∃ z, (y * 256 % 18446744073709551616) ||| x = z := ⟨_, rfl⟩
   rw [hz] at fo hst
   replace hq := zH hq
   clear hz
   have hcel := k3.cell hcx
   have hfro := k3.frozen q
   replace hcx := zH hcx
   go_wp2_with fail
   replace k2 := k2.other (a := ⟨g2 + 1, q, none⟩) (by simp) (.int .u64 (z : Int))
   replace k3 := k3.set q (.int .u64 (z : Int))
   rw [hst.out] at k3
   exact ⟨⟨i + 1, by omega, by go_num, k2, k3, kb.setCell (by simp; omega) _⟩, by simp [intOf]; omega⟩
 · have dj : decide ((i : Int) < 128) = false := decide_eq_false zOm
   have hie : Hid (i = 128) := zH zOm
   rw [hie.out] at k3
   replace k3 : Arr wr (g2 + 1) (wd (schWb bs (16 - 16))) := k3
   clear hi hin hi0
   obtain ⟨ic, hic⟩ : ∃ ic : Int, (i : Int) = ic := ⟨_, rfl⟩
   rw [hic] at dj ⊢
   clear hic
   go_wp2_with fail
   clear dj
   go_loopw [6] (fun iv wr => ∃ t : Nat, 16 ≤ t ∧ t ≤ 80 ∧ iv = .int .i64 t ∧ Arr wr g2 (wd (List.replicate 80 0)) ∧ Arr wr (g2 + 1) (wd (schWb bs (t - 16))) ∧ Below w.heap.size w wr) (fun iv _ => 80 - (intOf iv).toNat)
   case atStart => exact ⟨16, by omega, by omega, rfl, k2, k3, kb⟩
   case round =>
   clear k2 k3 kb
   obtain ⟨t, ht0, ht, rfl, k2, k3, kb⟩ := hrel
   have hi0 : (0 : Int) ≤ (t : Int) := by omega
   by_cases hin : t < 80
   · have hi1 : (t : Int) < 80 := by omega
     have ok := schWb_ok bs (t - 16)
     have hst0 : (wd (schWb bs (t - 16))).set t (.int .u64 ((schNb (schWb bs (t - 16)) t : Nat) : Int)) = wd (schWb bs (t + 1 - 16)) := by
      rw [show t + 1 - 16 = t - 16 + 1 by omega, schWb, show 16 + (t - 16) = t by omega, wd_set]
     obtain ⟨l, hl⟩ : ∃ l, schWb bs (t - 16) = l := ⟨_, rfl⟩
     rw [hl] at k3 ok hst0
     clear hl
     obtain ⟨t15, e15⟩ : ∃ q, t - 15 = q := ⟨_, rfl⟩
     obtain ⟨t2, e2⟩ : ∃ q, t - 2 = q := ⟨_, rfl⟩
     obtain ⟨t7, e7⟩ : ∃ q, t - 7 = q := ⟨_, rfl⟩
     obtain ⟨t16, e16⟩ : ∃ q, t - 16 = q := ⟨_, rfl⟩
     have c15 := zH (wd_get (l := l) (j := t15) (by rw [ok.1]; omega))
     have c2 := zH (wd_get (l := l) (j := t2) (by rw [ok.1]; omega))
     have c7 := zH (wd_get (l := l) (j := t7) (by rw [ok.1]; omega))
     have c16 := zH (wd_get (l := l) (j := t16) (by rw [ok.1]; omega))
     have hsl : Hid ((wd l).length = 80) := zH (by rw [wd_len, ok.1])
     have l15 := ok.2.get t15
     have l2 := ok.2.get t2
     rw [schNb, e15, e2, e7, e16] at hst0
     clear ok
     obtain ⟨x, hx⟩ : ∃ x, l.getD t15 0 = x := ⟨_, rfl⟩
     obtain ⟨y, hy⟩ : ∃ x, l.getD t2 0 = x := ⟨_, rfl⟩
     obtain ⟨x7, hx7⟩ : ∃ x, l.getD t7 0 = x := ⟨_, rfl⟩
     obtain ⟨x16, hx16⟩ : ∃ x, l.getD t16 0 = x := ⟨_, rfl⟩
     rw [hx] at c15 l15 hst0
     rw [hy] at c2 l2 hst0
     rw [hx7] at c7 hst0
     rw [hx16] at c16 hst0
     clear hx hy hx7 hx16
     have m15 : IntKind.i64.wrap ((t : Int) - 15) = (t15 : Int) := by rw [i64_in zOm]; omega
     have m2 : IntKind.i64.wrap ((t : Int) - 2) = (t2 : Int) := by rw [i64_in zOm]; omega
     have m7 : IntKind.i64.wrap ((t : Int) - 7) = (t7 : Int) := by rw [i64_in zOm]; omega
     have m16 : IntKind.i64.wrap ((t : Int) - 16) = (t16 : Int) := by rw [i64_in zOm]; omega
     have b15 : (0 : Int) ≤ (t15 : Int) := by omega
     have b2 : (0 : Int) ≤ (t2 : Int) := by omega
     have b7 : (0 : Int) ≤ (t7 : Int) := by omega
     have b16 : (0 : Int) ≤ (t16 : Int) := by omega
     have d15 : (t15 : Int) < 80 := by omega
     have d2 : (t2 : Int) < 80 := by omega
     have d7 : (t7 : Int) < 80 := by omega
     have d16 : (t16 : Int) < 80 := by omega
     clear e15 e2 e7
     replace e16 := zH e16
     go_upto_region 10 with fail
     obtain ⟨wq, rfl⟩ : ∃ wq : World, wq = wr := ⟨_, rfl⟩
     refine Tx.start (fun w' => Below (wq).heap.size (wq) w') 9999 10 rfl zKr ?_
     have hS_1 : Below (wq).heap.size (wq) (World.drew wq) := (Below.refl _ _).drew
     refine Tx.seg (A := ?_) 0 1023 zKr (by exact hS_1) [0, 1, 2, 3, 4, 5, 6, 7, 8, 9] zKr ?_ ?_
     rotate_left
     · intro w' hB
       have f1 := (k3.below hB).cell c15.out
       have f2 := (k3.below hB).cell c2.out
       exact zRd
     refine Tx.done zKr ?_
     replace k2 := k2.below hS_1
     replace k3 := k3.below hS_1
     replace kb := bel kb hS_1
     clear hS_1 m15 m2 b15 b2 d15 d2 c15 c2
     go_wp2_with fail
     obtain ⟨p1, p1e⟩ : ∃ r, rL x 63 = r := ⟨_, rfl⟩
     have p1l : p1 < 18446744073709551616 := by rw [← p1e]; exact rL_lt l15 _
     obtain ⟨p2, p2e⟩ : ∃ r, rL x 56 = r := ⟨_, rfl⟩
     have p2l : p2 < 18446744073709551616 := by rw [← p2e]; exact rL_lt l15 _
     obtain ⟨p3, p3e⟩ : ∃ r, x / 128 = r := ⟨_, rfl⟩
     have p3l : p3 < 18446744073709551616 := by rw [← p3e]; exact div_ltb l15 _
     have p3f : (x : Int) / 128 = (p3 : Int) := by omega
     obtain ⟨p4, p4e⟩ : ∃ r, p1 ^^^ p2 = r := ⟨_, rfl⟩
     have p4l : p4 < 18446744073709551616 := by rw [← p4e]; exact xo_ltb p1l p2l
     have p4f : bits .xor .u64 (p1 : Int) (p2 : Int) = (p4 : Int) := by rw [xor_q64 p1l p2l, p4e]
     obtain ⟨pz, pze⟩ : ∃ r, shPb x = r := ⟨_, rfl⟩
     have p5f : bits .xor .u64 (p4 : Int) (p3 : Int) = (pz : Int) := by rw [xor_q64 p4l p3l, ← pze, shPb, p1e, p2e, p3e, p4e]
     rw [pze] at hst0
     replace p1e := zH p1e
     replace p2e := zH p2e
     clear p4e pze p1l p2l p3l p4l p3e
     obtain ⟨q1, q1e⟩ : ∃ r, rL y 45 = r := ⟨_, rfl⟩
     have q1l : q1 < 18446744073709551616 := by rw [← q1e]; exact rL_lt l2 _
     obtain ⟨q2, q2e⟩ : ∃ r, rL y 3 = r := ⟨_, rfl⟩
     have q2l : q2 < 18446744073709551616 := by rw [← q2e]; exact rL_lt l2 _
     obtain ⟨q3, q3e⟩ : ∃ r, y / 64 = r := ⟨_, rfl⟩
     have q3l : q3 < 18446744073709551616 := by rw [← q3e]; exact div_ltb l2 _
     have q3f : (y : Int) / 64 = (q3 : Int) := by omega
     obtain ⟨q4, q4e⟩ : ∃ r, q1 ^^^ q2 = r := ⟨_, rfl⟩
     have q4l : q4 < 18446744073709551616 := by rw [← q4e]; exact xo_ltb q1l q2l
     have q4f : bits .xor .u64 (q1 : Int) (q2 : Int) = (q4 : Int) := by rw [xor_q64 q1l q2l, q4e]
     obtain ⟨qz, qze⟩ : ∃ r, shQb y = r := ⟨_, rfl⟩
     have q5f : bits .xor .u64 (q4 : Int) (q3 : Int) = (qz : Int) := by rw [xor_q64 q4l q3l, ← qze, shQb, q1e, q2e, q3e, q4e]
     rw [qze] at hst0
     replace q1e := zH q1e
     replace q2e := zH q2e
     clear q4e qze q1l q2l q3l q4l q3e
     go_wp2_with fail
     refine (rotrb_1 l15 p1e.out _).mono ?_
     rintro e w_2 ⟨rfl, hb_2⟩
     have k2 := k2.below hb_2
     have k3 := k3.below hb_2
     have kb := bel kb hb_2
     clear hb_2
     go_wp2_with fail
     refine (rotrb_8 l15 p2e.out _).mono ?_
     rintro e w_3 ⟨rfl, hb_3⟩
     have k2 := k2.below hb_3
     have k3 := k3.below hb_3
     have kb := bel kb hb_3
     clear hb_3
     go_wp2_with fail
     refine (rotrb_19 l2 q1e.out _).mono ?_
     rintro e w_4 ⟨rfl, hb_4⟩
     have k2 := k2.below hb_4
     have k3 := k3.below hb_4
     have kb := bel kb hb_4
     clear hb_4
     go_wp2_with fail
     refine (rotrb_61 l2 q2e.out _).mono ?_
     rintro e w_5 ⟨rfl, hb_5⟩
     have k2 := k2.below hb_5
     have k3 := k3.below hb_5
     have kb := bel kb hb_5
     clear hb_5
     clear p1e p2e q1e q2e
     obtain ⟨s1, hs1⟩ : ∃ s, (qz + x7) % 18446744073709551616 = s := ⟨_, rfl⟩
     obtain ⟨s2, hs2⟩ : ∃ s, (s1 + pz) % 18446744073709551616 = s := ⟨_, rfl⟩
     obtain ⟨s3, hs3⟩ : ∃ s, (s2 + x16) % 18446744073709551616 = s := ⟨_, rfl⟩
     have a1 : IntKind.u64.wrap ((qz : Int) + (x7 : Int)) = (s1 : Int) := by rw [show ((qz : Int) + (x7 : Int)) = ((qz + x7 : Nat) : Int) by omega, q64_mod, hs1]
     have a2 : IntKind.u64.wrap ((s1 : Int) + (pz : Int)) = (s2 : Int) := by rw [show ((s1 : Int) + (pz : Int)) = ((s1 + pz : Nat) : Int) by omega, q64_mod, hs2]
     have a3 : IntKind.u64.wrap ((s2 : Int) + (x16 : Int)) = (s3 : Int) := by rw [show ((s2 : Int) + (x16 : Int)) = ((s2 + x16 : Nat) : Int) by omega, q64_mod, hs3]
     have hst : Hid ((wd l).set t (.int .u64 (s3 : Int)) = wd (schWb bs (t + 1 - 16))) := zH (by rw [← hst0, show (qz + x7 + pz + x16) % 18446744073709551616 = s3 by omega])
     clear hst0 hs1 hs2 hs3
     go_upto_region 13 with fail
     obtain ⟨wq, hwq⟩ : ∃ wq : World, w_5 = wq := ⟨_, rfl⟩
     rw [hwq] at k2 k3 kb ⊢
     clear hwq
     refine Tx.start (fun w' => Below (wq).heap.size (wq) w') 15 16 rfl zKr ?_
     have hS_6 : Below (wq).heap.size (wq) (World.drew wq) := (Below.refl _ _).drew
     refine Tx.seg (A := ?_) 1 32767 zKr (by exact hS_6) [0, 1, 2, 3, 4, 5, 6, 7, 8, 9, 10, 11, 12, 13, 14] zKr ?_ ?_
     rotate_left
     · intro w' hB
       have f1 := (k3.below hB).cell c7.out
       have f2 := (k3.below hB).cell c16.out
       exact zRd
     refine Tx.bar 65535 rfl zDk (fun K hK => ?_)
     replace k2 := k2.below hS_6
     replace k3 := k3.below hS_6
     replace kb := bel kb hS_6
     clear hS_6
     refine step_cellG rfl _ _ _ rfl (g2 + 1) t (.int .u64 (s3 : Int)) rfl rfl _ k3 zKr (by rw [hsl.out]; exact hin) rfl (fun w5 k3 hg hsz => ?_)
     rw [hst.out] at k3
     replace k2 := k2.kept hg zOm
     replace kb := below_gr kb hg zOm kb.size
     refine hK (fun _ => True) 9999 _ _ ?_
     clear hK K
     try simp only [Act.put]
     try simp only [zSa, zSz, zSs]
     refine Tx.done zKr ?_
     go_wp2_with fail
     exact ⟨⟨t + 1, by omega, by omega, by go_num, k2, k3, kb⟩, by simp [intOf]; omega⟩
   · have dj : decide ((t : Int) < 80) = false := decide_eq_false zOm
     have hie : Hid (t = 80) := zH zOm
     rw [hie.out] at k3
     replace k3 : Arr wr (g2 + 1) (wd (schLb bs)) := k3
     rw [hL.out] at k3
     clear hL hi0 hin ht ht0
     obtain ⟨ic, hic⟩ : ∃ ic : Int, (t : Int) = ic := ⟨_, rfl⟩
     rw [hic] at dj ⊢
     clear hic hie
     go_wp2_with (first | (refine wpList_load_arr2 rfl _ _ rfl _ rfl zDk _ k3 (by rw [hl.out]; kernel_rfl) ?_) | (refine wpl_storeG rfl _ _ _ rfl _ (wd L) rfl rfl _ k2 (by rw [hl.out]; kernel_rfl) (by rw [hl.out, wd_len]; rfl) (wd_one _) (fun w7 k2 hg hsz => ?_)))
     have qb := below_gr kb hg zOm kb.size
     exact bodyPost_ret (results_arr2 Tryz.results273 _ _ _ rfl zKr _ k2 (by rw [hl.out]; kernel_rfl)) rfl ⟨rfl, qb⟩
end Go.Proofs.YtibdgkhkhmdihaaGreatDoor
