/- PortcullisWrong: part 15 of its proof: lemmas and contracts, each with its conditions in its own statement; the last part holds the law itself. -/
import Derived.Test.YtibdgkhkhmdihaaGreatDoorJe14

set_option maxHeartbeats 4000000
set_option maxRecDepth 100000
namespace Go.Proofs.YtibdgkhkhmdihaaGreatDoor
open Go.RowKit
theorem and_248 : ∀ x : Nat, x < 256 → bits .and .u8 (x : Int) 248 = ((x - x % 8 : Nat) : Int) := by decide +kernel
theorem and_127 : ∀ x : Nat, x < 256 → bits .and .u8 (x : Int) 127 = ((x % 128 : Nat) : Int) := by decide +kernel
theorem or_64 : ∀ x : Nat, x < 128 → bits .or .u8 (x : Int) 64 = ((x % 64 + 64 : Nat) : Int) := by decide +kernel
def clampN (k : Nat) : Nat := (k - k % 8) % 2 ^ 254 + 2 ^ 254
theorem clamp_lt (k : Nat) : clampN k < 2 ^ 255 := by
 unfold clampN
 have := Nat.mod_lt (k - k % 8) (show 0 < 2 ^ 254 by decide)
 omega
theorem lclamp_any (k : Nat) (hk : k < 256 ^ 32) (w : World) :
 Calls Tryz.prog 118 #[.agg (byts k).toArray] w fun e w' => e = .returned (.agg (byts (clampN k)).toArray) ∧ Below w.heap.size w w' := by
 obtain ⟨d0, hd0⟩ : ∃ d, k / 256 ^ 0 % 256 = d := ⟨_, rfl⟩
 have l0 : d0 < 256 := hd0 ▸ Nat.mod_lt _ zDc
 have a0 := and_248 d0 l0
 have e0 : k - k % 8 = k - d0 + (d0 - d0 % 8) := by rw [← hd0]; omega
 obtain ⟨k1, hk1⟩ : ∃ k1, k - k % 8 = k1 := ⟨_, rfl⟩
 have s0 : (byts k).set 0 (.int .u8 ((d0 - d0 % 8 : Nat) : Int)) = byts k1 := byts_set zDc hk zOm (by rw [hd0, ← hk1, e0]; omega)
 have hk1l : k1 < 256 ^ 32 := by omega
 obtain ⟨d31, hd31⟩ : ∃ d, k1 / 256 ^ 31 % 256 = d := ⟨_, rfl⟩
 have l31 : d31 < 256 := hd31 ▸ Nat.mod_lt _ zDc
 have a1 := and_127 d31 l31
 have a2 : bits .or .u8 ((d31 : Int) % 128) 64 = ((d31 % 128 % 64 + 64 : Nat) : Int) := by
  rw [show (d31 : Int) % 128 = ((d31 % 128 : Nat) : Int) by omega]
  exact or_64 (d31 % 128) (Nat.mod_lt _ zDc)
 have hc : clampN k = k1 % 2 ^ 254 + 2 ^ 254 := by rw [clampN, hk1]
 have s1 : (byts k1).set 31 (.int .u8 ((d31 % 128 % 64 + 64 : Nat) : Int)) = byts (clampN k) := byts_set zDc hk1l zOm (by
  rw [hd31, hc]
  have : k1 / 256 ^ 31 = d31 := by omega
  omega)
 rw [show (((d31 % 128 % 64 + 64 : Nat) : Int)) = (d31 : Int) % 64 + 64 by omega] at s1 a2
 generalize clampN k = R at s1 ⊢
 have g0 := byts_get k 0 zDc
 have g1 := byts_get k1 31 zDc
 rw [hd0] at g0
 rw [hd31] at g1
 replace s0 := zH s0
 replace s1 := zH s1
 replace g1 := zH g1
 clear hk hd0 e0 hk1 hk1l hd31 hc
 go_enter Tryz.func118, Tryz.ntmps118
 go_upto_region 1 with fail
 refine wp_new2 (fun W hsz k1 k2 kb => ?_)
 have k2 : Arr W (w.heap.size + 1) (byts 0) := k2
 have hcel := k1.cell g0
 have hfro := k1.frozen 0
 clear g0
 go_upto_region 2 with fail
 refine code_cell k1 (fun w_1 k1 hoth hbel => ?_)
 have k2 := hoth _ _ zOm k2
 have kb := hbel _ _ zOm kb
 clear hoth hbel
 rw [s0.out] at k1
 clear hcel hfro a0
 have hcel := k1.cell g1.out
 have hfro := k1.frozen 31
 go_upto_region 3 with fail
 refine code_cell k1 (fun w_2 k1 hoth hbel => ?_)
 have k2 := hoth _ _ zOm k2
 have kb := hbel _ _ zOm kb
 clear hoth hbel
 rw [s1.out] at k1
 clear hcel hfro a1 a2
 go_wp2_with (first | (refine zLd ?_) | (refine zSt ?_))
 exact bodyPost_ret (results_arr2 Tryz.results118 _ _ _ rfl zKr _ (by first | assumption | exact Arr.setRow zAm _) zLn) rfl ⟨rfl, below_setRow kb zOm _⟩
structure St where
 a : Nat
 b : Nat
 c : Nat
 d : Nat
def St.swp (s : Nat) (v : St) : St := if s = 1 then ⟨v.c, v.d, v.a, v.b⟩ else v
def stepN (x : Nat) (v : St) : St :=
 let p := (v.a + v.b) % pN
 let m := (v.a + pN - v.b) % pN
 let pp := p * p % pN
 let mm := m * m % pN
 let e := (pp + pN - mm) % pN
 let da := (v.c + pN - v.d) % pN * p % pN
 let cb := (v.c + v.d) % pN * m % pN
 let s := (da + cb) % pN
 let t := (da + pN - cb) % pN
 ⟨pp * mm % pN, e * ((pp + 121665 * e % pN) % pN) % pN, s * s % pN, x * (t * t % pN) % pN⟩
def ladT (x n : Nat) : Nat → St
 | 0 => ⟨1, 0, x, 1⟩
 | m + 1 => (stepN x ((ladT x n m).swp (n / 2 ^ (254 - m) % 2))).swp (n / 2 ^ (254 - m) % 2)
def lmulN (k u : Nat) : Nat := (ladT (u % 2 ^ 255 % pN) (clampN k) 255).a * ((ladT (u % 2 ^ 255 % pN) (clampN k) 255).b ^ (pN - 2) % pN) % pN
def St.low (v : St) : Prop := v.a < pN ∧ v.b < pN ∧ v.c < pN ∧ v.d < pN
theorem St.low_swp {v : St} (h : v.low) (s : Nat) : (v.swp s).low := by
 unfold St.swp
 split
 · exact ⟨h.2.2.1, h.2.2.2, h.1, h.2.1⟩
 · exact h
theorem step_low (x : Nat) (v : St) : (stepN x v).low := ⟨Nat.mod_lt _ pN_pos, Nat.mod_lt _ pN_pos, Nat.mod_lt _ pN_pos, Nat.mod_lt _ pN_pos⟩
theorem lad_low {x : Nat} (hx : x < pN) (n : Nat) : ∀ m, (ladT x n m).low
 | 0 => ⟨show 1 < pN by decide, show 0 < pN by decide, hx, show 1 < pN by decide⟩
 | _ + 1 => St.low_swp (step_low _ _) _
theorem swp_swp (v : St) {s t s' : Nat} (hs : s ≤ 1) (ht : t ≤ 1) (h : s' = (s + t) % 2) : (v.swp s).swp s' = v.swp t := by
 have h1 : s = 0 ∨ s = 1 := by omega
 have h2 : t = 0 ∨ t = 1 := by omega
 rcases h1 with rfl | rfl <;> rcases h2 with rfl | rfl <;> subst h <;> rfl
theorem swp_self (v : St) (s : Nat) : (v.swp s).swp s = v := by
 unfold St.swp
 by_cases h : s = 1
 · rw [if_pos h, if_pos h]
 · rw [if_neg h, if_neg h]
theorem swp_pick (v : St) (s : Nat) : v.swp s = ⟨pickN s v.a v.c, pickN s v.b v.d, pickN s v.c v.a, pickN s v.d v.b⟩ := by
 unfold St.swp pickN
 split <;> rfl
theorem xor_bit {s t : Nat} (hs : s ≤ 1) (ht : t ≤ 1) : bits .xor .u64 (s : Int) (t : Int) = (((s + t) % 2 : Nat) : Int) := by
 have h1 : s = 0 ∨ s = 1 := by omega
 have h2 : t = 0 ∨ t = 1 := by omega
 rcases h1 with rfl | rfl <;> rcases h2 with rfl | rfl <;> decide
theorem step_st {x : Nat} {v r : St} (hx : x < pN) (hv : v.low) (hr : Hid (stepN x v = r)) (w : World) :
 Calls Tryz.prog 202 #[.agg (lims 4 x).toArray, .agg (lims 4 v.a).toArray, .agg (lims 4 v.b).toArray, .agg (lims 4 v.c).toArray, .agg (lims 4 v.d).toArray] w fun e w' =>
  e = .returned (.tuple #[.agg (lims 4 r.a).toArray, .agg (lims 4 r.b).toArray, .agg (lims 4 r.c).toArray, .agg (lims 4 r.d).toArray]) ∧ Below w.heap.size w w' := by
 rw [← hr.out]
 exact step_any x v.a v.b v.c v.d hx hv.1 hv.2.1 hv.2.2.1 hv.2.2.2 (zH rfl) (zH rfl) (zH rfl) (zH rfl) (zH rfl) (zH rfl) (zH rfl) (zH rfl) (zH rfl) (zH rfl) (zH rfl)
  (zH rfl) (zH rfl) (zH rfl) (zH rfl) (zH rfl) (zH rfl) (zH rfl) w
theorem pick_r {a b s r : Nat} (hr : Hid (pickN s a b = r)) (hs : s ≤ 1) (w : World) :
 Calls Tryz.prog 201 #[.agg (lims 4 a).toArray, .agg (lims 4 b).toArray, .int .u64 s] w fun e w' => e = .returned (.agg (lims 4 r).toArray) ∧ Below w.heap.size w w' := by
 rw [← hr.out]; exact limPick_any a b s hs w
theorem lmul_any (k u : Nat) (hk : k < 256 ^ 32) (hu : u < 256 ^ 32) (w : World) :
 Calls Tryz.prog 143 #[.agg (byts k).toArray, .agg (byts u).toArray] w fun e w' => e = .returned (.agg (byts (lmulN k u)).toArray) ∧ Below w.heap.size w w' := by
 have hp4 : pN < 18446744073709551616 ^ 4 := by decide
 obtain ⟨d31, hd31⟩ : ∃ d, u / 256 ^ 31 % 256 = d := ⟨_, rfl⟩
 have l31 : d31 < 256 := hd31 ▸ Nat.mod_lt _ zDc
 have a1 := and_127 d31 l31
 obtain ⟨u1, hu1⟩ : ∃ v, u % 2 ^ 255 = v := ⟨_, rfl⟩
 have s1 : (byts u).set 31 (.int .u8 ((d31 % 128 : Nat) : Int)) = byts u1 := byts_set zDc hu zOm (by
  rw [hd31, ← hu1]
  have : u / 256 ^ 31 = d31 := by omega
  omega)
 have a1' : (((d31 % 128 : Nat) : Int)) = (d31 : Int) % 128 := by omega
 rw [a1'] at s1 a1
 have hu1l : u1 < 256 ^ 32 := by omega
 obtain ⟨n, hn⟩ : ∃ n, clampN k = n := ⟨_, rfl⟩
 have hnl : n < 256 ^ 32 := by
  have := clamp_lt k
  rw [hn] at this
  exact Nat.lt_trans this zDc
 obtain ⟨x, hx⟩ : ∃ x, u1 % pN = x := ⟨_, rfl⟩
 have hxp : x < pN := hx ▸ Nat.mod_lt _ pN_pos
 obtain ⟨L, hL⟩ : ∃ L : Nat → St, ladT x n = L := ⟨_, rfl⟩
 have hL0 : L 0 = ⟨1, 0, x, 1⟩ := by rw [← hL]; rfl
 have hLs : ∀ m, L (m + 1) = (stepN x ((L m).swp (n / 2 ^ (254 - m) % 2))).swp (n / 2 ^ (254 - m) % 2) := fun m => by rw [← hL]; rfl
 have hLl : ∀ m, (L m).low := fun m => by rw [← hL]; exact lad_low hxp n m
 obtain ⟨v, hv⟩ : ∃ v, ∀ m, m = 255 → L m = v := ⟨L 255, by rintro m rfl; rfl⟩
 have hvl : v.low := hv 255 rfl ▸ hLl 255
 obtain ⟨i1, hi1⟩ : ∃ i, v.b ^ (pN - 2) % pN = i := ⟨_, rfl⟩
 obtain ⟨r, hr⟩ : ∃ r, v.a * i1 % pN = r := ⟨_, rfl⟩
 have hres : lmulN k u = r := by rw [lmulN, hn, hu1, hx, hL, hv 255 rfl, hi1, hr]
 rw [hres]
 have c0 := fun w => lclamp_any k hk w
 rw [hn] at c0
 have c1 := zH (fun w => limOf_any n hnl w)
 have c2 := zH (fun w => limOf_any u1 hu1l w)
 have c3 := fun w => lessen_any u1 (lim_of32 hu1l) w
 rw [hx] at c3
 have c4 := fun w => inverse_any v.b (Nat.lt_trans hvl.2.1 hp4) w
 rw [hi1] at c4
 have c5 := fun w => times_any v.a i1 (Nat.lt_trans hvl.1 hp4) (hi1 ▸ p_lt4 _) w
 rw [hr] at c5
 have c6 := zH (fun w => limNum_any r w)
 have g31 := byts_get u 31 zDc
 rw [hd31] at g31
 replace c0 := zH c0
 replace c3 := zH c3
 replace c4 := zH c4
 replace c5 := zH c5
 replace g31 := zH g31
 replace s1 := zH s1
 replace hL0 := zH hL0
 replace hLs := zH hLs
 replace hLl := zH hLl
 replace hv := zH hv
 have hnl4 := zH (lim_of32 hnl)
 clear hr hres hi1 hvl hL hx hnl hn hu1l a1' hu1 hd31 hp4 hk hu
 go_enter Tryz.func143, Tryz.ntmps143
 go_upto_region 1 with fail
 refine wp_new3 (fun W hsz k2 k3 k4 kb => ?_)
 have k4 : Arr W (w.heap.size + 1 + 1) (byts 0) := k4
 clear hsz
 go_upto_region 1 with (first | (refine zLd ?_) | (refine zSt ?_))
 go_wp2_with (first | (refine zLd ?_) | (refine zSt ?_))
 refine (c0.out _).mono ?_
 rintro e w_3 ⟨rfl, hb_3⟩
 have k2 := k2.below hb_3
 have k3 := k3.below hb_3
 have k4 := k4.below hb_3
 have kb := bel kb hb_3
 clear hb_3
 go_wp2_with (first | (refine zLd ?_) | (refine zSt ?_))
 refine (c1.out _).mono ?_
 rintro e w_4 ⟨rfl, hb_4⟩
 have k2 := k2.below hb_4
 have k3 := k3.below hb_4
 have k4 := k4.below hb_4
 have kb := bel kb hb_4
 clear hb_4
 go_upto_region 2 with (first | (refine zLd ?_) | (refine zSt ?_))
 have hg_k5_k2 := k2.lt
 have hg_k5_k3 := k3.lt
 have hg_k5_k4 := k4.lt
 refine code_new (fun w_5 k5 hnew => ?_)
 have k2 := k2.below hnew
 have k3 := k3.below hnew
 have k4 := k4.below hnew
 have kb := bel kb hnew
 clear hnew
 generalize (w_4).heap.size = g_k5 at k5 hg_k5_k2 hg_k5_k3 hg_k5_k4 ⊢
 have hcel := k3.cell g31.out
 have hfro := k3.frozen 31
 go_upto_region 3 with fail
 refine code_cell k3 (fun w_6 k3 hoth hbel => ?_)
 have k2 := hoth _ _ zOm k2
 have k4 := hoth _ _ zOm k4
 have k5 := hoth _ _ zOm k5
 have kb := hbel _ _ zOm kb
 clear hoth hbel
 rw [s1.out] at k3
 clear hcel hfro a1 k2
 go_upto_region 3 with (first | (refine zLd ?_) | (refine zSt ?_))
 go_wp2_with (first | (refine zLd ?_) | (refine zSt ?_))
 refine (c2.out _).mono ?_
 rintro e w_7 ⟨rfl, hb_7⟩
 have k3 := k3.below hb_7
 have k4 := k4.below hb_7
 have k5 := k5.below hb_7
 have kb := bel kb hb_7
 clear hb_7
 go_wp2_with (first | (refine zLd ?_) | (refine zSt ?_))
 refine (c3.out _).mono ?_
 rintro e w_8 ⟨rfl, hb_8⟩
 have k3 := k3.below hb_8
 have k4 := k4.below hb_8
 have k5 := k5.below hb_8
 have kb := bel kb hb_8
 clear hb_8
 go_upto_region 4 with (first | (refine zLd ?_) | (refine zSt ?_))
 have hg_k6_k3 := k3.lt
 have hg_k6_k4 := k4.lt
 have hg_k6_k5 := k5.lt
 refine code_new (fun w_9 k6 hnew => ?_)
 have k3 := k3.below hnew
 have k4 := k4.below hnew
 have k5 := k5.below hnew
 have kb := bel kb hnew
 clear hnew
 generalize (w_8).heap.size = g_k6 at k6 hg_k6_k3 hg_k6_k4 hg_k6_k5 ⊢
 go_upto_region 4 with (first | (refine zLd ?_) | (refine zSt ?_))
 refine Tx.start (fun w' => Below (w_9).heap.size (w_9) w') 11 12 rfl zKr ?_
 have hS_10 : Below (w_9).heap.size (w_9) (World.drew w_9) := (Below.refl _ _).drew
 refine Tx.seg2 (A := ?_) 8 15 zKr (by exact hS_10) [0, 1, 2, 3] zKr ?_ ?_
 rotate_left
 · intro w' hB
   have e0 := k4.below hB
   have e1 := k5.below hB
   have e2 := k6.below hB
   exact zRd
 refine Tx.poolB 4 255 [(4, 7), (5, 8), (6, 9), (7, 10)] [(false, []), (false, []), (false, []), (false, [])] [(4, Ph.arr (w_9).heap.size (lims 4 0)), (5, Ph.arr (w_9).heap.size (lims 4 0)), (6, Ph.arr (w_9).heap.size (lims 4 0)), (7, Ph.arr (w_9).heap.size (lims 4 0))] zKr zKr (by first | assumption | exact (Below.refl _ _).drew) ?_ ?_
 · refine ⟨⟨_, rfl, ?_⟩, ⟨_, rfl, ?_⟩, ⟨_, rfl, ?_⟩, ⟨_, rfl, ?_⟩, trivial⟩
   · intro vs w1 hS hE hD K hK
     clear hD
     simp only [fillL, Act.put, zSa, zSz, zSs] at hK ⊢
     go_simp
     exact hK _ _ ⟨_, rfl, Nat.le_trans zLe hE.size, Arr.new _ _ _⟩ (below_alloc _ _) (fun _ => ⟨_, rfl, Nat.le_refl _⟩)
   · intro vs w1 hS hE hD K hK
     clear hD
     simp only [fillL, Act.put, zSa, zSz, zSs] at hK ⊢
     go_simp
     exact hK _ _ ⟨_, rfl, Nat.le_trans zLe hE.size, Arr.new _ _ _⟩ (below_alloc _ _) (fun _ => ⟨_, rfl, Nat.le_refl _⟩)
   · intro vs w1 hS hE hD K hK
     clear hD
     simp only [fillL, Act.put, zSa, zSz, zSs] at hK ⊢
     go_simp
     exact hK _ _ ⟨_, rfl, Nat.le_trans zLe hE.size, Arr.new _ _ _⟩ (below_alloc _ _) (fun _ => ⟨_, rfl, Nat.le_refl _⟩)
   · intro vs w1 hS hE hD K hK
     clear hD
     simp only [fillL, Act.put, zSa, zSz, zSs] at hK ⊢
     go_simp
     exact hK _ _ ⟨_, rfl, Nat.le_trans zLe hE.size, Arr.new _ _ _⟩ (below_alloc _ _) (fun _ => ⟨_, rfl, Nat.le_refl _⟩)
 intro vs w_p4_5648 hS_p4_5648 hE_p4_5648 hP hD
 obtain ⟨q4, q5, q6, q7, -⟩ := hP
 simp only [fillL, Act.put, zSa, zSz, zSs]
 obtain ⟨g4, e4, hg4, ha4⟩ := q4
 rw [e4]
 obtain ⟨g5, e5, hg5, ha5⟩ := q5
 rw [e5]
 obtain ⟨g6, e6, hg6, ha6⟩ := q6
 rw [e6]
 obtain ⟨g7, e7, hg7, ha7⟩ := q7
 rw [e7]
 have ne4_5 : g4 ≠ g5 := fun h => hD 4 5 rfl rfl rfl rfl rfl (by rw [e4, e5, h])
 have ne4_6 : g4 ≠ g6 := fun h => hD 4 6 rfl rfl rfl rfl rfl (by rw [e4, e6, h])
 have ne4_7 : g4 ≠ g7 := fun h => hD 4 7 rfl rfl rfl rfl rfl (by rw [e4, e7, h])
 have ne5_6 : g5 ≠ g6 := fun h => hD 5 6 rfl rfl rfl rfl rfl (by rw [e5, e6, h])
 have ne5_7 : g5 ≠ g7 := fun h => hD 5 7 rfl rfl rfl rfl rfl (by rw [e5, e7, h])
 have ne6_7 : g6 ≠ g7 := fun h => hD 6 7 rfl rfl rfl rfl rfl (by rw [e6, e7, h])
 clear e4 e5 e6 e7 hD vs
 have lt_k7_k4 := Nat.lt_of_lt_of_le k4.lt hg4
 have lt_k7_k5 := Nat.lt_of_lt_of_le k5.lt hg4
 have lt_k7_k6 := Nat.lt_of_lt_of_le k6.lt hg4
 have lt_k8_k4 := Nat.lt_of_lt_of_le k4.lt hg5
 have lt_k8_k5 := Nat.lt_of_lt_of_le k5.lt hg5
 have lt_k8_k6 := Nat.lt_of_lt_of_le k6.lt hg5
 have lt_k9_k4 := Nat.lt_of_lt_of_le k4.lt hg6
 have lt_k9_k5 := Nat.lt_of_lt_of_le k5.lt hg6
 have lt_k9_k6 := Nat.lt_of_lt_of_le k6.lt hg6
 have lt_k10_k4 := Nat.lt_of_lt_of_le k4.lt hg7
 have lt_k10_k5 := Nat.lt_of_lt_of_le k5.lt hg7
 have lt_k10_k6 := Nat.lt_of_lt_of_le k6.lt hg7
 have k4 := k4.below hS_p4_5648
 have k5 := k5.below hS_p4_5648
 have k6 := k6.below hS_p4_5648
 have kb := bel kb hS_p4_5648
 have k7 := ha4
 clear ha4
 generalize g4 = g_k7 at *
 have k8 := ha5
 clear ha5
 generalize g5 = g_k8 at *
 have k9 := ha6
 clear ha6
 generalize g6 = g_k9 at *
 have k10 := ha7
 clear ha7
 generalize g7 = g_k10 at *
 refine Tx.eff 8 511 rfl zDk (fun K hK => ?_)
 refine step_store_arr rfl _ _ _ rfl _ _ rfl rfl _ zAm zLn zLm zOn ?_
 refine hK (fun w' => Below (w_9).heap.size (w_9) w') _ _ (below_setRow hS_p4_5648 zOm _) (fun _ h => h) ?_
 clear hK K
 try simp only [Act.put]
 refine Tx.row k7 (fun w_11 k7 hoth hbel => ?_)
 have k4 := hoth _ _ zOm k4
 have k5 := hoth _ _ zOm k5
 have k6 := hoth _ _ zOm k6
 have k8 := hoth _ _ zOm k8
 have k9 := hoth _ _ zOm k9
 have k10 := hoth _ _ zOm k10
 have kb := hbel _ _ zOm kb
 have hS_p4_5648 := hbel _ _ zOm hS_p4_5648
 clear hoth hbel
 refine Tx.eff 9 1023 rfl zDk (fun K hK => ?_)
 refine step_store_arr rfl _ _ _ rfl _ _ rfl rfl _ zAm zLn zLm zOn ?_
 refine hK (fun w' => Below (w_9).heap.size (w_9) w') _ _ (below_setRow hS_p4_5648 zOm _) (fun _ h => h) ?_
 clear hK K
 try simp only [Act.put]
 refine Tx.row k8 (fun w_12 k8 hoth hbel => ?_)
 have k4 := hoth _ _ zOm k4
 have k5 := hoth _ _ zOm k5
 have k6 := hoth _ _ zOm k6
 have k7 := hoth _ _ zOm k7
 have k9 := hoth _ _ zOm k9
 have k10 := hoth _ _ zOm k10
 have kb := hbel _ _ zOm kb
 have hS_p4_5648 := hbel _ _ zOm hS_p4_5648
 clear hoth hbel
 refine Tx.eff 10 2047 rfl zDk (fun K hK => ?_)
 refine step_store_arr rfl _ _ _ rfl _ _ rfl rfl _ zAm zLn zLm zOn ?_
 refine hK (fun w' => Below (w_9).heap.size (w_9) w') _ _ (below_setRow hS_p4_5648 zOm _) (fun _ h => h) ?_
 clear hK K
 try simp only [Act.put]
 refine Tx.row k9 (fun w_13 k9 hoth hbel => ?_)
 have k4 := hoth _ _ zOm k4
 have k5 := hoth _ _ zOm k5
 have k6 := hoth _ _ zOm k6
 have k7 := hoth _ _ zOm k7
 have k8 := hoth _ _ zOm k8
 have k10 := hoth _ _ zOm k10
 have kb := hbel _ _ zOm kb
 have hS_p4_5648 := hbel _ _ zOm hS_p4_5648
 clear hoth hbel
 refine Tx.bar 4095 rfl zDk (fun K hK => ?_)
 refine step_store_arr rfl _ _ _ rfl _ _ rfl rfl _ zAm zLn zLm zOn ?_
 refine hK (fun _ => True) 9999 _ _ ?_
 clear hK K
 try simp only [Act.put]
 try simp only [zSa, zSz, zSs]
 refine Tx.done zKr ?_
 first | refine then_row k10 (fun w_14 k10 hoth hbel => ?_) | refine inb_row k10 (fun w_14 k10 hoth hbel => ?_)
 have k4 := hoth _ _ zOm k4
 have k5 := hoth _ _ zOm k5
 have k6 := hoth _ _ zOm k6
 have k7 := hoth _ _ zOm k7
 have k8 := hoth _ _ zOm k8
 have k9 := hoth _ _ zOm k9
 have kb := hbel _ _ zOm kb
 clear hoth hbel
 have k7 : Arr w_14 g_k7 (lims 4 1) := k7
 have k8 : Arr w_14 g_k8 (lims 4 0) := k8
 have k9 : Arr w_14 g_k9 (lims 4 x) := k9
 have k10 : Arr w_14 g_k10 (lims 4 1) := k10
 clear hg4 hg5 hg6 hg7
 go_wp2_with fail
 go_loopw [11, 12] (fun sv kv wr => ∃ (j s : Nat) (a : St), j ≤ 255 ∧ s ≤ 1 ∧ sv = .int .u64 (s : Int) ∧ kv = .int .i64 ((j : Int) - 1) ∧ a = (L (255 - j)).swp s ∧ Arr wr (w.heap.size + 1 + 1) (byts 0) ∧ Arr wr g_k5 (lims 4 n) ∧ Arr wr g_k6 (lims 4 x) ∧ Arr wr g_k7 (lims 4 a.a) ∧ Arr wr g_k8 (lims 4 a.b) ∧ Arr wr g_k9 (lims 4 a.c) ∧ Arr wr g_k10 (lims 4 a.d) ∧ Below w.heap.size w wr) (fun _ kv _ => (intOf kv + 1).toNat)
 case atStart => exact ⟨255, 0, ⟨1, 0, x, 1⟩, Nat.le_refl _, by decide, rfl, rfl, by rw [show 255 - 255 = 0 from rfl, hL0.out]; rfl, k4, k5, k6, k7, k8, k9, k10, kb⟩
 case round =>
  clear k4 k5 k6 k7 k8 k9 k10 kb
  obtain ⟨j, s, a, hj, hs, rfl, rfl, ha, k4, k5, k6, k7, k8, k9, k10, kb⟩ := hrel
  have hal : a.low := ha ▸ St.low_swp (hLl.out _) s
  rcases Nat.eq_zero_or_pos j with rfl | hj0
  · have e : ((0 : Nat) : Int) - 1 = -1 := rfl
    rw [e]
    clear e
    have hfin : a.swp s = v := by
     rw [ha, swp_self, hv.out (255 - 0) rfl]
    have hpk := swp_pick a s
    rw [hfin] at hpk
    have p1 := zH (show pickN s a.a a.c = v.a by rw [hpk])
    have p2 := zH (show pickN s a.b a.d = v.b by rw [hpk])
    have d1 := zH (fun w => pick_r p1 hs w)
    have d2 := zH (fun w => pick_r p2 hs w)
    clear hpk hfin ha hal p1 p2 hLs hLl hv hL0
    go_upto_region 15 with fail
    go_upto_region 15 with (first | (refine zLd ?_) | (refine zSt ?_))
    refine Tx.start (fun w' => Below (wr).heap.size (wr) w') 8 10 rfl zKr ?_
    have hS_15 : Below (wr).heap.size (wr) (World.drew wr) := (Below.refl _ _).drew
    refine Tx.seg2 (A := ?_) 4 119 zKr (by exact hS_15) [0, 1, 2, 4, 5, 6] zKr ?_ ?_
    rotate_left
    · intro w' hB
      have e0 := k4.below hB
      have e1 := k5.below hB
      have e2 := k6.below hB
      have e3 := k7.below hB
      have e4 := k8.below hB
      have e5 := k9.below hB
      have e6 := k10.below hB
      exact zRd
    refine Tx.eff 3 127 rfl zDk (fun K hK => ?_)
    go_simp
    refine (d1.out _).mono ?_
    rintro e w_16 ⟨rfl, hb_16⟩
    have hS_16 := ext_trans hS_15 (Nat.le_refl _) hb_16
    refine hK (fun w' => Below (wr).heap.size (wr) w') _ _ hS_16 (fun _ h => h) ?_
    clear hK K hb_16 hS_15
    try simp only [Act.put, zSa, zSz, zSs]
    refine Tx.eff 7 255 rfl zDk (fun K hK => ?_)
    go_simp
    refine (d2.out _).mono ?_
    rintro e w_17 ⟨rfl, hb_17⟩
    have hS_17 := ext_trans hS_16 (Nat.le_refl _) hb_17
    refine hK (fun w' => Below (wr).heap.size (wr) w') _ _ hS_17 (fun _ h => h) ?_
    clear hK K hb_17 hS_16
    try simp only [Act.put, zSa, zSz, zSs]
    have k4 := k4.below hS_17
    have k5 := k5.below hS_17
    have k6 := k6.below hS_17
    have k7 := k7.below hS_17
    have k8 := k8.below hS_17
    have k9 := k9.below hS_17
    have k10 := k10.below hS_17
    have kb := bel kb hS_17
    refine Tx.bar 511 rfl zDk (fun K hK => ?_)
    refine step_store_arr rfl _ _ _ rfl _ _ rfl rfl _ zAm zLn zLm zOn ?_
    refine hK (fun _ => True) 9999 _ _ ?_
    clear hK K
    try simp only [Act.put]
    try simp only [zSa, zSz, zSs]
    refine Tx.row k7 (fun w_18 k7 hoth hbel => ?_)
    have k4 := hoth _ _ zOm k4
    have k5 := hoth _ _ zOm k5
    have k6 := hoth _ _ zOm k6
    have k8 := hoth _ _ zOm k8
    have k9 := hoth _ _ zOm k9
    have k10 := hoth _ _ zOm k10
    have kb := hbel _ _ zOm kb
    clear hoth hbel
    refine Tx.eff 9 1023 rfl zDk (fun K hK => ?_)
    refine step_store_arr rfl _ _ _ rfl _ _ rfl rfl _ zAm zLn zLm zOn ?_
    refine hK (fun _ => True) _ _ trivial (fun _ h => h) ?_
    clear hK K
    try simp only [Act.put]
    refine Tx.done zKr ?_
    first | refine then_row k8 (fun w_19 k8 hoth hbel => ?_) | refine inb_row k8 (fun w_19 k8 hoth hbel => ?_)
    have k4 := hoth _ _ zOm k4
    have k5 := hoth _ _ zOm k5
    have k6 := hoth _ _ zOm k6
    have k7 := hoth _ _ zOm k7
    have k9 := hoth _ _ zOm k9
    have k10 := hoth _ _ zOm k10
    have kb := hbel _ _ zOm kb
    clear hoth hbel
    go_upto_region 16 with (first | (refine zLd ?_) | (refine zSt ?_))
    refine Tx.start (fun w' => Below (w_19).heap.size (w_19) w') 5 6 rfl zKr ?_
    have hS_20 : Below (w_19).heap.size (w_19) (World.drew w_19) := (Below.refl _ _).drew
    refine Tx.seg (A := ?_) 4 3 zKr (by exact hS_20) [0, 1] zKr ?_ ?_
    rotate_left
    · intro w' hB
      have e0 := k4.below hB
      have e1 := k7.below hB
      have e2 := k8.below hB
      exact zRd
    refine Tx.eff 2 7 rfl zDk (fun K hK => ?_)
    go_simp
    refine (c4.out _).mono ?_
    rintro e w_21 ⟨rfl, hb_21⟩
    have hS_21 := ext_trans hS_20 (Nat.le_refl _) hb_21
    refine hK (fun w' => Below (w_19).heap.size (w_19) w') _ _ hS_21 (fun _ h => h) ?_
    clear hK K hb_21 hS_20
    try simp only [Act.put, zSa, zSz, zSs]
    refine Tx.eff 3 15 rfl zDk (fun K hK => ?_)
    go_simp
    refine (c5.out _).mono ?_
    rintro e w_22 ⟨rfl, hb_22⟩
    have hS_22 := ext_trans hS_21 (Nat.le_refl _) hb_22
    refine hK (fun w' => Below (w_19).heap.size (w_19) w') _ _ hS_22 (fun _ h => h) ?_
    clear hK K hb_22 hS_21
    try simp only [Act.put, zSa, zSz, zSs]
    refine Tx.eff 4 31 rfl zDk (fun K hK => ?_)
    go_simp
    refine (c6.out _).mono ?_
    rintro e w_23 ⟨rfl, hb_23⟩
    have hS_23 := ext_trans hS_22 (Nat.le_refl _) hb_23
    refine hK (fun w' => Below (w_19).heap.size (w_19) w') _ _ hS_23 (fun _ h => h) ?_
    clear hK K hb_23 hS_22
    try simp only [Act.put, zSa, zSz, zSs]
    have k4 := k4.below hS_23
    have k7 := k7.below hS_23
    have k8 := k8.below hS_23
    have kb := bel kb hS_23
    refine Tx.bar 63 rfl zDk (fun K hK => ?_)
    refine step_store_arr rfl _ _ _ rfl _ _ rfl rfl _ zAm zLn zLm zOn ?_
    refine hK (fun _ => True) 9999 _ _ ?_
    clear hK K
    try simp only [Act.put]
    try simp only [zSa, zSz, zSs]
    refine Tx.done zKr ?_
    refine then_row k4 (fun w_24 k4 hoth hbel => ?_)
    have k7 := hoth _ _ zOm k7
    have k8 := hoth _ _ zOm k8
    have kb := hbel _ _ zOm kb
    clear hoth hbel
    go_wp2_with (first | (refine zLd ?_) | (refine zSt ?_))
    exact bodyPost_ret (results_arr2 Tryz.results143 _ _ _ rfl zKr _ (by first | assumption | exact Arr.setRow zAm _) zLn) rfl ⟨rfl, kb⟩
  · obtain ⟨m, rfl⟩ : ∃ m, j = m + 1 := ⟨j - 1, by omega⟩
    have e : ((m + 1 : Nat) : Int) - 1 = (m : Int) := by omega
    rw [e]
    clear e
    obtain ⟨t, ht⟩ : ∃ t, n / 2 ^ m % 2 = t := ⟨_, rfl⟩
    have ht1 : t ≤ 1 := by omega
    have d0 := fun w => limBit_any n m zOm w
    rw [ht] at d0
    have hx0 := xor_bit hs ht1
    obtain ⟨s', hs'⟩ : ∃ s', (s + t) % 2 = s' := ⟨_, rfl⟩
    have hs'1 : s' ≤ 1 := by omega
    rw [hs'] at hx0
    have hsw := swp_swp (L (255 - (m + 1))) hs ht1 hs'.symm
    rw [← ha] at hsw
    have hpk := swp_pick a s'
    obtain ⟨b, hb⟩ : ∃ b, a.swp s' = b := ⟨_, rfl⟩
    have hbl : b.low := hb ▸ St.low_swp hal s'
    have p1 := zH (show pickN s' a.a a.c = b.a by rw [← hb, hpk])
    have p2 := zH (show pickN s' a.c a.a = b.c by rw [← hb, hpk])
    have p3 := zH (show pickN s' a.b a.d = b.b by rw [← hb, hpk])
    have p4 := zH (show pickN s' a.d a.b = b.d by rw [← hb, hpk])
    have d1 := zH (fun w => pick_r p1 hs'1 w)
    have d2 := zH (fun w => pick_r p2 hs'1 w)
    have d3 := zH (fun w => pick_r p3 hs'1 w)
    have d4 := zH (fun w => pick_r p4 hs'1 w)
    obtain ⟨q, hq⟩ : ∃ q, stepN x b = q := ⟨_, rfl⟩
    have d5 := zH (fun w => step_st hxp hbl (zH hq) w)
    have hnext : q = (L (255 - m)).swp t := by
     have h1 := hLs.out (255 - (m + 1))
     rw [show 255 - (m + 1) + 1 = 255 - m by omega, show 254 - (255 - (m + 1)) = m by omega, ht, ← hsw, hb, hq] at h1
     rw [h1, swp_self]
    replace d0 := zH d0
    replace hnext := zH hnext
    clear p1 p2 p3 p4 hq hb hpk hsw hs' ht ha hal hbl
    go_upto_region 9 with (first | (refine zLd ?_) | (refine zSt ?_))
    go_wp2_with (first | (refine zLd ?_) | (refine zSt ?_))
    refine (d0.out _).mono ?_
    rintro e w_25 ⟨rfl, hb_25⟩
    have k4 := k4.below hb_25
    have k5 := k5.below hb_25
    have k6 := k6.below hb_25
    have k7 := k7.below hb_25
    have k8 := k8.below hb_25
    have k9 := k9.below hb_25
    have k10 := k10.below hb_25
    have kb := bel kb hb_25
    clear hb_25
    go_upto_region 11 with (first | (refine zLd ?_) | (refine zSt ?_))
    go_upto_region 11 with (first | (refine zLd ?_) | (refine zSt ?_))
    refine Tx.start (fun w' => Below (w_25).heap.size (w_25) w') 8 10 rfl zKr ?_
    have hS_26 : Below (w_25).heap.size (w_25) (World.drew w_25) := (Below.refl _ _).drew
    refine Tx.seg2 (A := ?_) 4 119 zKr (by exact hS_26) [0, 1, 2, 4, 5, 6] zKr ?_ ?_
    rotate_left
    · intro w' hB
      have e0 := k4.below hB
      have e1 := k5.below hB
      have e2 := k6.below hB
      have e3 := k7.below hB
      have e4 := k8.below hB
      have e5 := k9.below hB
      have e6 := k10.below hB
      exact zRd
    refine Tx.eff 3 127 rfl zDk (fun K hK => ?_)
    go_simp
    refine (d1.out _).mono ?_
    rintro e w_27 ⟨rfl, hb_27⟩
    have hS_27 := ext_trans hS_26 (Nat.le_refl _) hb_27
    refine hK (fun w' => Below (w_25).heap.size (w_25) w') _ _ hS_27 (fun _ h => h) ?_
    clear hK K hb_27 hS_26
    try simp only [Act.put, zSa, zSz, zSs]
    refine Tx.eff 7 255 rfl zDk (fun K hK => ?_)
    go_simp
    refine (d2.out _).mono ?_
    rintro e w_28 ⟨rfl, hb_28⟩
    have hS_28 := ext_trans hS_27 (Nat.le_refl _) hb_28
    refine hK (fun w' => Below (w_25).heap.size (w_25) w') _ _ hS_28 (fun _ h => h) ?_
    clear hK K hb_28 hS_27
    try simp only [Act.put, zSa, zSz, zSs]
    have k4 := k4.below hS_28
    have k5 := k5.below hS_28
    have k6 := k6.below hS_28
    have k7 := k7.below hS_28
    have k8 := k8.below hS_28
    have k9 := k9.below hS_28
    have k10 := k10.below hS_28
    have kb := bel kb hS_28
    refine Tx.bar 511 rfl zDk (fun K hK => ?_)
    refine step_store_arr rfl _ _ _ rfl _ _ rfl rfl _ zAm zLn zLm zOn ?_
    refine hK (fun _ => True) 9999 _ _ ?_
    clear hK K
    try simp only [Act.put]
    try simp only [zSa, zSz, zSs]
    refine Tx.row k7 (fun w_29 k7 hoth hbel => ?_)
    have k4 := hoth _ _ zOm k4
    have k5 := hoth _ _ zOm k5
    have k6 := hoth _ _ zOm k6
    have k8 := hoth _ _ zOm k8
    have k9 := hoth _ _ zOm k9
    have k10 := hoth _ _ zOm k10
    have kb := hbel _ _ zOm kb
    clear hoth hbel
    refine Tx.eff 9 1023 rfl zDk (fun K hK => ?_)
    refine step_store_arr rfl _ _ _ rfl _ _ rfl rfl _ zAm zLn zLm zOn ?_
    refine hK (fun _ => True) _ _ trivial (fun _ h => h) ?_
    clear hK K
    try simp only [Act.put]
    refine Tx.done zKr ?_
    first | refine then_row k9 (fun w_30 k9 hoth hbel => ?_) | refine inb_row k9 (fun w_30 k9 hoth hbel => ?_)
    have k4 := hoth _ _ zOm k4
    have k5 := hoth _ _ zOm k5
    have k6 := hoth _ _ zOm k6
    have k7 := hoth _ _ zOm k7
    have k8 := hoth _ _ zOm k8
    have k10 := hoth _ _ zOm k10
    have kb := hbel _ _ zOm kb
    clear hoth hbel
    go_upto_region 12 with (first | (refine zLd ?_) | (refine zSt ?_))
    refine Tx.start (fun w' => Below (w_30).heap.size (w_30) w') 8 10 rfl zKr ?_
    have hS_31 : Below (w_30).heap.size (w_30) (World.drew w_30) := (Below.refl _ _).drew
    refine Tx.seg2 (A := ?_) 4 119 zKr (by exact hS_31) [0, 1, 2, 4, 5, 6] zKr ?_ ?_
    rotate_left
    · intro w' hB
      have e0 := k4.below hB
      have e1 := k5.below hB
      have e2 := k6.below hB
      have e3 := k7.below hB
      have e4 := k8.below hB
      have e5 := k9.below hB
      have e6 := k10.below hB
      exact zRd
    refine Tx.eff 3 127 rfl zDk (fun K hK => ?_)
    go_simp
    refine (d3.out _).mono ?_
    rintro e w_32 ⟨rfl, hb_32⟩
    have hS_32 := ext_trans hS_31 (Nat.le_refl _) hb_32
    refine hK (fun w' => Below (w_30).heap.size (w_30) w') _ _ hS_32 (fun _ h => h) ?_
    clear hK K hb_32 hS_31
    try simp only [Act.put, zSa, zSz, zSs]
    refine Tx.eff 7 255 rfl zDk (fun K hK => ?_)
    go_simp
    refine (d4.out _).mono ?_
    rintro e w_33 ⟨rfl, hb_33⟩
    have hS_33 := ext_trans hS_32 (Nat.le_refl _) hb_33
    refine hK (fun w' => Below (w_30).heap.size (w_30) w') _ _ hS_33 (fun _ h => h) ?_
    clear hK K hb_33 hS_32
    try simp only [Act.put, zSa, zSz, zSs]
    have k4 := k4.below hS_33
    have k5 := k5.below hS_33
    have k6 := k6.below hS_33
    have k7 := k7.below hS_33
    have k8 := k8.below hS_33
    have k9 := k9.below hS_33
    have k10 := k10.below hS_33
    have kb := bel kb hS_33
    refine Tx.bar 511 rfl zDk (fun K hK => ?_)
    refine step_store_arr rfl _ _ _ rfl _ _ rfl rfl _ zAm zLn zLm zOn ?_
    refine hK (fun _ => True) 9999 _ _ ?_
    clear hK K
    try simp only [Act.put]
    try simp only [zSa, zSz, zSs]
    refine Tx.row k8 (fun w_34 k8 hoth hbel => ?_)
    have k4 := hoth _ _ zOm k4
    have k5 := hoth _ _ zOm k5
    have k6 := hoth _ _ zOm k6
    have k7 := hoth _ _ zOm k7
    have k9 := hoth _ _ zOm k9
    have k10 := hoth _ _ zOm k10
    have kb := hbel _ _ zOm kb
    clear hoth hbel
    refine Tx.eff 9 1023 rfl zDk (fun K hK => ?_)
    refine step_store_arr rfl _ _ _ rfl _ _ rfl rfl _ zAm zLn zLm zOn ?_
    refine hK (fun _ => True) _ _ trivial (fun _ h => h) ?_
    clear hK K
    try simp only [Act.put]
    refine Tx.done zKr ?_
    first | refine then_row k10 (fun w_35 k10 hoth hbel => ?_) | refine inb_row k10 (fun w_35 k10 hoth hbel => ?_)
    have k4 := hoth _ _ zOm k4
    have k5 := hoth _ _ zOm k5
    have k6 := hoth _ _ zOm k6
    have k7 := hoth _ _ zOm k7
    have k8 := hoth _ _ zOm k8
    have k9 := hoth _ _ zOm k9
    have kb := hbel _ _ zOm kb
    clear hoth hbel
    go_upto_region 14 with (first | (refine zLd ?_) | (refine zSt ?_))
    go_wp2_with (first | (refine zLd ?_) | (refine zSt ?_))
    refine (d5.out _).mono ?_
    rintro e w_36 ⟨rfl, hb_36⟩
    have k4 := k4.below hb_36
    have k5 := k5.below hb_36
    have k6 := k6.below hb_36
    have k7 := k7.below hb_36
    have k8 := k8.below hb_36
    have k9 := k9.below hb_36
    have k10 := k10.below hb_36
    have kb := bel kb hb_36
    clear hb_36
    go_wp2_with (first | (refine zLd ?_) | (refine wpl_store rfl _ _ _ rfl _ _ rfl rfl _ k7 zLn zLm zOn (fun w_37 k7 hoth hbel => ?_); have k8 := hoth _ _ zOm k8; have k9 := hoth _ _ zOm k9; have k10 := hoth _ _ zOm k10; have k4 := hoth _ _ zOm k4; have k5 := hoth _ _ zOm k5; have k6 := hoth _ _ zOm k6; have kb := hbel _ _ zOm kb; clear hoth hbel) | (refine wpl_store rfl _ _ _ rfl _ _ rfl rfl _ k8 zLn zLm zOn (fun w_37 k8 hoth hbel => ?_); have k7 := hoth _ _ zOm k7; have k9 := hoth _ _ zOm k9; have k10 := hoth _ _ zOm k10; have k4 := hoth _ _ zOm k4; have k5 := hoth _ _ zOm k5; have k6 := hoth _ _ zOm k6; have kb := hbel _ _ zOm kb; clear hoth hbel) | (refine wpl_store rfl _ _ _ rfl _ _ rfl rfl _ k9 zLn zLm zOn (fun w_37 k9 hoth hbel => ?_); have k7 := hoth _ _ zOm k7; have k8 := hoth _ _ zOm k8; have k10 := hoth _ _ zOm k10; have k4 := hoth _ _ zOm k4; have k5 := hoth _ _ zOm k5; have k6 := hoth _ _ zOm k6; have kb := hbel _ _ zOm kb; clear hoth hbel) | (refine wpl_store rfl _ _ _ rfl _ _ rfl rfl _ k10 zLn zLm zOn (fun w_37 k10 hoth hbel => ?_); have k7 := hoth _ _ zOm k7; have k8 := hoth _ _ zOm k8; have k9 := hoth _ _ zOm k9; have k4 := hoth _ _ zOm k4; have k5 := hoth _ _ zOm k5; have k6 := hoth _ _ zOm k6; have kb := hbel _ _ zOm kb; clear hoth hbel))
    exact ⟨⟨m, t, q, by omega, ht1, rfl, by go_num, hnext.out, k4, k5, k6, k7, k8, k9, k10, kb⟩, by simp [intOf]⟩
theorem pcs_len (P : Pn) : P.cs.length = 16 := ptL_len _ _ _ _
theorem pcs_one (P : Pn) : ∀ v ∈ P.cs, v.oneCell' = true := ptL_one _ _ _ _
def bxN : Nat := 15112221349535400772501151409588531511454012693041857206046113283949847762202
def byN : Nat := 46316835694926478169428394003475163141307993866256225615783033603165251855960
def bP : Pn := ⟨bxN, byN, 1, bxN * byN % pN⟩
theorem bP_ok : bP.ok := ⟨by decide +kernel, by decide +kernel, by decide +kernel, by decide +kernel⟩
def nP : Pn := ⟨0, 1, 1, 0⟩
theorem nP_ok : nP.ok := ⟨by decide +kernel, by decide +kernel, by decide +kernel, by decide +kernel⟩
def tmsP (P : Pn) (n : Nat) : Nat → Pn
 | 0 => nP
 | m + 1 => if n / 2 ^ (255 - m) % 2 = 1 then addP (addP (tmsP P n m) (tmsP P n m)) P else addP (tmsP P n m) (tmsP P n m)
theorem tmsP_ok (P : Pn) (n : Nat) : ∀ m, (tmsP P n m).ok
 | 0 => nP_ok
 | m + 1 => by
  rw [tmsP]
  split <;> exact addP_ok _ _
theorem pbase_any (w : World) : Calls Tryz.prog 76 #[] w fun e w' => e = .returned (.agg bP.cs.toArray) ∧ Below w.heap.size w w' := by
 have c1 := zH (fun w => times_any bxN byN zDc zDc w)
 go_enter Tryz.func76, Tryz.ntmps76
 go_upto_region 1 with fail
 refine wp_new1 (fun W hsz k0 kb => ?_)
 have k0 : Arr W w.heap.size (ptL 0 0 0 0) := k0
 clear hsz
 go_upto_region 2 with (first | (refine wpList_builta rfl _ _ rfl (lims 4 bxN).toArray zKr ?_) | (refine zLd ?_) | (refine zSt ?_))
 have hg_k1_k0 := k0.lt
 refine code_new (fun w_1 k1 hnew => ?_)
 have k0 := k0.below hnew
 have kb := bel kb hnew
 clear hnew
 generalize (W).heap.size = g_k1 at k1 hg_k1_k0 ⊢
 go_upto_region 3 with (first | (refine wpList_builta rfl _ _ rfl (lims 4 byN).toArray zKr ?_) | (refine zLd ?_) | (refine zSt ?_))
 have hg_k2_k0 := k0.lt
 have hg_k2_k1 := k1.lt
 refine code_new (fun w_2 k2 hnew => ?_)
 have k0 := k0.below hnew
 have k1 := k1.below hnew
 have kb := bel kb hnew
 clear hnew
 generalize (w_1).heap.size = g_k2 at k2 hg_k2_k0 hg_k2_k1 ⊢
 go_upto_region 3 with (first | (refine zLd ?_) | (refine zSt ?_))
 refine Tx.start (fun w' => Below (w_2).heap.size (w_2) w') 7 8 rfl zKr ?_
 have hS_3 : Below (w_2).heap.size (w_2) (World.drew w_2) := (Below.refl _ _).drew
 refine Tx.seg2 (A := ?_) 3 31 zKr (by exact hS_3) [0, 1, 2, 3, 4] zKr ?_ ?_
 rotate_left
 · intro w' hB
   have y1 := k1.below hB
   have y2 := k2.below hB
   exact zRd
 refine Tx.eff 5 63 rfl zDk (fun K hK => ?_)
 go_simp
 refine (c1.out _).mono ?_
 rintro e w_4 ⟨rfl, hb_4⟩
 have hS_4 := ext_trans hS_3 (Nat.le_refl _) hb_4
 refine hK (fun w' => Below (w_2).heap.size (w_2) w') _ _ hS_4 (fun _ h => h) ?_
 clear hK K hb_4 hS_3
 try simp only [Act.put, zSa, zSz, zSs]
 refine Tx.seg2 (A := ?_) 1 127 zKr (by exact hS_4) [6] zKr ?_ ?_
 rotate_left
 · intro w' hB
   iterate 1 (first | (refine rd_skip rfl rfl ?_; simp only [Act.put, zSa, zSz, zSs]) | (refine rd_load_arr rfl rfl _ _ rfl _ rfl zDk _ zAm zLn ?_; simp only [Act.put, zSa, zSz, zSs]) | (refine rd_builta rfl rfl _ _ rfl (bP.cs).toArray zKr ?_; simp only [Act.put, zSa, zSz, zSs]) | (refine rd_take (v := ?_) rfl rfl ?_ ?_; rotate_left; (focus (go_simp; try (with_reducible rfl))); simp only [Act.put, zSa, zSz, zSs]))
   exact rd_nil
 have k0 := k0.below hS_4
 have kb := bel kb hS_4
 refine Tx.bar 255 rfl zDk (fun K hK => ?_)
 refine step_store_arr rfl _ _ _ rfl _ _ rfl rfl _ zAm zLn zLm zOn ?_
 refine hK (fun _ => True) 9999 _ _ ?_
 clear hK K
 try simp only [Act.put]
 try simp only [zSa, zSz, zSs]
 refine Tx.done zKr ?_
 first | refine then_row k0 (fun w_5 k0 hoth hbel => ?_) | refine inb_row k0 (fun w_5 k0 hoth hbel => ?_)
 have kb := hbel _ _ zOm kb
 clear hoth hbel
 go_wp2_with fail
 exact bodyPost_ret (results_arr2 Tryz.results76 _ _ _ rfl zKr _ k0 (by rw [pcs_len]; kernel_rfl)) rfl ⟨rfl, kb⟩
theorem ptimes_any (P : Pn) (n : Nat) (hP : P.ok) (hn : n < 256 ^ 32) (w : World) :
 Calls Tryz.prog 77 #[.agg P.cs.toArray, .agg (byts n).toArray] w fun e w' => e = .returned (.agg (tmsP P n 256).cs.toArray) ∧ Below w.heap.size w w' := by
 have c1 := zH (fun w => limOf_any n hn w)
 obtain ⟨L, hL⟩ : ∃ L : Nat → Pn, tmsP P n = L := ⟨_, rfl⟩
 have hL0 : Hid (L 0 = nP) := zH (by rw [← hL]; rfl)
 have hLs : Hid (∀ m, L (m + 1) = if n / 2 ^ (255 - m) % 2 = 1 then addP (addP (L m) (L m)) P else addP (L m) (L m)) := zH (fun m => by rw [← hL]; rfl)
 have hLo : Hid (∀ m, (L m).ok) := zH (fun m => by rw [← hL]; exact tmsP_ok P n m)
 rw [hL]
 replace hP := zH hP
 clear hL hn
 go_enter Tryz.func77, Tryz.ntmps77
 go_upto_region 1 with fail
 refine wp_new3 (fun W hsz k2 k3 k4 kb => ?_)
 have k2 : Arr W w.heap.size P.cs := k2
 have k4 : Arr W (w.heap.size + 1 + 1) (ptL 0 0 0 0) := k4
 clear hsz
 go_upto_region 1 with (first | (refine zLd ?_) | (refine zSt ?_))
 go_wp2_with (first | (refine zLd ?_) | (refine zSt ?_))
 refine (c1.out _).mono ?_
 rintro e w_6 ⟨rfl, hb_6⟩
 have k2 := k2.below hb_6
 have k3 := k3.below hb_6
 have k4 := k4.below hb_6
 have kb := bel kb hb_6
 clear hb_6
 go_upto_region 2 with (first | (refine zLd ?_) | (refine zSt ?_))
 have hg_k5_k2 := k2.lt
 have hg_k5_k3 := k3.lt
 have hg_k5_k4 := k4.lt
 refine code_new (fun w_7 k5 hnew => ?_)
 have k2 := k2.below hnew
 have k3 := k3.below hnew
 have k4 := k4.below hnew
 have kb := bel kb hnew
 clear hnew
 generalize (w_6).heap.size = g_k5 at k5 hg_k5_k2 hg_k5_k3 hg_k5_k4 ⊢
 go_upto_region 2 with (first | (refine zLd ?_) | (refine zSt ?_))
 go_wp2_with (first | (refine zLd ?_) | (refine zSt ?_))
 refine (pnone_any _).mono ?_
 rintro e w_8 ⟨rfl, hb_8⟩
 have k2 := k2.below hb_8
 have k4 := k4.below hb_8
 have k5 := k5.below hb_8
 have kb := bel kb hb_8
 clear hb_8
 go_upto_region 3 with (first | (refine zLd ?_) | (refine zSt ?_))
 have hg_k6_k2 := k2.lt
 have hg_k6_k4 := k4.lt
 have hg_k6_k5 := k5.lt
 refine code_new (fun w_9 k6 hnew => ?_)
 have k2 := k2.below hnew
 have k4 := k4.below hnew
 have k5 := k5.below hnew
 have kb := bel kb hnew
 clear hnew
 generalize (w_8).heap.size = g_k6 at k6 hg_k6_k2 hg_k6_k4 hg_k6_k5 ⊢
 have k6 : Arr w_9 g_k6 (L 0).cs := by rw [hL0.out]; exact k6
 clear k3 c1
 go_wp2_with fail
 go_loopw [7] (fun kv wr => ∃ j : Nat, j ≤ 256 ∧ kv = .int .i64 ((j : Int) - 1) ∧ Arr wr w.heap.size P.cs ∧ Arr wr (w.heap.size + 1 + 1) (ptL 0 0 0 0) ∧ Arr wr g_k5 (lims 4 n) ∧ Arr wr g_k6 (L (256 - j)).cs ∧ Below w.heap.size w wr) (fun kv _ => (intOf kv + 1).toNat)
 case atStart => exact ⟨256, Nat.le_refl _, rfl, k2, k4, k5, k6, kb⟩
 case round =>
  clear k2 k4 k5 k6 kb
  obtain ⟨j, hj, rfl, k2, k4, k5, k6, kb⟩ := hrel
  rcases Nat.eq_zero_or_pos j with rfl | hj0
  · have e : ((0 : Nat) : Int) - 1 = -1 := rfl
    rw [e]
    clear e
    have k6 : Arr wr g_k6 (L 256).cs := k6
    go_wp2_with (first | (refine zLd ?_) | (refine zSt ?_))
    exact bodyPost_ret (results_arr2 Tryz.results77 _ _ _ rfl zKr _ (by first | assumption | exact Arr.setRow zAm _) zLn) rfl ⟨rfl, below_setRow kb zOm _⟩
  · obtain ⟨m, rfl⟩ : ∃ m, j = m + 1 := ⟨j - 1, by omega⟩
    have e : ((m + 1 : Nat) : Int) - 1 = (m : Int) := by omega
    rw [e]
    clear e
    have e1 : 256 - (m + 1) = 255 - m := by omega
    rw [e1] at k6
    obtain ⟨t, ht⟩ : ∃ t, n / 2 ^ m % 2 = t := ⟨_, rfl⟩
    have d0 := fun w => limBit_any n m zOm w
    rw [ht] at d0
    have hs := hLs.out (255 - m)
    rw [show 255 - (255 - m) = m by omega, ht, show 255 - m + 1 = 256 - m by omega] at hs
    have hok := hLo.out (255 - m)
    obtain ⟨A, hA⟩ : ∃ A, L (255 - m) = A := ⟨_, rfl⟩
    rw [hA] at k6 hs hok
    have cA := zH (fun w => padd_any A A hok hok w)
    have cB := zH (fun w => padd_any (addP A A) P (addP_ok _ _) hP.out w)
    obtain ⟨B, hB⟩ : ∃ B, addP A A = B := ⟨_, rfl⟩
    rw [hB] at cA cB hs
    replace d0 := zH d0
    have ht1 : t = 0 ∨ t = 1 := by omega
    have m0 : (0 : Int) ≤ (m : Int) := by omega
    replace hs := zH hs
    clear hA hB hok e1 ht
    go_upto_region 6 with (first | (refine zLd ?_) | (refine zSt ?_))
    go_wp2_with (first | (refine zLd ?_) | (refine zSt ?_))
    refine (cA.out _).mono ?_
    rintro e w_10 ⟨rfl, hb_10⟩
    have k2 := k2.below hb_10
    have k4 := k4.below hb_10
    have k5 := k5.below hb_10
    have k6 := k6.below hb_10
    have kb := bel kb hb_10
    clear hb_10
    go_upto_region 7 with (first | (refine zLd ?_) | (refine zSt ?_))
    refine code_row k6 (fun w_11 k6 hoth hbel => ?_)
    have k2 := hoth _ _ zOm k2
    have k4 := hoth _ _ zOm k4
    have k5 := hoth _ _ zOm k5
    have kb := hbel _ _ zOm kb
    clear hoth hbel
    go_upto_region 7 with (first | (refine zLd ?_) | (refine zSt ?_))
    go_wp2_with (first | (refine zLd ?_) | (refine zSt ?_))
    refine (d0.out _).mono ?_
    rintro e w_12 ⟨rfl, hb_12⟩
    have k2 := k2.below hb_12
    have k4 := k4.below hb_12
    have k5 := k5.below hb_12
    have k6 := k6.below hb_12
    have kb := bel kb hb_12
    clear hb_12
    rcases ht1 with rfl | rfl
    · skip
      replace hs := hs.out
      rw [if_neg zDc] at hs
      rw [← hs] at k6
      clear hs
      go_wp2_with fail
      exact ⟨⟨m, by omega, rfl, k2, k4, k5, k6, kb⟩, by simp [intOf]⟩
    · skip
      replace hs := hs.out
      rw [if_pos rfl] at hs
      replace hs := zH hs
      go_upto_region 8 with (first | (refine zLd ?_) | (refine zSt ?_))
      go_wp2_with (first | (refine zLd ?_) | (refine zSt ?_))
      refine (cB.out _).mono ?_
      rintro e w_13 ⟨rfl, hb_13⟩
      have k2 := k2.below hb_13
      have k4 := k4.below hb_13
      have k5 := k5.below hb_13
      have k6 := k6.below hb_13
      have kb := bel kb hb_13
      clear hb_13
      go_upto_region 5 with (first | (refine zLd ?_) | (refine zSt ?_))
      refine code_row k6 (fun w_14 k6 hoth hbel => ?_)
      have k2 := hoth _ _ zOm k2
      have k4 := hoth _ _ zOm k4
      have k5 := hoth _ _ zOm k5
      have kb := hbel _ _ zOm kb
      clear hoth hbel
      rw [← hs.out] at k6
      go_wp2_with fail
      exact ⟨⟨m, by omega, rfl, k2, k4, k5, k6, kb⟩, by simp [intOf]⟩
def encP (P : Pn) : Nat := P.y * (P.z ^ (pN - 2) % pN) % pN + 2 ^ 255 * (P.x * (P.z ^ (pN - 2) % pN) % pN % 2)
theorem encP_lt (P : Pn) : encP P < 256 ^ 32 := by
 have h1 : P.y * (P.z ^ (pN - 2) % pN) % pN < pN := Nat.mod_lt _ pN_pos
 have h2 : pN < 2 ^ 255 := by decide
 have h3 : P.x * (P.z ^ (pN - 2) % pN) % pN % 2 < 2 := Nat.mod_lt _ zDc
 unfold encP
 omega
theorem or_128 : ∀ x : Nat, x < 128 → bits .or .u8 (x : Int) 128 = ((x + 128 : Nat) : Int) := by decide +kernel
theorem or_0 : ∀ x : Nat, x < 128 → bits .or .u8 (x : Int) 0 = (x : Int) := by decide +kernel
theorem pbytes_any (P : Pn) (hP : P.ok) (w : World) :
 Calls Tryz.prog 78 #[.agg P.cs.toArray] w fun e w' => e = .returned (.agg (byts (encP P)).toArray) ∧ Below w.heap.size w w' := by
 have hp4 : pN < 18446744073709551616 ^ 4 := by decide
 have lim : ∀ {n : Nat}, n < pN → n < 18446744073709551616 ^ 4 := fun h => Nat.lt_trans h hp4
 obtain ⟨hx, hy, hz, -⟩ := hP
 obtain ⟨i, hi⟩ : ∃ i, P.z ^ (pN - 2) % pN = i := ⟨_, rfl⟩
 have cI := fun w => inverse_any P.z (lim hz) w
 rw [hi] at cI
 have li : i < pN := hi ▸ Nat.mod_lt _ pN_pos
 have cY := fun w => times_any P.y i (lim hy) (lim li) w
 have cX := fun w => times_any P.x i (lim hx) (lim li) w
 obtain ⟨y, hy'⟩ : ∃ y, P.y * i % pN = y := ⟨_, rfl⟩
 obtain ⟨x, hx'⟩ : ∃ x, P.x * i % pN = x := ⟨_, rfl⟩
 have ly : y < pN := hy' ▸ Nat.mod_lt _ pN_pos
 rw [hy'] at cY
 rw [hx'] at cX
 have hE : encP P = y + 2 ^ 255 * (x % 2) := by rw [encP, hi, hy', hx']
 obtain ⟨r, hr⟩ : ∃ r, y + 2 ^ 255 * (x % 2) = r := ⟨_, rfl⟩
 rw [hE, hr]
 replace hr := zH hr
 have cN := zH (fun w => limNum_any y w)
 have cB := fun w => show Calls Tryz.prog 123 #[.agg (lims 4 x).toArray, .int .i64 0] w _ from limBit_any x 0 zDc w
 rw [Nat.pow_zero, Nat.div_one] at cB
 have hy255 : y < 2 ^ 255 := Nat.lt_trans ly zDc
 have hy31 : y / 256 ^ 31 < 128 := by omega
 have g31 := byts_get y 31 zDc
 have sA : (byts y).set 31 (.int .u8 ((y / 256 ^ 31 : Nat) : Int)) = byts (y + 2 ^ 255 * 0) := byts_set zDc zOm zOm zOm
 have sB : (byts y).set 31 (.int .u8 ((y / 256 ^ 31 + 128 : Nat) : Int)) = byts (y + 2 ^ 255 * 1) := byts_set zDc zOm zOm zOm
 obtain ⟨d, hd⟩ : ∃ d, y / 256 ^ 31 = d := ⟨_, rfl⟩
 rw [hd] at hy31 sA sB g31
 rw [Nat.mod_eq_of_lt zOm] at g31
 have oA : bits .or .u8 (d : Int) (IntKind.u8.wrap (IntKind.u8.wrap 0 * 128)) = (d : Int) := or_0 d hy31
 have oB : bits .or .u8 (d : Int) (IntKind.u8.wrap (IntKind.u8.wrap 1 * 128)) = ((d + 128 : Nat) : Int) := or_128 d hy31
 replace cI := zH cI
 replace cY := zH cY
 replace cX := zH cX
 replace g31 := zH g31
 have hx2 : x % 2 = 0 ∨ x % 2 = 1 := by omega
 clear hp4 lim hx hy hz hi li hy' hx' ly hE hy255 hd hy31
 go_enter Tryz.func78, Tryz.ntmps78
 go_upto_region 1 with fail
 refine wp_new2 (fun W hsz k1 k2 kb => ?_)
 have k1 : Arr W w.heap.size (ptL P.x P.y P.z P.t) := k1
 have k2 : Arr W (w.heap.size + 1) (byts 0) := k2
 clear hsz
 have hz := ptL_z k1
 go_wp2_with (refine wpList_load_mid2 rfl _ _ rfl _ _ rfl zKr _ hz zLn ?_)
 clear hz
 refine (cI.out _).mono ?_
 rintro e w_1 ⟨rfl, hb_1⟩
 have k1 := k1.below hb_1
 have k2 := k2.below hb_1
 have kb := bel kb hb_1
 clear hb_1
 go_upto_region 2 with (first | (refine zLd ?_) | (refine zSt ?_))
 have hg_k3_k1 := k1.lt
 have hg_k3_k2 := k2.lt
 refine code_new (fun w_2 k3 hnew => ?_)
 have k1 := k1.below hnew
 have k2 := k2.below hnew
 have kb := bel kb hnew
 clear hnew
 generalize (w_1).heap.size = g_k3 at k3 hg_k3_k1 hg_k3_k2 ⊢
 have hy := ptL_y k1
 go_wp2_with (first | (refine wpList_load_mid2 rfl _ _ rfl _ _ rfl zKr _ hy zLn ?_) | (refine zLd ?_))
 clear hy
 refine (cY.out _).mono ?_
 rintro e w_3 ⟨rfl, hb_3⟩
 have k1 := k1.below hb_3
 have k2 := k2.below hb_3
 have k3 := k3.below hb_3
 have kb := bel kb hb_3
 clear hb_3
 go_wp2_with fail
 refine (cN.out _).mono ?_
 rintro e w_4 ⟨rfl, hb_4⟩
 have k1 := k1.below hb_4
 have k2 := k2.below hb_4
 have k3 := k3.below hb_4
 have kb := bel kb hb_4
 clear hb_4
 go_upto_region 3 with (first | (refine zLd ?_) | (refine zSt ?_))
 have hg_k4_k1 := k1.lt
 have hg_k4_k2 := k2.lt
 have hg_k4_k3 := k3.lt
 refine code_new (fun w_5 k4 hnew => ?_)
 have k1 := k1.below hnew
 have k2 := k2.below hnew
 have k3 := k3.below hnew
 have kb := bel kb hnew
 clear hnew
 generalize (w_4).heap.size = g_k4 at k4 hg_k4_k1 hg_k4_k2 hg_k4_k3 ⊢
 rcases hx2 with hs | hs
 · skip
   rw [hs] at cB
   replace sA : Hid ((byts y).set 31 (.int .u8 (d : Int)) = byts r) := zH (by rw [← hr.out, hs]; exact sA)
   clear sB oB
   replace cB := zH cB
   have hs := zH hs
   go_upto_region 3 with (first | (refine zLd ?_) | (refine zSt ?_))
   refine Tx.start (fun w' => Below (w_5).heap.size (w_5) w') 11 12 rfl zKr ?_
   have hS_6 : Below (w_5).heap.size (w_5) (World.drew w_5) := (Below.refl _ _).drew
   refine Tx.seg2 (A := ?_) 7 31 zKr (by exact hS_6) [0, 1, 2, 3, 4] zKr ?_ ?_
   rotate_left
   · intro w' hB
     have hx := ptL_x (k1.below hB)
     have y3 := k3.below hB
     have y4 := (k4.below hB).cell g31.out
     exact zRm
   refine Tx.eff 5 63 rfl zDk (fun K hK => ?_)
   go_simp
   refine (cX.out _).mono ?_
   rintro e w_7 ⟨rfl, hb_7⟩
   have hS_7 := ext_trans hS_6 (Nat.le_refl _) hb_7
   refine hK (fun w' => Below (w_5).heap.size (w_5) w') _ _ hS_7 (fun _ h => h) ?_
   clear hK K hb_7 hS_6
   try simp only [Act.put, zSa, zSz, zSs]
   refine Tx.eff 6 127 rfl zDk (fun K hK => ?_)
   go_simp
   refine (cB.out _).mono ?_
   rintro e w_8 ⟨rfl, hb_8⟩
   have hS_8 := ext_trans hS_7 (Nat.le_refl _) hb_8
   refine hK (fun w' => Below (w_5).heap.size (w_5) w') _ _ hS_8 (fun _ h => h) ?_
   clear hK K hb_8 hS_7
   try simp only [Act.put, zSa, zSz, zSs]
   refine Tx.seg2 (A := ?_) 1 2047 zKr (by exact hS_8) [7, 8, 9, 10] zKr ?_ ?_
   rotate_left
   · intro w' hB
     exact zRd
   have k1 := k1.below hS_8
   have k2 := k2.below hS_8
   have k3 := k3.below hS_8
   have k4 := k4.below hS_8
   have kb := bel kb hS_8
   have hcel := k4.cell g31.out
   have hfro := k4.frozen 31
   refine Tx.bar 4095 rfl zDk (fun K hK => ?_)
   go_simp
   refine hK (fun _ => True) 9999 _ _ ?_
   clear hK K
   try simp only [Act.put]
   try simp only [zSa, zSz, zSs]
   refine Tx.done zKr ?_
   clear hcel hfro
   have kb := kb.setCell (p := ⟨g_k4, 31, none⟩) (by simp; omega) (.int .u8 (d : Int))
   have k2 := k2.other (a := ⟨g_k4, 31, none⟩) (by simp; omega) (.int .u8 (d : Int))
   have k4 := k4.set 31 (.int .u8 (d : Int))
   rw [sA.out] at k4
   generalize World.setCell _ ⟨g_k4, 31, none⟩ (.int .u8 (d : Int)) = w9 at *
   clear k1 k3
   go_wp2_with (first | (refine zLd ?_) | (refine zSt ?_))
   exact bodyPost_ret (results_arr2 Tryz.results78 _ _ _ rfl zKr _ (by first | assumption | exact Arr.setRow zAm _) zLn) rfl ⟨rfl, below_setRow kb zOm _⟩
 · skip
   rw [hs] at cB
   replace sB : Hid ((byts y).set 31 (.int .u8 ((d : Int) + 128)) = byts r) := zH (by rw [← hr.out, hs]; rw [show ((d + 128 : Nat) : Int) = (d : Int) + 128 by omega] at sB; exact sB)
   clear sA oA
   replace cB := zH cB
   have hs := zH hs
   go_upto_region 3 with (first | (refine zLd ?_) | (refine zSt ?_))
   refine Tx.start (fun w' => Below (w_5).heap.size (w_5) w') 11 12 rfl zKr ?_
   have hS_9 : Below (w_5).heap.size (w_5) (World.drew w_5) := (Below.refl _ _).drew
   refine Tx.seg2 (A := ?_) 7 31 zKr (by exact hS_9) [0, 1, 2, 3, 4] zKr ?_ ?_
   rotate_left
   · intro w' hB
     have hx := ptL_x (k1.below hB)
     have y3 := k3.below hB
     have y4 := (k4.below hB).cell g31.out
     exact zRm
   refine Tx.eff 5 63 rfl zDk (fun K hK => ?_)
   go_simp
   refine (cX.out _).mono ?_
   rintro e w_10 ⟨rfl, hb_10⟩
   have hS_10 := ext_trans hS_9 (Nat.le_refl _) hb_10
   refine hK (fun w' => Below (w_5).heap.size (w_5) w') _ _ hS_10 (fun _ h => h) ?_
   clear hK K hb_10 hS_9
   try simp only [Act.put, zSa, zSz, zSs]
   refine Tx.eff 6 127 rfl zDk (fun K hK => ?_)
   go_simp
   refine (cB.out _).mono ?_
   rintro e w_11 ⟨rfl, hb_11⟩
   have hS_11 := ext_trans hS_10 (Nat.le_refl _) hb_11
   refine hK (fun w' => Below (w_5).heap.size (w_5) w') _ _ hS_11 (fun _ h => h) ?_
   clear hK K hb_11 hS_10
   try simp only [Act.put, zSa, zSz, zSs]
   refine Tx.seg2 (A := ?_) 1 2047 zKr (by exact hS_11) [7, 8, 9, 10] zKr ?_ ?_
   rotate_left
   · intro w' hB
     exact zRd
   have k1 := k1.below hS_11
   have k2 := k2.below hS_11
   have k3 := k3.below hS_11
   have k4 := k4.below hS_11
   have kb := bel kb hS_11
   have hcel := k4.cell g31.out
   have hfro := k4.frozen 31
   refine Tx.bar 4095 rfl zDk (fun K hK => ?_)
   go_simp
   refine hK (fun _ => True) 9999 _ _ ?_
   clear hK K
   try simp only [Act.put]
   try simp only [zSa, zSz, zSs]
   refine Tx.done zKr ?_
   clear hcel hfro
   have kb := kb.setCell (p := ⟨g_k4, 31, none⟩) (by simp; omega) (.int .u8 ((d : Int) + 128))
   have k2 := k2.other (a := ⟨g_k4, 31, none⟩) (by simp; omega) (.int .u8 ((d : Int) + 128))
   have k4 := k4.set 31 (.int .u8 ((d : Int) + 128))
   rw [sB.out] at k4
   generalize World.setCell _ ⟨g_k4, 31, none⟩ (.int .u8 ((d : Int) + 128)) = w9 at *
   clear k1 k3
   go_wp2_with (first | (refine zLd ?_) | (refine zSt ?_))
   exact bodyPost_ret (results_arr2 Tryz.results78 _ _ _ rfl zKr _ (by first | assumption | exact Arr.setRow zAm _) zLn) rfl ⟨rfl, below_setRow kb zOm _⟩
end Go.Proofs.YtibdgkhkhmdihaaGreatDoor
