/- PortcullisWrong: part 13 of its proof: lemmas and contracts, each with its conditions in its own statement; the last part holds the law itself. -/
import Derived.Test.YtibdgkhkhmdihaaGreatDoorJe12

set_option maxHeartbeats 4000000
set_option maxRecDepth 100000
namespace Go.Proofs.YtibdgkhkhmdihaaGreatDoor
open Go.RowKit
theorem plus_r {a b r : Nat} (hr : Hid ((a + b) % pN = r)) (ha : a < 18446744073709551616 ^ 4) (hb : b < 18446744073709551616 ^ 4) (w : World) :
 Calls Tryz.prog 182 #[.agg (lims 4 a).toArray, .agg (lims 4 b).toArray] w fun e w' => e = .returned (.agg (lims 4 r).toArray) ∧ Below w.heap.size w w' := by rw [← hr.out]; exact plus_any a b ha hb w
theorem minus_r {a b r : Nat} (hr : Hid ((a + pN - b) % pN = r)) (ha : a < pN) (hb : b < pN) (w : World) :
 Calls Tryz.prog 181 #[.agg (lims 4 a).toArray, .agg (lims 4 b).toArray] w fun e w' => e = .returned (.agg (lims 4 r).toArray) ∧ Below w.heap.size w w' := by rw [← hr.out]; exact minus_any a b ha hb w
theorem times_r {a b r : Nat} (hr : Hid (a * b % pN = r)) (ha : a < 18446744073709551616 ^ 4) (hb : b < 18446744073709551616 ^ 4) (w : World) :
 Calls Tryz.prog 119 #[.agg (lims 4 a).toArray, .agg (lims 4 b).toArray] w fun e w' => e = .returned (.agg (lims 4 r).toArray) ∧ Below w.heap.size w w' := by rw [← hr.out]; exact times_any a b ha hb w
theorem wp_new9 {P : Program} {c : Code} {Q : Exit → Act → World → Prop} {a : Act} {w : World} {A B C D E F G H I : Array Value} {TA TB TC TD TE TF TG TH TI : TypeId}
 (h : ∀ W, W.heap.size = w.heap.size + 9 → Arr W w.heap.size A.toList → Arr W (w.heap.size + 1) B.toList → Arr W (w.heap.size + 1 + 1) C.toList → Arr W (w.heap.size + 1 + 1 + 1) D.toList → Arr W (w.heap.size + 1 + 1 + 1 + 1) E.toList →
  Arr W (w.heap.size + 1 + 1 + 1 + 1 + 1) F.toList → Arr W (w.heap.size + 1 + 1 + 1 + 1 + 1 + 1) G.toList → Arr W (w.heap.size + 1 + 1 + 1 + 1 + 1 + 1 + 1) H.toList → Arr W (w.heap.size + 1 + 1 + 1 + 1 + 1 + 1 + 1 + 1) I.toList → Below w.heap.size w W → Code.wp P c Q a W) :
 Code.wp P c Q a (((((((((w.alloc (.cells A TA)).alloc (.cells B TB)).alloc (.cells C TC)).alloc (.cells D TD)).alloc (.cells E TE)).alloc (.cells F TF)).alloc (.cells G TG)).alloc (.cells H TH)).alloc (.cells I TI)) := by
 have n1 := Arr.new w A TA
 have n2 := Arr.new (w.alloc (.cells A TA)) B TB
 have n3 := Arr.new ((w.alloc (.cells A TA)).alloc (.cells B TB)) C TC
 have n4 := Arr.new (((w.alloc (.cells A TA)).alloc (.cells B TB)).alloc (.cells C TC)) D TD
 have n5 := Arr.new ((((w.alloc (.cells A TA)).alloc (.cells B TB)).alloc (.cells C TC)).alloc (.cells D TD)) E TE
 have n6 := Arr.new (((((w.alloc (.cells A TA)).alloc (.cells B TB)).alloc (.cells C TC)).alloc (.cells D TD)).alloc (.cells E TE)) F TF
 have n7 := Arr.new ((((((w.alloc (.cells A TA)).alloc (.cells B TB)).alloc (.cells C TC)).alloc (.cells D TD)).alloc (.cells E TE)).alloc (.cells F TF)) G TG
 have n8 := Arr.new (((((((w.alloc (.cells A TA)).alloc (.cells B TB)).alloc (.cells C TC)).alloc (.cells D TD)).alloc (.cells E TE)).alloc (.cells F TF)).alloc (.cells G TG)) H TH
 have n9 := Arr.new ((((((((w.alloc (.cells A TA)).alloc (.cells B TB)).alloc (.cells C TC)).alloc (.cells D TD)).alloc (.cells E TE)).alloc (.cells F TF)).alloc (.cells G TG)).alloc (.cells H TH)) I TI
 refine h _ (by simp) ((((((((n1.alloc _).alloc _).alloc _).alloc _).alloc _).alloc _).alloc _).alloc _) ?_ ?_ ?_ ?_ ?_ ?_ ?_ ?_ ?_
 · have := ((((((n2.alloc (.cells C TC)).alloc (.cells D TD)).alloc (.cells E TE)).alloc (.cells F TF)).alloc (.cells G TG)).alloc (.cells H TH)).alloc (.cells I TI); simpa using this
 · have := (((((n3.alloc (.cells D TD)).alloc (.cells E TE)).alloc (.cells F TF)).alloc (.cells G TG)).alloc (.cells H TH)).alloc (.cells I TI); simpa using this
 · have := ((((n4.alloc (.cells E TE)).alloc (.cells F TF)).alloc (.cells G TG)).alloc (.cells H TH)).alloc (.cells I TI); simpa using this
 · have := (((n5.alloc (.cells F TF)).alloc (.cells G TG)).alloc (.cells H TH)).alloc (.cells I TI); simpa using this
 · have := ((n6.alloc (.cells G TG)).alloc (.cells H TH)).alloc (.cells I TI); simpa using this
 · have := (n7.alloc (.cells H TH)).alloc (.cells I TI); simpa using this
 · have := n8.alloc (.cells I TI); simpa using this
 · simpa using n9
 · exact (((((((((below_alloc w _).alloc (by simp) _).alloc (by simp; omega) _).alloc (by simp; omega) _).alloc (by simp; omega) _).alloc (by simp; omega) _).alloc (by simp; omega) _).alloc (by simp; omega) _).alloc (by simp; omega) _)
theorem step_any (x a b c d : Nat) (hx : x < pN) (ha : a < pN) (hb : b < pN) (hc : c < pN) (hd : d < pN) {p m pp mm e1 u1 da u2 cb s t r1 k1' k2' r2 r3 tt r4 : Nat}
 (g1 : Hid ((a + b) % pN = p)) (g2 : Hid ((a + pN - b) % pN = m)) (g3 : Hid (p * p % pN = pp)) (g4 : Hid (m * m % pN = mm)) (g5 : Hid ((pp + pN - mm) % pN = e1))
 (g6 : Hid ((c + pN - d) % pN = u1)) (g7 : Hid (u1 * p % pN = da)) (g8 : Hid ((c + d) % pN = u2)) (g9 : Hid (u2 * m % pN = cb)) (g10 : Hid ((da + cb) % pN = s)) (g11 : Hid ((da + pN - cb) % pN = t))
 (g12 : Hid (pp * mm % pN = r1)) (g13 : Hid (121665 * e1 % pN = k1')) (g14 : Hid ((pp + k1') % pN = k2')) (g15 : Hid (e1 * k2' % pN = r2)) (g16 : Hid (s * s % pN = r3)) (g17 : Hid (t * t % pN = tt)) (g18 : Hid (x * tt % pN = r4)) (w : World) :
 Calls Tryz.prog 202 #[.agg (lims 4 x).toArray, .agg (lims 4 a).toArray, .agg (lims 4 b).toArray, .agg (lims 4 c).toArray, .agg (lims 4 d).toArray] w fun e w' =>
  e = .returned (.tuple #[.agg (lims 4 r1).toArray, .agg (lims 4 r2).toArray, .agg (lims 4 r3).toArray, .agg (lims 4 r4).toArray]) ∧ Below w.heap.size w w' := by
 have hp4 : pN < 18446744073709551616 ^ 4 := by decide
 have lim : ∀ {n : Nat}, n < pN → n < 18446744073709551616 ^ 4 := fun h => Nat.lt_trans h hp4
 have lp : p < pN := g1.out ▸ Nat.mod_lt _ pN_pos
 have lm : m < pN := g2.out ▸ Nat.mod_lt _ pN_pos
 have lpp : pp < pN := g3.out ▸ Nat.mod_lt _ pN_pos
 have lmm : mm < pN := g4.out ▸ Nat.mod_lt _ pN_pos
 have le1 : e1 < pN := g5.out ▸ Nat.mod_lt _ pN_pos
 have lu1 : u1 < pN := g6.out ▸ Nat.mod_lt _ pN_pos
 have lda : da < pN := g7.out ▸ Nat.mod_lt _ pN_pos
 have lu2 : u2 < pN := g8.out ▸ Nat.mod_lt _ pN_pos
 have lcb : cb < pN := g9.out ▸ Nat.mod_lt _ pN_pos
 have ls : s < pN := g10.out ▸ Nat.mod_lt _ pN_pos
 have lt : t < pN := g11.out ▸ Nat.mod_lt _ pN_pos
 have lk1 : k1' < pN := g13.out ▸ Nat.mod_lt _ pN_pos
 have lk2 : k2' < pN := g14.out ▸ Nat.mod_lt _ pN_pos
 have ltt : tt < pN := g17.out ▸ Nat.mod_lt _ pN_pos
 have c1 := zH (fun w => plus_r g1 (lim ha) (lim hb) w)
 have c2 := zH (fun w => minus_r g2 ha hb w)
 have c3 := zH (fun w => times_r g3 (lim lp) (lim lp) w)
 have c4 := zH (fun w => times_r g4 (lim lm) (lim lm) w)
 have c5 := zH (fun w => minus_r g5 lpp lmm w)
 have c6 := zH (fun w => minus_r g6 hc hd w)
 have c7 := zH (fun w => times_r g7 (lim lu1) (lim lp) w)
 have c8 := zH (fun w => plus_r g8 (lim hc) (lim hd) w)
 have c9 := zH (fun w => times_r g9 (lim lu2) (lim lm) w)
 have c10 := zH (fun w => plus_r g10 (lim lda) (lim lcb) w)
 have c11 := zH (fun w => minus_r g11 lda lcb w)
 have c12 := zH (fun w => times_r g12 (lim lpp) (lim lmm) w)
 have c13 := fun w => times_r g13 zDc (lim le1) w
 rw [lims_small 121665 zDc] at c13
 have c14 := zH (fun w => plus_r g14 (lim lpp) (lim lk1) w)
 have c15 := zH (fun w => times_r g15 (lim le1) (lim lk2) w)
 have c16 := zH (fun w => times_r g16 (lim ls) (lim ls) w)
 have c17 := zH (fun w => times_r g17 (lim lt) (lim lt) w)
 have c18 := zH (fun w => times_r g18 (lim hx) (lim ltt) w)
 replace c13 := zH c13
 clear g1 g2 g3 g4 g5 g6 g7 g8 g9 g10 g11 g12 g13 g14 g15 g16 g17 g18 lp lm lpp lmm le1 lu1 lda lu2 lcb ls lt lk1 lk2 ltt lim hx ha hb hc hd hp4
 go_enter Tryz.func202, Tryz.ntmps202
 go_upto_region 1 with fail
 refine wp_new9 (fun W hsz k5 k6 k7 k8 k9 k10 k11 k12 k13 kb => ?_)
 have k10 : Arr W (w.heap.size + 1 + 1 + 1 + 1 + 1) (lims 4 0) := k10
 have k11 : Arr W (w.heap.size + 1 + 1 + 1 + 1 + 1 + 1) (lims 4 0) := k11
 have k12 : Arr W (w.heap.size + 1 + 1 + 1 + 1 + 1 + 1 + 1) (lims 4 0) := k12
 have k13 : Arr W (w.heap.size + 1 + 1 + 1 + 1 + 1 + 1 + 1 + 1) (lims 4 0) := k13
 clear hsz
 go_upto_region 1 with (first | (refine zLd ?_) | (refine zSt ?_))
 refine Tx.start (fun w' => Below (W).heap.size (W) w') 8 10 rfl zKr ?_
 have hS_1 : Below (W).heap.size (W) (World.drew W) := (Below.refl _ _).drew
 refine Tx.seg2 (A := ?_) 6 27 zKr (by exact hS_1) [0, 1, 3, 4] zKr ?_ ?_
 rotate_left
 · intro w' hB
   have e0 := k5.below hB
   have e1 := k6.below hB
   have e2 := k7.below hB
   have e3 := k8.below hB
   have e4 := k9.below hB
   have e5 := k10.below hB
   have e6 := k11.below hB
   have e7 := k12.below hB
   have e8 := k13.below hB
   exact zRd
 refine Tx.poolB 2 255 [(2, 25), (5, 28), (6, 14), (7, 15)] [(false, []), (false, []), (false, []), (false, [])] [(2, Ph.is (.agg (lims 4 p).toArray)), (5, Ph.is (.agg (lims 4 m).toArray)), (6, Ph.arr (W).heap.size (lims 4 0)), (7, Ph.arr (W).heap.size (lims 4 0))] zKr zKr (by first | assumption | exact (Below.refl _ _).drew) ?_ ?_
 · refine ⟨⟨_, rfl, ?_⟩, ⟨_, rfl, ?_⟩, ⟨_, rfl, ?_⟩, ⟨_, rfl, ?_⟩, trivial⟩
   · intro vs w1 hS hE hD K hK
     clear hD
     simp only [fillL, Act.put, zSa, zSz, zSs] at hK ⊢
     go_simp
     refine (c1.out _).mono ?_
     rintro e w2 ⟨rfl, hb2⟩
     exact hK _ _ rfl hb2 nofun
   · intro vs w1 hS hE hD K hK
     clear hD
     simp only [fillL, Act.put, zSa, zSz, zSs] at hK ⊢
     go_simp
     refine (c2.out _).mono ?_
     rintro e w2 ⟨rfl, hb2⟩
     exact hK _ _ rfl hb2 nofun
   · intro vs w1 hS hE hD K hK
     clear hD
     simp only [fillL, Act.put, zSa, zSz, zSs] at hK ⊢
     go_simp
     exact hK _ _ ⟨_, rfl, Nat.le_trans zLe hE.size, Arr.new _ _ _⟩ (below_alloc _ _) (fun _ => ⟨_, rfl, Nat.le_refl _⟩)
   · intro vs w1 hS hE hD K hK
     clear hD
     simp only [fillL, Act.put, zSa, zSz, zSs] at hK ⊢
     go_simp
     exact hK _ _ ⟨_, rfl, Nat.le_trans zLe hE.size, Arr.new _ _ _⟩ (below_alloc _ _) (fun _ => ⟨_, rfl, Nat.le_refl _⟩)
 intro vs w_p1_6854 hS_p1_6854 hE_p1_6854 hP hD
 obtain ⟨q2, q5, q6, q7, -⟩ := hP
 simp only [fillL, Act.put, zSa, zSz, zSs]
 rw [show vs 2 = _ from q2]
 clear q2
 rw [show vs 5 = _ from q5]
 clear q5
 obtain ⟨g6, e6, hg6, ha6⟩ := q6
 rw [e6]
 obtain ⟨g7, e7, hg7, ha7⟩ := q7
 rw [e7]
 have ne6_7 : g6 ≠ g7 := fun h => hD 6 7 rfl rfl rfl rfl rfl (by rw [e6, e7, h])
 clear e6 e7 hD vs
 have lt_k14_k5 := Nat.lt_of_lt_of_le k5.lt hg6
 have lt_k14_k6 := Nat.lt_of_lt_of_le k6.lt hg6
 have lt_k14_k7 := Nat.lt_of_lt_of_le k7.lt hg6
 have lt_k14_k8 := Nat.lt_of_lt_of_le k8.lt hg6
 have lt_k14_k9 := Nat.lt_of_lt_of_le k9.lt hg6
 have lt_k14_k10 := Nat.lt_of_lt_of_le k10.lt hg6
 have lt_k14_k11 := Nat.lt_of_lt_of_le k11.lt hg6
 have lt_k14_k12 := Nat.lt_of_lt_of_le k12.lt hg6
 have lt_k14_k13 := Nat.lt_of_lt_of_le k13.lt hg6
 have lt_k15_k5 := Nat.lt_of_lt_of_le k5.lt hg7
 have lt_k15_k6 := Nat.lt_of_lt_of_le k6.lt hg7
 have lt_k15_k7 := Nat.lt_of_lt_of_le k7.lt hg7
 have lt_k15_k8 := Nat.lt_of_lt_of_le k8.lt hg7
 have lt_k15_k9 := Nat.lt_of_lt_of_le k9.lt hg7
 have lt_k15_k10 := Nat.lt_of_lt_of_le k10.lt hg7
 have lt_k15_k11 := Nat.lt_of_lt_of_le k11.lt hg7
 have lt_k15_k12 := Nat.lt_of_lt_of_le k12.lt hg7
 have lt_k15_k13 := Nat.lt_of_lt_of_le k13.lt hg7
 have k5 := k5.below hS_p1_6854
 have k6 := k6.below hS_p1_6854
 have k7 := k7.below hS_p1_6854
 have k8 := k8.below hS_p1_6854
 have k9 := k9.below hS_p1_6854
 have k10 := k10.below hS_p1_6854
 have k11 := k11.below hS_p1_6854
 have k12 := k12.below hS_p1_6854
 have k13 := k13.below hS_p1_6854
 have kb := bel kb hS_p1_6854
 have k14 := ha6
 clear ha6
 generalize g6 = g_k14 at *
 have k15 := ha7
 clear ha7
 generalize g7 = g_k15 at *
 refine Tx.bar 511 rfl zDk (fun K hK => ?_)
 refine step_store_arr rfl _ _ _ rfl _ _ rfl rfl _ zAm zLn zLm zOn ?_
 refine hK (fun _ => True) 9999 _ _ ?_
 clear hK K
 try simp only [Act.put]
 try simp only [zSa, zSz, zSs]
 refine Tx.row k14 (fun w_2 k14 hoth hbel => ?_)
 have k5 := hoth _ _ zOm k5
 have k6 := hoth _ _ zOm k6
 have k7 := hoth _ _ zOm k7
 have k8 := hoth _ _ zOm k8
 have k9 := hoth _ _ zOm k9
 have k10 := hoth _ _ zOm k10
 have k11 := hoth _ _ zOm k11
 have k12 := hoth _ _ zOm k12
 have k13 := hoth _ _ zOm k13
 have k15 := hoth _ _ zOm k15
 have kb := hbel _ _ zOm kb
 clear hoth hbel
 refine Tx.eff 9 1023 rfl zDk (fun K hK => ?_)
 refine step_store_arr rfl _ _ _ rfl _ _ rfl rfl _ zAm zLn zLm zOn ?_
 refine hK (fun _ => True) _ _ trivial (fun _ h => h) ?_
 clear hK K
 try simp only [Act.put]
 refine Tx.done zKr ?_
 first | refine then_row k15 (fun w_3 k15 hoth hbel => ?_) | refine inb_row k15 (fun w_3 k15 hoth hbel => ?_)
 have k5 := hoth _ _ zOm k5
 have k6 := hoth _ _ zOm k6
 have k7 := hoth _ _ zOm k7
 have k8 := hoth _ _ zOm k8
 have k9 := hoth _ _ zOm k9
 have k10 := hoth _ _ zOm k10
 have k11 := hoth _ _ zOm k11
 have k12 := hoth _ _ zOm k12
 have k13 := hoth _ _ zOm k13
 have k14 := hoth _ _ zOm k14
 have kb := hbel _ _ zOm kb
 clear hoth hbel
 go_upto_region 2 with (first | (refine zLd ?_) | (refine zSt ?_))
 refine Tx.start (fun w' => Below (w_3).heap.size (w_3) w') 8 10 rfl zKr ?_
 have hS_4 : Below (w_3).heap.size (w_3) (World.drew w_3) := (Below.refl _ _).drew
 refine Tx.seg2 (A := ?_) 6 27 zKr (by exact hS_4) [0, 1, 3, 4] zKr ?_ ?_
 rotate_left
 · intro w' hB
   have e0 := k5.below hB
   have e1 := k6.below hB
   have e2 := k7.below hB
   have e3 := k8.below hB
   have e4 := k9.below hB
   have e5 := k10.below hB
   have e6 := k11.below hB
   have e7 := k12.below hB
   have e8 := k13.below hB
   have e9 := k14.below hB
   have e10 := k15.below hB
   exact zRd
 refine Tx.poolB 2 255 [(2, 31), (5, 34), (6, 16), (7, 17)] [(false, []), (false, []), (false, []), (false, [])] [(2, Ph.is (.agg (lims 4 pp).toArray)), (5, Ph.is (.agg (lims 4 mm).toArray)), (6, Ph.arr (w_3).heap.size (lims 4 0)), (7, Ph.arr (w_3).heap.size (lims 4 0))] zKr zKr (by first | assumption | exact (Below.refl _ _).drew) ?_ ?_
 · refine ⟨⟨_, rfl, ?_⟩, ⟨_, rfl, ?_⟩, ⟨_, rfl, ?_⟩, ⟨_, rfl, ?_⟩, trivial⟩
   · intro vs w1 hS hE hD K hK
     clear hD
     simp only [fillL, Act.put, zSa, zSz, zSs] at hK ⊢
     go_simp
     refine (c3.out _).mono ?_
     rintro e w2 ⟨rfl, hb2⟩
     exact hK _ _ rfl hb2 nofun
   · intro vs w1 hS hE hD K hK
     clear hD
     simp only [fillL, Act.put, zSa, zSz, zSs] at hK ⊢
     go_simp
     refine (c4.out _).mono ?_
     rintro e w2 ⟨rfl, hb2⟩
     exact hK _ _ rfl hb2 nofun
   · intro vs w1 hS hE hD K hK
     clear hD
     simp only [fillL, Act.put, zSa, zSz, zSs] at hK ⊢
     go_simp
     exact hK _ _ ⟨_, rfl, Nat.le_trans zLe hE.size, Arr.new _ _ _⟩ (below_alloc _ _) (fun _ => ⟨_, rfl, Nat.le_refl _⟩)
   · intro vs w1 hS hE hD K hK
     clear hD
     simp only [fillL, Act.put, zSa, zSz, zSs] at hK ⊢
     go_simp
     exact hK _ _ ⟨_, rfl, Nat.le_trans zLe hE.size, Arr.new _ _ _⟩ (below_alloc _ _) (fun _ => ⟨_, rfl, Nat.le_refl _⟩)
 intro vs w_p2_4406 hS_p2_4406 hE_p2_4406 hP hD
 obtain ⟨q2, q5, q6, q7, -⟩ := hP
 simp only [fillL, Act.put, zSa, zSz, zSs]
 rw [show vs 2 = _ from q2]
 clear q2
 rw [show vs 5 = _ from q5]
 clear q5
 obtain ⟨g6, e6, hg6, ha6⟩ := q6
 rw [e6]
 obtain ⟨g7, e7, hg7, ha7⟩ := q7
 rw [e7]
 have ne6_7 : g6 ≠ g7 := fun h => hD 6 7 rfl rfl rfl rfl rfl (by rw [e6, e7, h])
 clear e6 e7 hD vs
 have lt_k16_k5 := Nat.lt_of_lt_of_le k5.lt hg6
 have lt_k16_k6 := Nat.lt_of_lt_of_le k6.lt hg6
 have lt_k16_k7 := Nat.lt_of_lt_of_le k7.lt hg6
 have lt_k16_k8 := Nat.lt_of_lt_of_le k8.lt hg6
 have lt_k16_k9 := Nat.lt_of_lt_of_le k9.lt hg6
 have lt_k16_k10 := Nat.lt_of_lt_of_le k10.lt hg6
 have lt_k16_k11 := Nat.lt_of_lt_of_le k11.lt hg6
 have lt_k16_k12 := Nat.lt_of_lt_of_le k12.lt hg6
 have lt_k16_k13 := Nat.lt_of_lt_of_le k13.lt hg6
 have lt_k16_k14 := Nat.lt_of_lt_of_le k14.lt hg6
 have lt_k16_k15 := Nat.lt_of_lt_of_le k15.lt hg6
 have lt_k17_k5 := Nat.lt_of_lt_of_le k5.lt hg7
 have lt_k17_k6 := Nat.lt_of_lt_of_le k6.lt hg7
 have lt_k17_k7 := Nat.lt_of_lt_of_le k7.lt hg7
 have lt_k17_k8 := Nat.lt_of_lt_of_le k8.lt hg7
 have lt_k17_k9 := Nat.lt_of_lt_of_le k9.lt hg7
 have lt_k17_k10 := Nat.lt_of_lt_of_le k10.lt hg7
 have lt_k17_k11 := Nat.lt_of_lt_of_le k11.lt hg7
 have lt_k17_k12 := Nat.lt_of_lt_of_le k12.lt hg7
 have lt_k17_k13 := Nat.lt_of_lt_of_le k13.lt hg7
 have lt_k17_k14 := Nat.lt_of_lt_of_le k14.lt hg7
 have lt_k17_k15 := Nat.lt_of_lt_of_le k15.lt hg7
 have k5 := k5.below hS_p2_4406
 have k6 := k6.below hS_p2_4406
 have k7 := k7.below hS_p2_4406
 have k8 := k8.below hS_p2_4406
 have k9 := k9.below hS_p2_4406
 have k10 := k10.below hS_p2_4406
 have k11 := k11.below hS_p2_4406
 have k12 := k12.below hS_p2_4406
 have k13 := k13.below hS_p2_4406
 have k14 := k14.below hS_p2_4406
 have k15 := k15.below hS_p2_4406
 have kb := bel kb hS_p2_4406
 have k16 := ha6
 clear ha6
 generalize g6 = g_k16 at *
 have k17 := ha7
 clear ha7
 generalize g7 = g_k17 at *
 refine Tx.bar 511 rfl zDk (fun K hK => ?_)
 refine step_store_arr rfl _ _ _ rfl _ _ rfl rfl _ zAm zLn zLm zOn ?_
 refine hK (fun _ => True) 9999 _ _ ?_
 clear hK K
 try simp only [Act.put]
 try simp only [zSa, zSz, zSs]
 refine Tx.row k16 (fun w_5 k16 hoth hbel => ?_)
 have k5 := hoth _ _ zOm k5
 have k6 := hoth _ _ zOm k6
 have k7 := hoth _ _ zOm k7
 have k8 := hoth _ _ zOm k8
 have k9 := hoth _ _ zOm k9
 have k10 := hoth _ _ zOm k10
 have k11 := hoth _ _ zOm k11
 have k12 := hoth _ _ zOm k12
 have k13 := hoth _ _ zOm k13
 have k14 := hoth _ _ zOm k14
 have k15 := hoth _ _ zOm k15
 have k17 := hoth _ _ zOm k17
 have kb := hbel _ _ zOm kb
 clear hoth hbel
 refine Tx.eff 9 1023 rfl zDk (fun K hK => ?_)
 refine step_store_arr rfl _ _ _ rfl _ _ rfl rfl _ zAm zLn zLm zOn ?_
 refine hK (fun _ => True) _ _ trivial (fun _ h => h) ?_
 clear hK K
 try simp only [Act.put]
 refine Tx.done zKr ?_
 first | refine then_row k17 (fun w_6 k17 hoth hbel => ?_) | refine inb_row k17 (fun w_6 k17 hoth hbel => ?_)
 have k5 := hoth _ _ zOm k5
 have k6 := hoth _ _ zOm k6
 have k7 := hoth _ _ zOm k7
 have k8 := hoth _ _ zOm k8
 have k9 := hoth _ _ zOm k9
 have k10 := hoth _ _ zOm k10
 have k11 := hoth _ _ zOm k11
 have k12 := hoth _ _ zOm k12
 have k13 := hoth _ _ zOm k13
 have k14 := hoth _ _ zOm k14
 have k15 := hoth _ _ zOm k15
 have k16 := hoth _ _ zOm k16
 have kb := hbel _ _ zOm kb
 clear hoth hbel
 go_upto_region 3 with (first | (refine zLd ?_) | (refine zSt ?_))
 go_wp2_with (first | (refine zLd ?_) | (refine zSt ?_))
 refine (c5.out _).mono ?_
 rintro e w_7 ⟨rfl, hb_7⟩
 have k5 := k5.below hb_7
 have k8 := k8.below hb_7
 have k9 := k9.below hb_7
 have k10 := k10.below hb_7
 have k11 := k11.below hb_7
 have k12 := k12.below hb_7
 have k13 := k13.below hb_7
 have k14 := k14.below hb_7
 have k15 := k15.below hb_7
 have k16 := k16.below hb_7
 have k17 := k17.below hb_7
 have kb := bel kb hb_7
 clear hb_7
 go_upto_region 4 with (first | (refine zLd ?_) | (refine zSt ?_))
 have hg_k18_k5 := k5.lt
 have hg_k18_k8 := k8.lt
 have hg_k18_k9 := k9.lt
 have hg_k18_k10 := k10.lt
 have hg_k18_k11 := k11.lt
 have hg_k18_k12 := k12.lt
 have hg_k18_k13 := k13.lt
 have hg_k18_k14 := k14.lt
 have hg_k18_k15 := k15.lt
 have hg_k18_k16 := k16.lt
 have hg_k18_k17 := k17.lt
 refine code_new (fun w_8 k18 hnew => ?_)
 have k5 := k5.below hnew
 have k8 := k8.below hnew
 have k9 := k9.below hnew
 have k10 := k10.below hnew
 have k11 := k11.below hnew
 have k12 := k12.below hnew
 have k13 := k13.below hnew
 have k14 := k14.below hnew
 have k15 := k15.below hnew
 have k16 := k16.below hnew
 have k17 := k17.below hnew
 have kb := bel kb hnew
 clear hnew
 generalize (w_7).heap.size = g_k18 at k18 hg_k18_k5 hg_k18_k8 hg_k18_k9 hg_k18_k10 hg_k18_k11 hg_k18_k12 hg_k18_k13 hg_k18_k14 hg_k18_k15 hg_k18_k16 hg_k18_k17 ⊢
 go_upto_region 4 with (first | (refine zLd ?_) | (refine zSt ?_))
 refine Tx.start (fun w' => Below (w_8).heap.size (w_8) w') 6 7 rfl zKr ?_
 have hS_9 : Below (w_8).heap.size (w_8) (World.drew w_8) := (Below.refl _ _).drew
 refine Tx.seg (A := ?_) 4 11 zKr (by exact hS_9) [0, 1, 3] zKr ?_ ?_
 rotate_left
 · intro w' hB
   have e0 := k5.below hB
   have e1 := k8.below hB
   have e2 := k9.below hB
   have e3 := k10.below hB
   have e4 := k11.below hB
   have e5 := k12.below hB
   have e6 := k13.below hB
   have e7 := k14.below hB
   have e8 := k15.below hB
   have e9 := k16.below hB
   have e10 := k17.below hB
   have e11 := k18.below hB
   exact zRd
 refine Tx.poolB 1 63 [(2, 40), (4, 42), (5, 19)] [(false, []), (false, [(2, 40)]), (false, [])] [(2, Ph.is (.agg (lims 4 u1).toArray)), (4, Ph.is (.agg (lims 4 da).toArray)), (5, Ph.arr (w_8).heap.size (lims 4 0))] zKr zKr (by first | assumption | exact (Below.refl _ _).drew) ?_ ?_
 · refine ⟨⟨_, rfl, ?_⟩, ⟨_, rfl, ?_⟩, ⟨_, rfl, ?_⟩, trivial⟩
   · intro vs w1 hS hE hD K hK
     clear hD
     simp only [fillL, Act.put, zSa, zSz, zSs] at hK ⊢
     go_simp
     refine (c6.out _).mono ?_
     rintro e w2 ⟨rfl, hb2⟩
     exact hK _ _ rfl hb2 nofun
   · intro vs w1 hS hE hD K hK
     obtain ⟨q2, -⟩ := hD
     simp only [fillL, Act.put, zSa, zSz, zSs] at hK ⊢
     rw [show vs 2 = _ from q2] at hK ⊢
     clear q2
     go_simp
     refine (c7.out _).mono ?_
     rintro e w2 ⟨rfl, hb2⟩
     exact hK _ _ rfl hb2 nofun
   · intro vs w1 hS hE hD K hK
     clear hD
     simp only [fillL, Act.put, zSa, zSz, zSs] at hK ⊢
     go_simp
     exact hK _ _ ⟨_, rfl, Nat.le_trans zLe hE.size, Arr.new _ _ _⟩ (below_alloc _ _) (fun _ => ⟨_, rfl, Nat.le_refl _⟩)
 intro vs w_p4_3599 hS_p4_3599 hE_p4_3599 hP hD
 obtain ⟨q2, q4, q5, -⟩ := hP
 simp only [fillL, Act.put, zSa, zSz, zSs]
 rw [show vs 2 = _ from q2]
 clear q2
 rw [show vs 4 = _ from q4]
 clear q4
 obtain ⟨g5, e5, hg5, ha5⟩ := q5
 rw [e5]
 clear e5 hD vs
 have lt_k19_k5 := Nat.lt_of_lt_of_le k5.lt hg5
 have lt_k19_k8 := Nat.lt_of_lt_of_le k8.lt hg5
 have lt_k19_k9 := Nat.lt_of_lt_of_le k9.lt hg5
 have lt_k19_k10 := Nat.lt_of_lt_of_le k10.lt hg5
 have lt_k19_k11 := Nat.lt_of_lt_of_le k11.lt hg5
 have lt_k19_k12 := Nat.lt_of_lt_of_le k12.lt hg5
 have lt_k19_k13 := Nat.lt_of_lt_of_le k13.lt hg5
 have lt_k19_k14 := Nat.lt_of_lt_of_le k14.lt hg5
 have lt_k19_k15 := Nat.lt_of_lt_of_le k15.lt hg5
 have lt_k19_k16 := Nat.lt_of_lt_of_le k16.lt hg5
 have lt_k19_k17 := Nat.lt_of_lt_of_le k17.lt hg5
 have lt_k19_k18 := Nat.lt_of_lt_of_le k18.lt hg5
 have k5 := k5.below hS_p4_3599
 have k8 := k8.below hS_p4_3599
 have k9 := k9.below hS_p4_3599
 have k10 := k10.below hS_p4_3599
 have k11 := k11.below hS_p4_3599
 have k12 := k12.below hS_p4_3599
 have k13 := k13.below hS_p4_3599
 have k14 := k14.below hS_p4_3599
 have k15 := k15.below hS_p4_3599
 have k16 := k16.below hS_p4_3599
 have k17 := k17.below hS_p4_3599
 have k18 := k18.below hS_p4_3599
 have kb := bel kb hS_p4_3599
 refine Tx.bar 127 rfl zDk (fun K hK => ?_)
 refine step_store_arr rfl _ _ _ rfl _ _ rfl rfl _ zAm zLn zLm zOn ?_
 refine hK (fun _ => True) 9999 _ _ ?_
 clear hK K
 try simp only [Act.put]
 try simp only [zSa, zSz, zSs]
 refine Tx.done zKr ?_
 refine then_row ha5 (fun w_10 ha5 hoth hbel => ?_)
 have k5 := hoth _ _ zOm k5
 have k8 := hoth _ _ zOm k8
 have k9 := hoth _ _ zOm k9
 have k10 := hoth _ _ zOm k10
 have k11 := hoth _ _ zOm k11
 have k12 := hoth _ _ zOm k12
 have k13 := hoth _ _ zOm k13
 have k14 := hoth _ _ zOm k14
 have k15 := hoth _ _ zOm k15
 have k16 := hoth _ _ zOm k16
 have k17 := hoth _ _ zOm k17
 have k18 := hoth _ _ zOm k18
 have kb := hbel _ _ zOm kb
 clear hoth hbel
 have k19 := ha5
 clear ha5
 generalize g5 = g_k19 at *
 go_upto_region 5 with (first | (refine zLd ?_) | (refine zSt ?_))
 refine Tx.start (fun w' => Below (w_10).heap.size (w_10) w') 6 7 rfl zKr ?_
 have hS_11 : Below (w_10).heap.size (w_10) (World.drew w_10) := (Below.refl _ _).drew
 refine Tx.seg (A := ?_) 4 11 zKr (by exact hS_11) [0, 1, 3] zKr ?_ ?_
 rotate_left
 · intro w' hB
   have e0 := k5.below hB
   have e1 := k8.below hB
   have e2 := k9.below hB
   have e3 := k10.below hB
   have e4 := k11.below hB
   have e5 := k12.below hB
   have e6 := k13.below hB
   have e7 := k15.below hB
   have e8 := k16.below hB
   have e9 := k17.below hB
   have e10 := k18.below hB
   have e11 := k19.below hB
   exact zRd
 refine Tx.poolB 1 63 [(2, 45), (4, 47), (5, 20)] [(false, []), (false, [(2, 45)]), (false, [])] [(2, Ph.is (.agg (lims 4 u2).toArray)), (4, Ph.is (.agg (lims 4 cb).toArray)), (5, Ph.arr (w_10).heap.size (lims 4 0))] zKr zKr (by first | assumption | exact (Below.refl _ _).drew) ?_ ?_
 · refine ⟨⟨_, rfl, ?_⟩, ⟨_, rfl, ?_⟩, ⟨_, rfl, ?_⟩, trivial⟩
   · intro vs w1 hS hE hD K hK
     clear hD
     simp only [fillL, Act.put, zSa, zSz, zSs] at hK ⊢
     go_simp
     refine (c8.out _).mono ?_
     rintro e w2 ⟨rfl, hb2⟩
     exact hK _ _ rfl hb2 nofun
   · intro vs w1 hS hE hD K hK
     obtain ⟨q2, -⟩ := hD
     simp only [fillL, Act.put, zSa, zSz, zSs] at hK ⊢
     rw [show vs 2 = _ from q2] at hK ⊢
     clear q2
     go_simp
     refine (c9.out _).mono ?_
     rintro e w2 ⟨rfl, hb2⟩
     exact hK _ _ rfl hb2 nofun
   · intro vs w1 hS hE hD K hK
     clear hD
     simp only [fillL, Act.put, zSa, zSz, zSs] at hK ⊢
     go_simp
     exact hK _ _ ⟨_, rfl, Nat.le_trans zLe hE.size, Arr.new _ _ _⟩ (below_alloc _ _) (fun _ => ⟨_, rfl, Nat.le_refl _⟩)
 intro vs w_p5_3855 hS_p5_3855 hE_p5_3855 hP hD
 obtain ⟨q2, q4, q5, -⟩ := hP
 simp only [fillL, Act.put, zSa, zSz, zSs]
 rw [show vs 2 = _ from q2]
 clear q2
 rw [show vs 4 = _ from q4]
 clear q4
 obtain ⟨g5, e5, hg5, ha5⟩ := q5
 rw [e5]
 clear e5 hD vs
 have lt_k20_k5 := Nat.lt_of_lt_of_le k5.lt hg5
 have lt_k20_k8 := Nat.lt_of_lt_of_le k8.lt hg5
 have lt_k20_k9 := Nat.lt_of_lt_of_le k9.lt hg5
 have lt_k20_k10 := Nat.lt_of_lt_of_le k10.lt hg5
 have lt_k20_k11 := Nat.lt_of_lt_of_le k11.lt hg5
 have lt_k20_k12 := Nat.lt_of_lt_of_le k12.lt hg5
 have lt_k20_k13 := Nat.lt_of_lt_of_le k13.lt hg5
 have lt_k20_k15 := Nat.lt_of_lt_of_le k15.lt hg5
 have lt_k20_k16 := Nat.lt_of_lt_of_le k16.lt hg5
 have lt_k20_k17 := Nat.lt_of_lt_of_le k17.lt hg5
 have lt_k20_k18 := Nat.lt_of_lt_of_le k18.lt hg5
 have lt_k20_k19 := Nat.lt_of_lt_of_le k19.lt hg5
 have k5 := k5.below hS_p5_3855
 have k8 := k8.below hS_p5_3855
 have k9 := k9.below hS_p5_3855
 have k10 := k10.below hS_p5_3855
 have k11 := k11.below hS_p5_3855
 have k12 := k12.below hS_p5_3855
 have k13 := k13.below hS_p5_3855
 have k15 := k15.below hS_p5_3855
 have k16 := k16.below hS_p5_3855
 have k17 := k17.below hS_p5_3855
 have k18 := k18.below hS_p5_3855
 have k19 := k19.below hS_p5_3855
 have kb := bel kb hS_p5_3855
 refine Tx.bar 127 rfl zDk (fun K hK => ?_)
 refine step_store_arr rfl _ _ _ rfl _ _ rfl rfl _ zAm zLn zLm zOn ?_
 refine hK (fun _ => True) 9999 _ _ ?_
 clear hK K
 try simp only [Act.put]
 try simp only [zSa, zSz, zSs]
 refine Tx.done zKr ?_
 refine then_row ha5 (fun w_12 ha5 hoth hbel => ?_)
 have k5 := hoth _ _ zOm k5
 have k8 := hoth _ _ zOm k8
 have k9 := hoth _ _ zOm k9
 have k10 := hoth _ _ zOm k10
 have k11 := hoth _ _ zOm k11
 have k12 := hoth _ _ zOm k12
 have k13 := hoth _ _ zOm k13
 have k15 := hoth _ _ zOm k15
 have k16 := hoth _ _ zOm k16
 have k17 := hoth _ _ zOm k17
 have k18 := hoth _ _ zOm k18
 have k19 := hoth _ _ zOm k19
 have kb := hbel _ _ zOm kb
 clear hoth hbel
 have k20 := ha5
 clear ha5
 generalize g5 = g_k20 at *
 go_upto_region 6 with (first | (refine zLd ?_) | (refine zSt ?_))
 refine Tx.start (fun w' => Below (w_12).heap.size (w_12) w') 8 10 rfl zKr ?_
 have hS_13 : Below (w_12).heap.size (w_12) (World.drew w_12) := (Below.refl _ _).drew
 refine Tx.seg2 (A := ?_) 6 27 zKr (by exact hS_13) [0, 1, 3, 4] zKr ?_ ?_
 rotate_left
 · intro w' hB
   have e0 := k5.below hB
   have e1 := k10.below hB
   have e2 := k11.below hB
   have e3 := k12.below hB
   have e4 := k13.below hB
   have e5 := k16.below hB
   have e6 := k17.below hB
   have e7 := k18.below hB
   have e8 := k19.below hB
   have e9 := k20.below hB
   exact zRd
 refine Tx.poolB 2 255 [(2, 50), (5, 53), (6, 21), (7, 22)] [(false, []), (false, []), (false, []), (false, [])] [(2, Ph.is (.agg (lims 4 s).toArray)), (5, Ph.is (.agg (lims 4 t).toArray)), (6, Ph.arr (w_12).heap.size (lims 4 0)), (7, Ph.arr (w_12).heap.size (lims 4 0))] zKr zKr (by first | assumption | exact (Below.refl _ _).drew) ?_ ?_
 · refine ⟨⟨_, rfl, ?_⟩, ⟨_, rfl, ?_⟩, ⟨_, rfl, ?_⟩, ⟨_, rfl, ?_⟩, trivial⟩
   · intro vs w1 hS hE hD K hK
     clear hD
     simp only [fillL, Act.put, zSa, zSz, zSs] at hK ⊢
     go_simp
     refine (c10.out _).mono ?_
     rintro e w2 ⟨rfl, hb2⟩
     exact hK _ _ rfl hb2 nofun
   · intro vs w1 hS hE hD K hK
     clear hD
     simp only [fillL, Act.put, zSa, zSz, zSs] at hK ⊢
     go_simp
     refine (c11.out _).mono ?_
     rintro e w2 ⟨rfl, hb2⟩
     exact hK _ _ rfl hb2 nofun
   · intro vs w1 hS hE hD K hK
     clear hD
     simp only [fillL, Act.put, zSa, zSz, zSs] at hK ⊢
     go_simp
     exact hK _ _ ⟨_, rfl, Nat.le_trans zLe hE.size, Arr.new _ _ _⟩ (below_alloc _ _) (fun _ => ⟨_, rfl, Nat.le_refl _⟩)
   · intro vs w1 hS hE hD K hK
     clear hD
     simp only [fillL, Act.put, zSa, zSz, zSs] at hK ⊢
     go_simp
     exact hK _ _ ⟨_, rfl, Nat.le_trans zLe hE.size, Arr.new _ _ _⟩ (below_alloc _ _) (fun _ => ⟨_, rfl, Nat.le_refl _⟩)
 intro vs w_p6_7126 hS_p6_7126 hE_p6_7126 hP hD
 obtain ⟨q2, q5, q6, q7, -⟩ := hP
 simp only [fillL, Act.put, zSa, zSz, zSs]
 rw [show vs 2 = _ from q2]
 clear q2
 rw [show vs 5 = _ from q5]
 clear q5
 obtain ⟨g6, e6, hg6, ha6⟩ := q6
 rw [e6]
 obtain ⟨g7, e7, hg7, ha7⟩ := q7
 rw [e7]
 have ne6_7 : g6 ≠ g7 := fun h => hD 6 7 rfl rfl rfl rfl rfl (by rw [e6, e7, h])
 clear e6 e7 hD vs
 have lt_k21_k5 := Nat.lt_of_lt_of_le k5.lt hg6
 have lt_k21_k10 := Nat.lt_of_lt_of_le k10.lt hg6
 have lt_k21_k11 := Nat.lt_of_lt_of_le k11.lt hg6
 have lt_k21_k12 := Nat.lt_of_lt_of_le k12.lt hg6
 have lt_k21_k13 := Nat.lt_of_lt_of_le k13.lt hg6
 have lt_k21_k16 := Nat.lt_of_lt_of_le k16.lt hg6
 have lt_k21_k17 := Nat.lt_of_lt_of_le k17.lt hg6
 have lt_k21_k18 := Nat.lt_of_lt_of_le k18.lt hg6
 have lt_k21_k19 := Nat.lt_of_lt_of_le k19.lt hg6
 have lt_k21_k20 := Nat.lt_of_lt_of_le k20.lt hg6
 have lt_k22_k5 := Nat.lt_of_lt_of_le k5.lt hg7
 have lt_k22_k10 := Nat.lt_of_lt_of_le k10.lt hg7
 have lt_k22_k11 := Nat.lt_of_lt_of_le k11.lt hg7
 have lt_k22_k12 := Nat.lt_of_lt_of_le k12.lt hg7
 have lt_k22_k13 := Nat.lt_of_lt_of_le k13.lt hg7
 have lt_k22_k16 := Nat.lt_of_lt_of_le k16.lt hg7
 have lt_k22_k17 := Nat.lt_of_lt_of_le k17.lt hg7
 have lt_k22_k18 := Nat.lt_of_lt_of_le k18.lt hg7
 have lt_k22_k19 := Nat.lt_of_lt_of_le k19.lt hg7
 have lt_k22_k20 := Nat.lt_of_lt_of_le k20.lt hg7
 have k5 := k5.below hS_p6_7126
 have k10 := k10.below hS_p6_7126
 have k11 := k11.below hS_p6_7126
 have k12 := k12.below hS_p6_7126
 have k13 := k13.below hS_p6_7126
 have k16 := k16.below hS_p6_7126
 have k17 := k17.below hS_p6_7126
 have k18 := k18.below hS_p6_7126
 have k19 := k19.below hS_p6_7126
 have k20 := k20.below hS_p6_7126
 have kb := bel kb hS_p6_7126
 have k21 := ha6
 clear ha6
 generalize g6 = g_k21 at *
 have k22 := ha7
 clear ha7
 generalize g7 = g_k22 at *
 refine Tx.bar 511 rfl zDk (fun K hK => ?_)
 refine step_store_arr rfl _ _ _ rfl _ _ rfl rfl _ zAm zLn zLm zOn ?_
 refine hK (fun _ => True) 9999 _ _ ?_
 clear hK K
 try simp only [Act.put]
 try simp only [zSa, zSz, zSs]
 refine Tx.row k21 (fun w_14 k21 hoth hbel => ?_)
 have k5 := hoth _ _ zOm k5
 have k10 := hoth _ _ zOm k10
 have k11 := hoth _ _ zOm k11
 have k12 := hoth _ _ zOm k12
 have k13 := hoth _ _ zOm k13
 have k16 := hoth _ _ zOm k16
 have k17 := hoth _ _ zOm k17
 have k18 := hoth _ _ zOm k18
 have k19 := hoth _ _ zOm k19
 have k20 := hoth _ _ zOm k20
 have k22 := hoth _ _ zOm k22
 have kb := hbel _ _ zOm kb
 clear hoth hbel
 refine Tx.eff 9 1023 rfl zDk (fun K hK => ?_)
 refine step_store_arr rfl _ _ _ rfl _ _ rfl rfl _ zAm zLn zLm zOn ?_
 refine hK (fun _ => True) _ _ trivial (fun _ h => h) ?_
 clear hK K
 try simp only [Act.put]
 refine Tx.done zKr ?_
 first | refine then_row k22 (fun w_15 k22 hoth hbel => ?_) | refine inb_row k22 (fun w_15 k22 hoth hbel => ?_)
 have k5 := hoth _ _ zOm k5
 have k10 := hoth _ _ zOm k10
 have k11 := hoth _ _ zOm k11
 have k12 := hoth _ _ zOm k12
 have k13 := hoth _ _ zOm k13
 have k16 := hoth _ _ zOm k16
 have k17 := hoth _ _ zOm k17
 have k18 := hoth _ _ zOm k18
 have k19 := hoth _ _ zOm k19
 have k20 := hoth _ _ zOm k20
 have k21 := hoth _ _ zOm k21
 have kb := hbel _ _ zOm kb
 clear hoth hbel
 go_upto_region 7 with (first | (refine zLd ?_) | (refine zSt ?_))
 refine Tx.start (fun w' => Below (w_15).heap.size (w_15) w') 18 22 rfl zKr ?_
 have hS_16 : Below (w_15).heap.size (w_15) (World.drew w_15) := (Below.refl _ _).drew
 refine Tx.seg2 (A := ?_) 11 60539 zKr (by exact hS_16) [0, 1, 3, 4, 5, 6, 10, 11, 13, 14, 15] zKr ?_ ?_
 rotate_left
 · intro w' hB
   have e0 := k5.below hB
   have e1 := k10.below hB
   have e2 := k11.below hB
   have e3 := k12.below hB
   have e4 := k13.below hB
   have e5 := k16.below hB
   have e6 := k17.below hB
   have e7 := k18.below hB
   have e8 := k21.below hB
   have e9 := k22.below hB
   exact zRd
 refine Tx.eff 2 60543 rfl zDk (fun K hK => ?_)
 go_simp
 refine (c12.out _).mono ?_
 rintro e w_17 ⟨rfl, hb_17⟩
 have hS_17 := ext_trans hS_16 (Nat.le_refl _) hb_17
 refine hK (fun w' => Below (w_15).heap.size (w_15) w') _ _ hS_17 (fun _ h => h) ?_
 clear hK K hb_17 hS_16
 try simp only [Act.put, zSa, zSz, zSs]
 refine Tx.eff 7 60671 rfl zDk (fun K hK => ?_)
 go_simp
 refine (c13.out _).mono ?_
 rintro e w_18 ⟨rfl, hb_18⟩
 have hS_18 := ext_trans hS_17 (Nat.le_refl _) hb_18
 refine hK (fun w' => Below (w_15).heap.size (w_15) w') _ _ hS_18 (fun _ h => h) ?_
 clear hK K hb_18 hS_17
 try simp only [Act.put, zSa, zSz, zSs]
 refine Tx.eff 8 60927 rfl zDk (fun K hK => ?_)
 go_simp
 refine (c14.out _).mono ?_
 rintro e w_19 ⟨rfl, hb_19⟩
 have hS_19 := ext_trans hS_18 (Nat.le_refl _) hb_19
 refine hK (fun w' => Below (w_15).heap.size (w_15) w') _ _ hS_19 (fun _ h => h) ?_
 clear hK K hb_19 hS_18
 try simp only [Act.put, zSa, zSz, zSs]
 refine Tx.eff 9 61439 rfl zDk (fun K hK => ?_)
 go_simp
 refine (c15.out _).mono ?_
 rintro e w_20 ⟨rfl, hb_20⟩
 have hS_20 := ext_trans hS_19 (Nat.le_refl _) hb_20
 refine hK (fun w' => Below (w_15).heap.size (w_15) w') _ _ hS_20 (fun _ h => h) ?_
 clear hK K hb_20 hS_19
 try simp only [Act.put, zSa, zSz, zSs]
 refine Tx.eff 12 65535 rfl zDk (fun K hK => ?_)
 go_simp
 refine (c16.out _).mono ?_
 rintro e w_21 ⟨rfl, hb_21⟩
 have hS_21 := ext_trans hS_20 (Nat.le_refl _) hb_21
 refine hK (fun w' => Below (w_15).heap.size (w_15) w') _ _ hS_21 (fun _ h => h) ?_
 clear hK K hb_21 hS_20
 try simp only [Act.put, zSa, zSz, zSs]
 refine Tx.eff 16 131071 rfl zDk (fun K hK => ?_)
 go_simp
 refine (c17.out _).mono ?_
 rintro e w_22 ⟨rfl, hb_22⟩
 have hS_22 := ext_trans hS_21 (Nat.le_refl _) hb_22
 refine hK (fun w' => Below (w_15).heap.size (w_15) w') _ _ hS_22 (fun _ h => h) ?_
 clear hK K hb_22 hS_21
 try simp only [Act.put, zSa, zSz, zSs]
 refine Tx.eff 17 262143 rfl zDk (fun K hK => ?_)
 go_simp
 refine (c18.out _).mono ?_
 rintro e w_23 ⟨rfl, hb_23⟩
 have hS_23 := ext_trans hS_22 (Nat.le_refl _) hb_23
 refine hK (fun w' => Below (w_15).heap.size (w_15) w') _ _ hS_23 (fun _ h => h) ?_
 clear hK K hb_23 hS_22
 try simp only [Act.put, zSa, zSz, zSs]
 have k5 := k5.below hS_23
 have k10 := k10.below hS_23
 have k11 := k11.below hS_23
 have k12 := k12.below hS_23
 have k13 := k13.below hS_23
 have k16 := k16.below hS_23
 have k17 := k17.below hS_23
 have k18 := k18.below hS_23
 have k21 := k21.below hS_23
 have k22 := k22.below hS_23
 have kb := bel kb hS_23
 refine Tx.bar 524287 rfl zDk (fun K hK => ?_)
 refine step_store_arr rfl _ _ _ rfl _ _ rfl rfl _ zAm zLn zLm zOn ?_
 refine hK (fun _ => True) 9999 _ _ ?_
 clear hK K
 try simp only [Act.put]
 try simp only [zSa, zSz, zSs]
 refine Tx.row k10 (fun w_24 k10 hoth hbel => ?_)
 have k5 := hoth _ _ zOm k5
 have k11 := hoth _ _ zOm k11
 have k12 := hoth _ _ zOm k12
 have k13 := hoth _ _ zOm k13
 have k16 := hoth _ _ zOm k16
 have k17 := hoth _ _ zOm k17
 have k18 := hoth _ _ zOm k18
 have k21 := hoth _ _ zOm k21
 have k22 := hoth _ _ zOm k22
 have kb := hbel _ _ zOm kb
 clear hoth hbel
 refine Tx.eff 19 1048575 rfl zDk (fun K hK => ?_)
 refine step_store_arr rfl _ _ _ rfl _ _ rfl rfl _ zAm zLn zLm zOn ?_
 refine hK (fun _ => True) _ _ trivial (fun _ h => h) ?_
 clear hK K
 try simp only [Act.put]
 refine Tx.row k11 (fun w_25 k11 hoth hbel => ?_)
 have k5 := hoth _ _ zOm k5
 have k10 := hoth _ _ zOm k10
 have k12 := hoth _ _ zOm k12
 have k13 := hoth _ _ zOm k13
 have k16 := hoth _ _ zOm k16
 have k17 := hoth _ _ zOm k17
 have k18 := hoth _ _ zOm k18
 have k21 := hoth _ _ zOm k21
 have k22 := hoth _ _ zOm k22
 have kb := hbel _ _ zOm kb
 clear hoth hbel
 refine Tx.eff 20 2097151 rfl zDk (fun K hK => ?_)
 refine step_store_arr rfl _ _ _ rfl _ _ rfl rfl _ zAm zLn zLm zOn ?_
 refine hK (fun _ => True) _ _ trivial (fun _ h => h) ?_
 clear hK K
 try simp only [Act.put]
 refine Tx.row k12 (fun w_26 k12 hoth hbel => ?_)
 have k5 := hoth _ _ zOm k5
 have k10 := hoth _ _ zOm k10
 have k11 := hoth _ _ zOm k11
 have k13 := hoth _ _ zOm k13
 have k16 := hoth _ _ zOm k16
 have k17 := hoth _ _ zOm k17
 have k18 := hoth _ _ zOm k18
 have k21 := hoth _ _ zOm k21
 have k22 := hoth _ _ zOm k22
 have kb := hbel _ _ zOm kb
 clear hoth hbel
 refine Tx.eff 21 4194303 rfl zDk (fun K hK => ?_)
 refine step_store_arr rfl _ _ _ rfl _ _ rfl rfl _ zAm zLn zLm zOn ?_
 refine hK (fun _ => True) _ _ trivial (fun _ h => h) ?_
 clear hK K
 try simp only [Act.put]
 refine Tx.done zKr ?_
 first | refine then_row k13 (fun w_27 k13 hoth hbel => ?_) | refine inb_row k13 (fun w_27 k13 hoth hbel => ?_)
 have k5 := hoth _ _ zOm k5
 have k10 := hoth _ _ zOm k10
 have k11 := hoth _ _ zOm k11
 have k12 := hoth _ _ zOm k12
 have k16 := hoth _ _ zOm k16
 have k17 := hoth _ _ zOm k17
 have k18 := hoth _ _ zOm k18
 have k21 := hoth _ _ zOm k21
 have k22 := hoth _ _ zOm k22
 have kb := hbel _ _ zOm kb
 clear hoth hbel
 go_wp2_with fail
 exact bodyPost_ret (results_arr4 Tryz.results202 _ _ _ _ _ _ rfl rfl rfl rfl zKr _ _ _ _ k10 k11 k12 k13 (by rw [lims_len]; kernel_rfl) (by rw [lims_len]; kernel_rfl) (by rw [lims_len]; kernel_rfl) (by rw [lims_len]; kernel_rfl)) rfl ⟨rfl, kb⟩
end Go.Proofs.YtibdgkhkhmdihaaGreatDoor
