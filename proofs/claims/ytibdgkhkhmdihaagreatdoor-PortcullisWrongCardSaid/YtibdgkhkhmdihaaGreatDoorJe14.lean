/- PortcullisWrong: part 14 of its proof: lemmas and contracts, each with its conditions in its own statement; the last part holds the law itself. -/
import Derived.Test.YtibdgkhkhmdihaaGreatDoorJe13

set_option maxHeartbeats 4000000
set_option maxRecDepth 100000
namespace Go.Proofs.YtibdgkhkhmdihaaGreatDoor
open Go.RowKit
theorem rd_builta {P : Program} {l : List Oper} {w : World} {i : Nat} {is : List Nat} {a A : Act} {o : Oper} (hi : l[i]? = some o) (hw : Region.wanted o (yielded l.toArray a.tmps) = true) (t : TypeId) (parts : Array (Nat × Operand)) (ho : o.op = .build t parts)
 (cells : Array Value) (hc : P.built t (parts.map fun (i, x) => (i, a.eval x)).toList = some cells) (h : rd P l w is (a.put o.dst (.agg cells)) A) : rd P l w (i :: is) a A := by
 refine rd_take hi hw ?_ h
 unfold execOp
 simp only [ho, Sem.run_bind, run_build w t _ cells hc, Result.andThen_ok]
 rfl
def dN : Nat := 37095705934669439343138083508754565189542113879843219016388785533085940283555
theorem dN_lt : dN < pN := by decide +kernel
def ptL (x y z t : Nat) : List Value := lims 4 x ++ (lims 4 y ++ (lims 4 z ++ lims 4 t))
theorem ptL_len (x y z t : Nat) : (ptL x y z t).length = 16 := by simp [ptL, lims_len]
theorem ptL_one (x y z t : Nat) : ∀ v ∈ ptL x y z t, v.oneCell' = true := by
 intro v hv
 simp only [ptL, List.mem_append] at hv
 rcases hv with h | h | h | h <;> exact lims_one _ _ _ h
theorem ptL_x {w : World} {k x y z t : Nat} (h : Arr w k (ptL x y z t)) : w.rangeAt k 0 (lims 4 x) := h.range (fun j hj => by
 rw [Nat.zero_add, ptL, List.getElem?_append_left hj])
theorem ptL_y {w : World} {k x y z t : Nat} (h : Arr w k (ptL x y z t)) : w.rangeAt k 4 (lims 4 y) := h.range (fun j hj => by
 rw [lims_len] at hj
 rw [ptL, List.getElem?_append_right (by rw [lims_len]; omega), lims_len, show 4 + j - 4 = j by omega, List.getElem?_append_left (by rw [lims_len]; omega)])
theorem ptL_z {w : World} {k x y z t : Nat} (h : Arr w k (ptL x y z t)) : w.rangeAt k 8 (lims 4 z) := h.range (fun j hj => by
 rw [lims_len] at hj
 rw [ptL, List.getElem?_append_right (by rw [lims_len]; omega), lims_len, List.getElem?_append_right (by rw [lims_len]; omega), lims_len, show 8 + j - 4 - 4 = j by omega, List.getElem?_append_left (by rw [lims_len]; omega)])
theorem ptL_t {w : World} {k x y z t : Nat} (h : Arr w k (ptL x y z t)) : w.rangeAt k 12 (lims 4 t) := h.range (fun j hj => by
 rw [lims_len] at hj
 rw [ptL, List.getElem?_append_right (by rw [lims_len]; omega), lims_len, List.getElem?_append_right (by rw [lims_len]; omega), lims_len, List.getElem?_append_right (by rw [lims_len]; omega), lims_len, show 12 + j - 4 - 4 - 4 = j by omega])
theorem factor_any (w : World) : Calls Tryz.prog 180 #[] w fun e w' => e = .returned (.agg (lims 4 dN).toArray) ∧ Below w.heap.size w w' := by
 go_enter Tryz.func180, Tryz.ntmps180
 go_upto_region 1 with fail
 refine wp_new1 (fun W hsz k2 kb => ?_)
 replace k2 : Arr W w.heap.size (lims 4 0) := k2
 clear hsz
 go_wp2_with (first | (refine wpList_builta rfl _ _ rfl (lims 4 dN).toArray zKr ?_) | (refine zSt ?_))
 exact bodyPost_ret (results_arr2 Tryz.results180 _ _ _ rfl zKr _ (by first | assumption | exact Arr.setRow zAm _) zLn) rfl ⟨rfl, below_setRow kb (Nat.le_refl _) _⟩
theorem pnone_any (w : World) : Calls Tryz.prog 121 #[] w fun e w' => e = .returned (.agg (ptL 0 1 1 0).toArray) ∧ Below w.heap.size w w' := by
 go_enter Tryz.func121, Tryz.ntmps121
 go_upto_region 1 with fail
 refine wp_new1 (fun W hsz k2 kb => ?_)
 replace k2 : Arr W w.heap.size (ptL 0 0 0 0) := k2
 clear hsz
 go_wp2_with (refine wpl_storeG rfl _ _ _ rfl _ (ptL 0 1 1 0) rfl zKr _ k2 (by rw [ptL_len]; kernel_rfl) (by rw [ptL_len, ptL_len]) (ptL_one _ _ _ _) (fun w4 k6 hg hsz => ?_))
 have kb := below_gr kb hg (Nat.le_refl _) kb.size
 exact bodyPost_ret (results_arr2 Tryz.results121 _ _ _ rfl zKr _ k6 (by rw [ptL_len]; kernel_rfl)) rfl ⟨rfl, kb⟩
theorem padd_r (x1 y1 z1 t1 x2 y2 z2 t2 : Nat) (lx1 : x1 < pN) (ly1 : y1 < pN) (lz1 : z1 < pN) (lt1 : t1 < pN) (lx2 : x2 < pN) (ly2 : y2 < pN) (lz2 : z2 < pN) (lt2 : t2 < pN) {d1 d2 a b1 b2 b k2 c1 c zz z e f g h r1 r2 r3 r4 : Nat}
 (g1 : Hid ((y1 + pN - x1) % pN = d1)) (g2 : Hid ((y2 + pN - x2) % pN = d2)) (g3 : Hid (d1 * d2 % pN = a)) (g4 : Hid ((y1 + x1) % pN = b1)) (g5 : Hid ((y2 + x2) % pN = b2)) (g6 : Hid (b1 * b2 % pN = b)) (g7 : Hid ((dN + dN) % pN = k2)) (g8 : Hid (t1 * k2 % pN = c1)) (g9 : Hid (c1 * t2 % pN = c)) (g10 : Hid ((z2 + z2) % pN = zz)) (g11 : Hid (z1 * zz % pN = z)) (g12 : Hid ((b + pN - a) % pN = e)) (g13 : Hid ((z + pN - c) % pN = f)) (g14 : Hid ((z + c) % pN = g)) (g15 : Hid ((b + a) % pN = h)) (g16 : Hid (e * f % pN = r1)) (g17 : Hid (g * h % pN = r2)) (g18 : Hid (f * g % pN = r3)) (g19 : Hid (e * h % pN = r4)) (w : World) :
 Calls Tryz.prog 122 #[.agg (ptL x1 y1 z1 t1).toArray, .agg (ptL x2 y2 z2 t2).toArray] w fun e w' => e = .returned (.agg (ptL r1 r2 r3 r4).toArray) ∧ Below w.heap.size w w' := by
 have hp4 : pN < 18446744073709551616 ^ 4 := by decide
 have lim : ∀ {n : Nat}, n < pN → n < 18446744073709551616 ^ 4 := fun h => Nat.lt_trans h hp4
 have ldN := dN_lt
 have ld1 : d1 < pN := g1.out ▸ Nat.mod_lt _ pN_pos
 have ld2 : d2 < pN := g2.out ▸ Nat.mod_lt _ pN_pos
 have la : a < pN := g3.out ▸ Nat.mod_lt _ pN_pos
 have lb1 : b1 < pN := g4.out ▸ Nat.mod_lt _ pN_pos
 have lb2 : b2 < pN := g5.out ▸ Nat.mod_lt _ pN_pos
 have lb : b < pN := g6.out ▸ Nat.mod_lt _ pN_pos
 have lk2 : k2 < pN := g7.out ▸ Nat.mod_lt _ pN_pos
 have lc1 : c1 < pN := g8.out ▸ Nat.mod_lt _ pN_pos
 have lc : c < pN := g9.out ▸ Nat.mod_lt _ pN_pos
 have lzz : zz < pN := g10.out ▸ Nat.mod_lt _ pN_pos
 have lz : z < pN := g11.out ▸ Nat.mod_lt _ pN_pos
 have le : e < pN := g12.out ▸ Nat.mod_lt _ pN_pos
 have lf : f < pN := g13.out ▸ Nat.mod_lt _ pN_pos
 have lg : g < pN := g14.out ▸ Nat.mod_lt _ pN_pos
 have lh : h < pN := g15.out ▸ Nat.mod_lt _ pN_pos
 have lr1 : r1 < pN := g16.out ▸ Nat.mod_lt _ pN_pos
 have lr2 : r2 < pN := g17.out ▸ Nat.mod_lt _ pN_pos
 have lr3 : r3 < pN := g18.out ▸ Nat.mod_lt _ pN_pos
 have lr4 : r4 < pN := g19.out ▸ Nat.mod_lt _ pN_pos
 have q1 := zH (fun w => minus_r g1 ly1 lx1 w)
 have q2 := zH (fun w => minus_r g2 ly2 lx2 w)
 have q3 := zH (fun w => times_r g3 (lim ld1) (lim ld2) w)
 have q4 := zH (fun w => plus_r g4 (lim ly1) (lim lx1) w)
 have q5 := zH (fun w => plus_r g5 (lim ly2) (lim lx2) w)
 have q6 := zH (fun w => times_r g6 (lim lb1) (lim lb2) w)
 have q7 := zH (fun w => plus_r g7 (lim ldN) (lim ldN) w)
 have q8 := zH (fun w => times_r g8 (lim lt1) (lim lk2) w)
 have q9 := zH (fun w => times_r g9 (lim lc1) (lim lt2) w)
 have q10 := zH (fun w => plus_r g10 (lim lz2) (lim lz2) w)
 have q11 := zH (fun w => times_r g11 (lim lz1) (lim lzz) w)
 have q12 := zH (fun w => minus_r g12 lb la w)
 have q13 := zH (fun w => minus_r g13 lz lc w)
 have q14 := zH (fun w => plus_r g14 (lim lz) (lim lc) w)
 have q15 := zH (fun w => plus_r g15 (lim lb) (lim la) w)
 have q16 := zH (fun w => times_r g16 (lim le) (lim lf) w)
 have q17 := zH (fun w => times_r g17 (lim lg) (lim lh) w)
 have q18 := zH (fun w => times_r g18 (lim lf) (lim lg) w)
 have q19 := zH (fun w => times_r g19 (lim le) (lim lh) w)
 clear g1 g2 g3 g4 g5 g6 g7 g8 g9 g10 g11 g12 g13 g14 g15 g16 g17 g18 g19 hp4 ldN lim lx1 ly1 lz1 lt1 lx2 ly2 lz2 lt2 ld1 ld2 la lb1 lb2 lb lk2 lc1 lc lzz lz le lf lg lh lr1 lr2 lr3 lr4
 go_enter Tryz.func122, Tryz.ntmps122
 go_upto_region 1 with fail
 refine wp_new3 (fun W hsz kA kB k4 kb => ?_)
 have kA : Arr W w.heap.size (ptL x1 y1 z1 t1) := kA
 have kB : Arr W (w.heap.size + 1) (ptL x2 y2 z2 t2) := kB
 have k4 : Arr W (w.heap.size + 1 + 1) (ptL 0 0 0 0) := k4
 clear hsz
 go_upto_region 1 with (first | (refine zLd ?_) | (refine zSt ?_))
 go_wp2_with (first | (refine zLd ?_) | (refine zSt ?_))
 refine (factor_any _).mono ?_
 rintro e w_1 ⟨rfl, hb_1⟩
 have kA := kA.below hb_1
 have kB := kB.below hb_1
 have k4 := k4.below hb_1
 have kb := bel kb hb_1
 clear hb_1
 go_upto_region 2 with (first | (refine zLd ?_) | (refine zSt ?_))
 have hg_k5_kA := kA.lt
 have hg_k5_kB := kB.lt
 have hg_k5_k4 := k4.lt
 refine code_new (fun w_2 k5 hnew => ?_)
 have kA := kA.below hnew
 have kB := kB.below hnew
 have k4 := k4.below hnew
 have kb := bel kb hnew
 clear hnew
 generalize (w_1).heap.size = g_k5 at k5 hg_k5_kA hg_k5_kB hg_k5_k4 ⊢
 go_upto_region 2 with (first | (refine zLd ?_) | (refine zSt ?_))
 refine Tx.start (fun w' => Below (w_2).heap.size (w_2) w') 12 13 rfl zKr ?_
 have hS_3 : Below (w_2).heap.size (w_2) (World.drew w_2) := (Below.refl _ _).drew
 refine Tx.seg (A := ?_) 5 495 zKr (by exact hS_3) [0, 1, 2, 3, 5, 6, 7, 8] zKr ?_ ?_
 rotate_left
 · intro w' hB
   have e0 := kA.below hB
   have e1 := kB.below hB
   have e2 := k4.below hB
   have e3 := k5.below hB
   have yA := ptL_y (kA.below hB)
   have xA := ptL_x (kA.below hB)
   have yB := ptL_y (kB.below hB)
   have xB := ptL_x (kB.below hB)
   exact zRm
 refine Tx.poolB 1 4095 [(4, 19), (9, 24), (10, 25), (11, 6)] [(false, []), (false, []), (false, [(4, 19), (9, 24)]), (false, [])] [(4, Ph.is (.agg (lims 4 d1).toArray)), (9, Ph.is (.agg (lims 4 d2).toArray)), (10, Ph.is (.agg (lims 4 a).toArray)), (11, Ph.arr (w_2).heap.size (lims 4 0))] zKr zKr (by first | assumption | exact (Below.refl _ _).drew) ?_ ?_
 · refine ⟨⟨_, rfl, ?_⟩, ⟨_, rfl, ?_⟩, ⟨_, rfl, ?_⟩, ⟨_, rfl, ?_⟩, trivial⟩
   · intro vs w1 hS hE hD K hK
     clear hD
     simp only [fillL, Act.put, zSa, zSz, zSs] at hK ⊢
     go_simp
     refine (q1.out _).mono ?_
     rintro e w2 ⟨rfl, hb2⟩
     exact hK _ _ rfl hb2 nofun
   · intro vs w1 hS hE hD K hK
     clear hD
     simp only [fillL, Act.put, zSa, zSz, zSs] at hK ⊢
     go_simp
     refine (q2.out _).mono ?_
     rintro e w2 ⟨rfl, hb2⟩
     exact hK _ _ rfl hb2 nofun
   · intro vs w1 hS hE hD K hK
     obtain ⟨q4, q9, -⟩ := hD
     simp only [fillL, Act.put, zSa, zSz, zSs] at hK ⊢
     rw [show vs 4 = _ from q4] at hK ⊢
     clear q4
     rw [show vs 9 = _ from q9] at hK ⊢
     clear q9
     go_simp
     refine (q3.out _).mono ?_
     rintro e w2 ⟨rfl, hb2⟩
     exact hK _ _ rfl hb2 nofun
   · intro vs w1 hS hE hD K hK
     clear hD
     simp only [fillL, Act.put, zSa, zSz, zSs] at hK ⊢
     go_simp
     exact hK _ _ ⟨_, rfl, Nat.le_trans zLe hE.size, Arr.new _ _ _⟩ (below_alloc _ _) (fun _ => ⟨_, rfl, Nat.le_refl _⟩)
 intro vs w_p2_6921 hS_p2_6921 hE_p2_6921 hP hD
 obtain ⟨q4, q9, q10, q11, -⟩ := hP
 simp only [fillL, Act.put, zSa, zSz, zSs]
 rw [show vs 4 = _ from q4]
 clear q4
 rw [show vs 9 = _ from q9]
 clear q9
 rw [show vs 10 = _ from q10]
 clear q10
 obtain ⟨g11, e11, hg11, ha11⟩ := q11
 rw [e11]
 clear e11 hD vs
 have lt_k6_kA := Nat.lt_of_lt_of_le kA.lt hg11
 have lt_k6_kB := Nat.lt_of_lt_of_le kB.lt hg11
 have lt_k6_k4 := Nat.lt_of_lt_of_le k4.lt hg11
 have lt_k6_k5 := Nat.lt_of_lt_of_le k5.lt hg11
 have kA := kA.below hS_p2_6921
 have kB := kB.below hS_p2_6921
 have k4 := k4.below hS_p2_6921
 have k5 := k5.below hS_p2_6921
 have kb := bel kb hS_p2_6921
 refine Tx.bar 8191 rfl zDk (fun K hK => ?_)
 refine step_store_arr rfl _ _ _ rfl _ _ rfl rfl _ zAm zLn zLm zOn ?_
 refine hK (fun _ => True) 9999 _ _ ?_
 clear hK K
 try simp only [Act.put]
 try simp only [zSa, zSz, zSs]
 refine Tx.done zKr ?_
 refine then_row ha11 (fun w_4 ha11 hoth hbel => ?_)
 have kA := hoth _ _ zOm kA
 have kB := hoth _ _ zOm kB
 have k4 := hoth _ _ zOm k4
 have k5 := hoth _ _ zOm k5
 have kb := hbel _ _ zOm kb
 clear hoth hbel
 have k6 := ha11
 clear ha11
 generalize g11 = g_k6 at *
 go_upto_region 3 with (first | (refine zLd ?_) | (refine zSt ?_))
 refine Tx.start (fun w' => Below (w_4).heap.size (w_4) w') 12 13 rfl zKr ?_
 have hS_5 : Below (w_4).heap.size (w_4) (World.drew w_4) := (Below.refl _ _).drew
 refine Tx.seg (A := ?_) 5 495 zKr (by exact hS_5) [0, 1, 2, 3, 5, 6, 7, 8] zKr ?_ ?_
 rotate_left
 · intro w' hB
   have e0 := kA.below hB
   have e1 := kB.below hB
   have e2 := k4.below hB
   have e3 := k5.below hB
   have e4 := k6.below hB
   have yA := ptL_y (kA.below hB)
   have xA := ptL_x (kA.below hB)
   have yB := ptL_y (kB.below hB)
   have xB := ptL_x (kB.below hB)
   exact zRm
 refine Tx.poolB 1 4095 [(4, 30), (9, 35), (10, 36), (11, 7)] [(false, []), (false, []), (false, [(4, 30), (9, 35)]), (false, [])] [(4, Ph.is (.agg (lims 4 b1).toArray)), (9, Ph.is (.agg (lims 4 b2).toArray)), (10, Ph.is (.agg (lims 4 b).toArray)), (11, Ph.arr (w_4).heap.size (lims 4 0))] zKr zKr (by first | assumption | exact (Below.refl _ _).drew) ?_ ?_
 · refine ⟨⟨_, rfl, ?_⟩, ⟨_, rfl, ?_⟩, ⟨_, rfl, ?_⟩, ⟨_, rfl, ?_⟩, trivial⟩
   · intro vs w1 hS hE hD K hK
     clear hD
     simp only [fillL, Act.put, zSa, zSz, zSs] at hK ⊢
     go_simp
     refine (q4.out _).mono ?_
     rintro e w2 ⟨rfl, hb2⟩
     exact hK _ _ rfl hb2 nofun
   · intro vs w1 hS hE hD K hK
     clear hD
     simp only [fillL, Act.put, zSa, zSz, zSs] at hK ⊢
     go_simp
     refine (q5.out _).mono ?_
     rintro e w2 ⟨rfl, hb2⟩
     exact hK _ _ rfl hb2 nofun
   · intro vs w1 hS hE hD K hK
     obtain ⟨q4, q9, -⟩ := hD
     simp only [fillL, Act.put, zSa, zSz, zSs] at hK ⊢
     rw [show vs 4 = _ from q4] at hK ⊢
     clear q4
     rw [show vs 9 = _ from q9] at hK ⊢
     clear q9
     go_simp
     refine (q6.out _).mono ?_
     rintro e w2 ⟨rfl, hb2⟩
     exact hK _ _ rfl hb2 nofun
   · intro vs w1 hS hE hD K hK
     clear hD
     simp only [fillL, Act.put, zSa, zSz, zSs] at hK ⊢
     go_simp
     exact hK _ _ ⟨_, rfl, Nat.le_trans zLe hE.size, Arr.new _ _ _⟩ (below_alloc _ _) (fun _ => ⟨_, rfl, Nat.le_refl _⟩)
 intro vs w_p3_4329 hS_p3_4329 hE_p3_4329 hP hD
 obtain ⟨q4, q9, q10, q11, -⟩ := hP
 simp only [fillL, Act.put, zSa, zSz, zSs]
 rw [show vs 4 = _ from q4]
 clear q4
 rw [show vs 9 = _ from q9]
 clear q9
 rw [show vs 10 = _ from q10]
 clear q10
 obtain ⟨g11, e11, hg11, ha11⟩ := q11
 rw [e11]
 clear e11 hD vs
 have lt_k7_kA := Nat.lt_of_lt_of_le kA.lt hg11
 have lt_k7_kB := Nat.lt_of_lt_of_le kB.lt hg11
 have lt_k7_k4 := Nat.lt_of_lt_of_le k4.lt hg11
 have lt_k7_k5 := Nat.lt_of_lt_of_le k5.lt hg11
 have lt_k7_k6 := Nat.lt_of_lt_of_le k6.lt hg11
 have kA := kA.below hS_p3_4329
 have kB := kB.below hS_p3_4329
 have k4 := k4.below hS_p3_4329
 have k5 := k5.below hS_p3_4329
 have k6 := k6.below hS_p3_4329
 have kb := bel kb hS_p3_4329
 refine Tx.bar 8191 rfl zDk (fun K hK => ?_)
 refine step_store_arr rfl _ _ _ rfl _ _ rfl rfl _ zAm zLn zLm zOn ?_
 refine hK (fun _ => True) 9999 _ _ ?_
 clear hK K
 try simp only [Act.put]
 try simp only [zSa, zSz, zSs]
 refine Tx.done zKr ?_
 refine then_row ha11 (fun w_6 ha11 hoth hbel => ?_)
 have kA := hoth _ _ zOm kA
 have kB := hoth _ _ zOm kB
 have k4 := hoth _ _ zOm k4
 have k5 := hoth _ _ zOm k5
 have k6 := hoth _ _ zOm k6
 have kb := hbel _ _ zOm kb
 clear hoth hbel
 have k7 := ha11
 clear ha11
 generalize g11 = g_k7 at *
 go_upto_region 4 with (first | (refine zLd ?_) | (refine zSt ?_))
 refine Tx.start (fun w' => Below (w_6).heap.size (w_6) w') 10 11 rfl zKr ?_
 have hS_7 : Below (w_6).heap.size (w_6) (World.drew w_6) := (Below.refl _ _).drew
 refine Tx.seg (A := ?_) 5 207 zKr (by exact hS_7) [0, 1, 2, 3, 6, 7] zKr ?_ ?_
 rotate_left
 · intro w' hB
   have e0 := kA.below hB
   have e1 := kB.below hB
   have e2 := k4.below hB
   have e3 := k5.below hB
   have e4 := k6.below hB
   have e5 := k7.below hB
   have tA := ptL_t (kA.below hB)
   have tB := ptL_t (kB.below hB)
   exact zRm
 refine Tx.poolB 1 1023 [(4, 41), (5, 42), (8, 45), (9, 8)] [(false, []), (false, [(4, 41)]), (false, [(5, 42)]), (false, [])] [(4, Ph.is (.agg (lims 4 k2).toArray)), (5, Ph.is (.agg (lims 4 c1).toArray)), (8, Ph.is (.agg (lims 4 c).toArray)), (9, Ph.arr (w_6).heap.size (lims 4 0))] zKr zKr (by first | assumption | exact (Below.refl _ _).drew) ?_ ?_
 · refine ⟨⟨_, rfl, ?_⟩, ⟨_, rfl, ?_⟩, ⟨_, rfl, ?_⟩, ⟨_, rfl, ?_⟩, trivial⟩
   · intro vs w1 hS hE hD K hK
     clear hD
     simp only [fillL, Act.put, zSa, zSz, zSs] at hK ⊢
     go_simp
     refine (q7.out _).mono ?_
     rintro e w2 ⟨rfl, hb2⟩
     exact hK _ _ rfl hb2 nofun
   · intro vs w1 hS hE hD K hK
     obtain ⟨q4, -⟩ := hD
     simp only [fillL, Act.put, zSa, zSz, zSs] at hK ⊢
     rw [show vs 4 = _ from q4] at hK ⊢
     clear q4
     go_simp
     refine (q8.out _).mono ?_
     rintro e w2 ⟨rfl, hb2⟩
     exact hK _ _ rfl hb2 nofun
   · intro vs w1 hS hE hD K hK
     obtain ⟨q5, -⟩ := hD
     simp only [fillL, Act.put, zSa, zSz, zSs] at hK ⊢
     rw [show vs 5 = _ from q5] at hK ⊢
     clear q5
     go_simp
     refine (q9.out _).mono ?_
     rintro e w2 ⟨rfl, hb2⟩
     exact hK _ _ rfl hb2 nofun
   · intro vs w1 hS hE hD K hK
     clear hD
     simp only [fillL, Act.put, zSa, zSz, zSs] at hK ⊢
     go_simp
     exact hK _ _ ⟨_, rfl, Nat.le_trans zLe hE.size, Arr.new _ _ _⟩ (below_alloc _ _) (fun _ => ⟨_, rfl, Nat.le_refl _⟩)
 intro vs w_p4_1672 hS_p4_1672 hE_p4_1672 hP hD
 obtain ⟨q4, q5, q8, q9, -⟩ := hP
 simp only [fillL, Act.put, zSa, zSz, zSs]
 rw [show vs 4 = _ from q4]
 clear q4
 rw [show vs 5 = _ from q5]
 clear q5
 rw [show vs 8 = _ from q8]
 clear q8
 obtain ⟨g9, e9, hg9, ha9⟩ := q9
 rw [e9]
 clear e9 hD vs
 have lt_k8_kA := Nat.lt_of_lt_of_le kA.lt hg9
 have lt_k8_kB := Nat.lt_of_lt_of_le kB.lt hg9
 have lt_k8_k4 := Nat.lt_of_lt_of_le k4.lt hg9
 have lt_k8_k5 := Nat.lt_of_lt_of_le k5.lt hg9
 have lt_k8_k6 := Nat.lt_of_lt_of_le k6.lt hg9
 have lt_k8_k7 := Nat.lt_of_lt_of_le k7.lt hg9
 have kA := kA.below hS_p4_1672
 have kB := kB.below hS_p4_1672
 have k4 := k4.below hS_p4_1672
 have k5 := k5.below hS_p4_1672
 have k6 := k6.below hS_p4_1672
 have k7 := k7.below hS_p4_1672
 have kb := bel kb hS_p4_1672
 refine Tx.bar 2047 rfl zDk (fun K hK => ?_)
 refine step_store_arr rfl _ _ _ rfl _ _ rfl rfl _ zAm zLn zLm zOn ?_
 refine hK (fun _ => True) 9999 _ _ ?_
 clear hK K
 try simp only [Act.put]
 try simp only [zSa, zSz, zSs]
 refine Tx.done zKr ?_
 refine then_row ha9 (fun w_8 ha9 hoth hbel => ?_)
 have kA := hoth _ _ zOm kA
 have kB := hoth _ _ zOm kB
 have k4 := hoth _ _ zOm k4
 have k5 := hoth _ _ zOm k5
 have k6 := hoth _ _ zOm k6
 have k7 := hoth _ _ zOm k7
 have kb := hbel _ _ zOm kb
 clear hoth hbel
 have k8 := ha9
 clear ha9
 generalize g9 = g_k8 at *
 go_upto_region 5 with (first | (refine zLd ?_) | (refine zSt ?_))
 refine Tx.start (fun w' => Below (w_8).heap.size (w_8) w') 9 10 rfl zKr ?_
 have hS_9 : Below (w_8).heap.size (w_8) (World.drew w_8) := (Below.refl _ _).drew
 refine Tx.seg (A := ?_) 4 63 zKr (by exact hS_9) [0, 1, 2, 3, 4, 5] zKr ?_ ?_
 rotate_left
 · intro w' hB
   have e0 := kA.below hB
   have e1 := kB.below hB
   have e2 := k4.below hB
   have e3 := k6.below hB
   have e4 := k7.below hB
   have e5 := k8.below hB
   have zA := ptL_z (kA.below hB)
   have zB := ptL_z (kB.below hB)
   exact zRm
 refine Tx.poolB 1 511 [(6, 52), (7, 53), (8, 9)] [(false, []), (false, [(6, 52)]), (false, [])] [(6, Ph.is (.agg (lims 4 zz).toArray)), (7, Ph.is (.agg (lims 4 z).toArray)), (8, Ph.arr (w_8).heap.size (lims 4 0))] zKr zKr (by first | assumption | exact (Below.refl _ _).drew) ?_ ?_
 · refine ⟨⟨_, rfl, ?_⟩, ⟨_, rfl, ?_⟩, ⟨_, rfl, ?_⟩, trivial⟩
   · intro vs w1 hS hE hD K hK
     clear hD
     simp only [fillL, Act.put, zSa, zSz, zSs] at hK ⊢
     go_simp
     refine (q10.out _).mono ?_
     rintro e w2 ⟨rfl, hb2⟩
     exact hK _ _ rfl hb2 nofun
   · intro vs w1 hS hE hD K hK
     obtain ⟨q6, -⟩ := hD
     simp only [fillL, Act.put, zSa, zSz, zSs] at hK ⊢
     rw [show vs 6 = _ from q6] at hK ⊢
     clear q6
     go_simp
     refine (q11.out _).mono ?_
     rintro e w2 ⟨rfl, hb2⟩
     exact hK _ _ rfl hb2 nofun
   · intro vs w1 hS hE hD K hK
     clear hD
     simp only [fillL, Act.put, zSa, zSz, zSs] at hK ⊢
     go_simp
     exact hK _ _ ⟨_, rfl, Nat.le_trans zLe hE.size, Arr.new _ _ _⟩ (below_alloc _ _) (fun _ => ⟨_, rfl, Nat.le_refl _⟩)
 intro vs w_p5_63 hS_p5_63 hE_p5_63 hP hD
 obtain ⟨q6, q7, q8, -⟩ := hP
 simp only [fillL, Act.put, zSa, zSz, zSs]
 rw [show vs 6 = _ from q6]
 clear q6
 rw [show vs 7 = _ from q7]
 clear q7
 obtain ⟨g8, e8, hg8, ha8⟩ := q8
 rw [e8]
 clear e8 hD vs
 have lt_k9_kA := Nat.lt_of_lt_of_le kA.lt hg8
 have lt_k9_kB := Nat.lt_of_lt_of_le kB.lt hg8
 have lt_k9_k4 := Nat.lt_of_lt_of_le k4.lt hg8
 have lt_k9_k6 := Nat.lt_of_lt_of_le k6.lt hg8
 have lt_k9_k7 := Nat.lt_of_lt_of_le k7.lt hg8
 have lt_k9_k8 := Nat.lt_of_lt_of_le k8.lt hg8
 have kA := kA.below hS_p5_63
 have kB := kB.below hS_p5_63
 have k4 := k4.below hS_p5_63
 have k6 := k6.below hS_p5_63
 have k7 := k7.below hS_p5_63
 have k8 := k8.below hS_p5_63
 have kb := bel kb hS_p5_63
 refine Tx.bar 1023 rfl zDk (fun K hK => ?_)
 refine step_store_arr rfl _ _ _ rfl _ _ rfl rfl _ zAm zLn zLm zOn ?_
 refine hK (fun _ => True) 9999 _ _ ?_
 clear hK K
 try simp only [Act.put]
 try simp only [zSa, zSz, zSs]
 refine Tx.done zKr ?_
 refine then_row ha8 (fun w_10 ha8 hoth hbel => ?_)
 have kA := hoth _ _ zOm kA
 have kB := hoth _ _ zOm kB
 have k4 := hoth _ _ zOm k4
 have k6 := hoth _ _ zOm k6
 have k7 := hoth _ _ zOm k7
 have k8 := hoth _ _ zOm k8
 have kb := hbel _ _ zOm kb
 clear hoth hbel
 have k9 := ha8
 clear ha8
 generalize g8 = g_k9 at *
 go_upto_region 6 with (first | (refine zLd ?_) | (refine zSt ?_))
 refine Tx.start (fun w' => Below (w_10).heap.size (w_10) w') 16 20 rfl zKr ?_
 have hS_11 : Below (w_10).heap.size (w_10) (World.drew w_10) := (Below.refl _ _).drew
 refine Tx.seg2 (A := ?_) 12 1755 zKr (by exact hS_11) [0, 1, 3, 4, 6, 7, 9, 10] zKr ?_ ?_
 rotate_left
 · intro w' hB
   have e0 := k4.below hB
   have e1 := k6.below hB
   have e2 := k7.below hB
   have e3 := k8.below hB
   have e4 := k9.below hB
   exact zRd
 refine Tx.poolBC 4 65535 [(2, 56), (5, 59), (8, 62), (11, 65), (12, 10), (13, 11), (14, 12), (15, 13)] [(false, []), (false, []), (false, []), (false, []), (false, []), (false, []), (false, []), (false, [])] [(2, Ph.is (.agg (lims 4 e).toArray)), (5, Ph.is (.agg (lims 4 f).toArray)), (8, Ph.is (.agg (lims 4 g).toArray)), (11, Ph.is (.agg (lims 4 h).toArray)), (12, Ph.arr (w_10).heap.size (lims 4 0)), (13, Ph.arr (w_10).heap.size (lims 4 0)), (14, Ph.arr (w_10).heap.size (lims 4 0)), (15, Ph.arr (w_10).heap.size (lims 4 0))] zKr zKr (by first | assumption | exact (Below.refl _ _).drew) ?_ ?_
 · refine ⟨⟨_, rfl, ?_⟩, ⟨_, rfl, ?_⟩, ⟨_, rfl, ?_⟩, ⟨_, rfl, ?_⟩, ⟨_, rfl, ?_⟩, ⟨_, rfl, ?_⟩, ⟨_, rfl, ?_⟩, ⟨_, rfl, ?_⟩, trivial⟩
   · intro vs w1 hS hE hD K hK
     clear hD
     simp only [fillL, Act.put, zSa, zSz, zSs] at hK ⊢
     go_simp
     refine (q12.out _).mono ?_
     rintro e w2 ⟨rfl, hb2⟩
     exact hK _ _ rfl hb2 nofun
   · intro vs w1 hS hE hD K hK
     clear hD
     simp only [fillL, Act.put, zSa, zSz, zSs] at hK ⊢
     go_simp
     refine (q13.out _).mono ?_
     rintro e w2 ⟨rfl, hb2⟩
     exact hK _ _ rfl hb2 nofun
   · intro vs w1 hS hE hD K hK
     clear hD
     simp only [fillL, Act.put, zSa, zSz, zSs] at hK ⊢
     go_simp
     refine (q14.out _).mono ?_
     rintro e w2 ⟨rfl, hb2⟩
     exact hK _ _ rfl hb2 nofun
   · intro vs w1 hS hE hD K hK
     clear hD
     simp only [fillL, Act.put, zSa, zSz, zSs] at hK ⊢
     go_simp
     refine (q15.out _).mono ?_
     rintro e w2 ⟨rfl, hb2⟩
     exact hK _ _ rfl hb2 nofun
   · intro vs w1 hS hE hD K hK
     clear hD
     simp only [fillL, Act.put, zSa, zSz, zSs] at hK ⊢
     go_simp
     exact hK _ _ ⟨_, rfl, Nat.le_trans zLe hE.size, Arr.new _ _ _⟩ (below_alloc _ _) (fun _ => ⟨_, rfl, Nat.le_refl _⟩)
   · intro vs w1 hS hE hD K hK
     clear hD
     simp only [fillL, Act.put, zSa, zSz, zSs] at hK ⊢
     go_simp
     exact hK _ _ ⟨_, rfl, Nat.le_trans zLe hE.size, Arr.new _ _ _⟩ (below_alloc _ _) (fun _ => ⟨_, rfl, Nat.le_refl _⟩)
   · intro vs w1 hS hE hD K hK
     clear hD
     simp only [fillL, Act.put, zSa, zSz, zSs] at hK ⊢
     go_simp
     exact hK _ _ ⟨_, rfl, Nat.le_trans zLe hE.size, Arr.new _ _ _⟩ (below_alloc _ _) (fun _ => ⟨_, rfl, Nat.le_refl _⟩)
   · intro vs w1 hS hE hD K hK
     clear hD
     simp only [fillL, Act.put, zSa, zSz, zSs] at hK ⊢
     go_simp
     exact hK _ _ ⟨_, rfl, Nat.le_trans zLe hE.size, Arr.new _ _ _⟩ (below_alloc _ _) (fun _ => ⟨_, rfl, Nat.le_refl _⟩)
 intro vs w_p6_4827 hS_p6_4827 hE_p6_4827 hP hD
 obtain ⟨q2, q5, q8, q11, q12, q13, q14, q15, -⟩ := hP
 simp only [fillL, Act.put, zSa, zSz, zSs]
 rw [show vs 2 = _ from q2]
 clear q2
 rw [show vs 5 = _ from q5]
 clear q5
 rw [show vs 8 = _ from q8]
 clear q8
 rw [show vs 11 = _ from q11]
 clear q11
 obtain ⟨g12, e12, hg12, ha12⟩ := q12
 rw [e12]
 obtain ⟨g13, e13, hg13, ha13⟩ := q13
 rw [e13]
 obtain ⟨g14, e14, hg14, ha14⟩ := q14
 rw [e14]
 obtain ⟨g15, e15, hg15, ha15⟩ := q15
 rw [e15]
 have ne12_13 : g12 ≠ g13 := fun h => hD 12 13 rfl rfl rfl rfl rfl (by rw [e12, e13, h])
 have ne12_14 : g12 ≠ g14 := fun h => hD 12 14 rfl rfl rfl rfl rfl (by rw [e12, e14, h])
 have ne12_15 : g12 ≠ g15 := fun h => hD 12 15 rfl rfl rfl rfl rfl (by rw [e12, e15, h])
 have ne13_14 : g13 ≠ g14 := fun h => hD 13 14 rfl rfl rfl rfl rfl (by rw [e13, e14, h])
 have ne13_15 : g13 ≠ g15 := fun h => hD 13 15 rfl rfl rfl rfl rfl (by rw [e13, e15, h])
 have ne14_15 : g14 ≠ g15 := fun h => hD 14 15 rfl rfl rfl rfl rfl (by rw [e14, e15, h])
 clear e12 e13 e14 e15 hD vs
 have lt_k10_k4 := Nat.lt_of_lt_of_le k4.lt hg12
 have lt_k10_k6 := Nat.lt_of_lt_of_le k6.lt hg12
 have lt_k10_k7 := Nat.lt_of_lt_of_le k7.lt hg12
 have lt_k10_k8 := Nat.lt_of_lt_of_le k8.lt hg12
 have lt_k10_k9 := Nat.lt_of_lt_of_le k9.lt hg12
 have lt_k11_k4 := Nat.lt_of_lt_of_le k4.lt hg13
 have lt_k11_k6 := Nat.lt_of_lt_of_le k6.lt hg13
 have lt_k11_k7 := Nat.lt_of_lt_of_le k7.lt hg13
 have lt_k11_k8 := Nat.lt_of_lt_of_le k8.lt hg13
 have lt_k11_k9 := Nat.lt_of_lt_of_le k9.lt hg13
 have lt_k12_k4 := Nat.lt_of_lt_of_le k4.lt hg14
 have lt_k12_k6 := Nat.lt_of_lt_of_le k6.lt hg14
 have lt_k12_k7 := Nat.lt_of_lt_of_le k7.lt hg14
 have lt_k12_k8 := Nat.lt_of_lt_of_le k8.lt hg14
 have lt_k12_k9 := Nat.lt_of_lt_of_le k9.lt hg14
 have lt_k13_k4 := Nat.lt_of_lt_of_le k4.lt hg15
 have lt_k13_k6 := Nat.lt_of_lt_of_le k6.lt hg15
 have lt_k13_k7 := Nat.lt_of_lt_of_le k7.lt hg15
 have lt_k13_k8 := Nat.lt_of_lt_of_le k8.lt hg15
 have lt_k13_k9 := Nat.lt_of_lt_of_le k9.lt hg15
 have k4 := k4.below hS_p6_4827
 have k6 := k6.below hS_p6_4827
 have k7 := k7.below hS_p6_4827
 have k8 := k8.below hS_p6_4827
 have k9 := k9.below hS_p6_4827
 have kb := bel kb hS_p6_4827
 have k10 := ha12
 clear ha12
 generalize g12 = g_k10 at *
 have k11 := ha13
 clear ha13
 generalize g13 = g_k11 at *
 have k12 := ha14
 clear ha14
 generalize g14 = g_k12 at *
 have k13 := ha15
 clear ha15
 generalize g15 = g_k13 at *
 refine Tx.bar 131071 rfl zDk (fun K hK => ?_)
 refine step_store_arr rfl _ _ _ rfl _ _ rfl rfl _ zAm zLn zLm zOn ?_
 refine hK (fun _ => True) 9999 _ _ ?_
 clear hK K
 try simp only [Act.put]
 try simp only [zSa, zSz, zSs]
 refine Tx.row k10 (fun w_12 k10 hoth hbel => ?_)
 have k4 := hoth _ _ zOm k4
 have k6 := hoth _ _ zOm k6
 have k7 := hoth _ _ zOm k7
 have k8 := hoth _ _ zOm k8
 have k9 := hoth _ _ zOm k9
 have k11 := hoth _ _ zOm k11
 have k12 := hoth _ _ zOm k12
 have k13 := hoth _ _ zOm k13
 have kb := hbel _ _ zOm kb
 clear hoth hbel
 refine Tx.eff 17 262143 rfl zDk (fun K hK => ?_)
 refine step_store_arr rfl _ _ _ rfl _ _ rfl rfl _ zAm zLn zLm zOn ?_
 refine hK (fun _ => True) _ _ trivial (fun _ h => h) ?_
 clear hK K
 try simp only [Act.put]
 refine Tx.row k11 (fun w_13 k11 hoth hbel => ?_)
 have k4 := hoth _ _ zOm k4
 have k6 := hoth _ _ zOm k6
 have k7 := hoth _ _ zOm k7
 have k8 := hoth _ _ zOm k8
 have k9 := hoth _ _ zOm k9
 have k10 := hoth _ _ zOm k10
 have k12 := hoth _ _ zOm k12
 have k13 := hoth _ _ zOm k13
 have kb := hbel _ _ zOm kb
 clear hoth hbel
 refine Tx.eff 18 524287 rfl zDk (fun K hK => ?_)
 refine step_store_arr rfl _ _ _ rfl _ _ rfl rfl _ zAm zLn zLm zOn ?_
 refine hK (fun _ => True) _ _ trivial (fun _ h => h) ?_
 clear hK K
 try simp only [Act.put]
 refine Tx.row k12 (fun w_14 k12 hoth hbel => ?_)
 have k4 := hoth _ _ zOm k4
 have k6 := hoth _ _ zOm k6
 have k7 := hoth _ _ zOm k7
 have k8 := hoth _ _ zOm k8
 have k9 := hoth _ _ zOm k9
 have k10 := hoth _ _ zOm k10
 have k11 := hoth _ _ zOm k11
 have k13 := hoth _ _ zOm k13
 have kb := hbel _ _ zOm kb
 clear hoth hbel
 refine Tx.eff 19 1048575 rfl zDk (fun K hK => ?_)
 refine step_store_arr rfl _ _ _ rfl _ _ rfl rfl _ zAm zLn zLm zOn ?_
 refine hK (fun _ => True) _ _ trivial (fun _ h => h) ?_
 clear hK K
 try simp only [Act.put]
 refine Tx.done zKr ?_
 first | refine then_row k13 (fun w_15 k13 hoth hbel => ?_) | refine inb_row k13 (fun w_15 k13 hoth hbel => ?_)
 have k4 := hoth _ _ zOm k4
 have k6 := hoth _ _ zOm k6
 have k7 := hoth _ _ zOm k7
 have k8 := hoth _ _ zOm k8
 have k9 := hoth _ _ zOm k9
 have k10 := hoth _ _ zOm k10
 have k11 := hoth _ _ zOm k11
 have k12 := hoth _ _ zOm k12
 have kb := hbel _ _ zOm kb
 clear hoth hbel
 go_upto_region 7 with (first | (refine zLd ?_) | (refine zSt ?_))
 refine Tx.start (fun w' => Below (w_15).heap.size (w_15) w') 13 14 rfl zKr ?_
 have hS_16 : Below (w_15).heap.size (w_15) (World.drew w_15) := (Below.refl _ _).drew
 refine Tx.seg (A := ?_) 6 1755 zKr (by exact hS_16) [0, 1, 3, 4, 6, 7, 9, 10] zKr ?_ ?_
 rotate_left
 · intro w' hB
   have e0 := k4.below hB
   have e1 := k10.below hB
   have e2 := k11.below hB
   have e3 := k12.below hB
   have e4 := k13.below hB
   iterate 8 (first | (refine rd_skip rfl rfl ?_; simp only [Act.put, zSa, zSz, zSs]) | (refine rd_load_arr rfl rfl _ _ rfl _ rfl zDk _ zAm zLn ?_; simp only [Act.put, zSa, zSz, zSs]) | (refine rd_builta rfl rfl _ _ rfl (ptL r1 r2 r3 r4).toArray zKr ?_; simp only [Act.put, zSa, zSz, zSs]) | (refine rd_take (v := ?_) rfl rfl ?_ ?_; rotate_left; (focus (go_simp; try (with_reducible rfl))); simp only [Act.put, zSa, zSz, zSs]))
   exact rd_nil
 refine Tx.eff 2 1759 rfl zDk (fun K hK => ?_)
 go_simp
 refine (q16.out _).mono ?_
 rintro e w_17 ⟨rfl, hb_17⟩
 have hS_17 := ext_trans hS_16 (Nat.le_refl _) hb_17
 refine hK (fun w' => Below (w_15).heap.size (w_15) w') _ _ hS_17 (fun _ h => h) ?_
 clear hK K hb_17 hS_16
 try simp only [Act.put, zSa, zSz, zSs]
 refine Tx.eff 5 1791 rfl zDk (fun K hK => ?_)
 go_simp
 refine (q17.out _).mono ?_
 rintro e w_18 ⟨rfl, hb_18⟩
 have hS_18 := ext_trans hS_17 (Nat.le_refl _) hb_18
 refine hK (fun w' => Below (w_15).heap.size (w_15) w') _ _ hS_18 (fun _ h => h) ?_
 clear hK K hb_18 hS_17
 try simp only [Act.put, zSa, zSz, zSs]
 refine Tx.eff 8 2047 rfl zDk (fun K hK => ?_)
 go_simp
 refine (q18.out _).mono ?_
 rintro e w_19 ⟨rfl, hb_19⟩
 have hS_19 := ext_trans hS_18 (Nat.le_refl _) hb_19
 refine hK (fun w' => Below (w_15).heap.size (w_15) w') _ _ hS_19 (fun _ h => h) ?_
 clear hK K hb_19 hS_18
 try simp only [Act.put, zSa, zSz, zSs]
 refine Tx.eff 11 4095 rfl zDk (fun K hK => ?_)
 go_simp
 refine (q19.out _).mono ?_
 rintro e w_20 ⟨rfl, hb_20⟩
 have hS_20 := ext_trans hS_19 (Nat.le_refl _) hb_20
 refine hK (fun w' => Below (w_15).heap.size (w_15) w') _ _ hS_20 (fun _ h => h) ?_
 clear hK K hb_20 hS_19
 try simp only [Act.put, zSa, zSz, zSs]
 refine Tx.seg (A := ?_) 1 8191 zKr (by exact hS_20) [12] zKr ?_ ?_
 rotate_left
 · intro w' hB
   iterate 1 (first | (refine rd_skip rfl rfl ?_; simp only [Act.put, zSa, zSz, zSs]) | (refine rd_load_arr rfl rfl _ _ rfl _ rfl zDk _ zAm zLn ?_; simp only [Act.put, zSa, zSz, zSs]) | (refine rd_builta rfl rfl _ _ rfl (ptL r1 r2 r3 r4).toArray zKr ?_; simp only [Act.put, zSa, zSz, zSs]) | (refine rd_take (v := ?_) rfl rfl ?_ ?_; rotate_left; (focus (go_simp; try (with_reducible rfl))); simp only [Act.put, zSa, zSz, zSs]))
   exact rd_nil
 have k4 := k4.below hS_20
 have k10 := k10.below hS_20
 have k11 := k11.below hS_20
 have k12 := k12.below hS_20
 have k13 := k13.below hS_20
 have kb := bel kb hS_20
 refine Tx.bar 16383 rfl zDk (fun K hK => ?_)
 refine step_store_arr rfl _ _ _ rfl _ _ rfl rfl _ zAm zLn zLm zOn ?_
 refine hK (fun _ => True) 9999 _ _ ?_
 clear hK K
 try simp only [Act.put]
 try simp only [zSa, zSz, zSs]
 refine Tx.done zKr ?_
 refine then_row k4 (fun w_21 k4 hoth hbel => ?_)
 have k10 := hoth _ _ zOm k10
 have k11 := hoth _ _ zOm k11
 have k12 := hoth _ _ zOm k12
 have k13 := hoth _ _ zOm k13
 have kb := hbel _ _ zOm kb
 clear hoth hbel
 go_wp2_with fail
 exact bodyPost_ret (results_arr2 Tryz.results122 _ _ _ rfl zKr _ k4 (by rw [ptL_len]; kernel_rfl)) rfl ⟨rfl, kb⟩
structure Pn where
 x : Nat
 y : Nat
 z : Nat
 t : Nat
def Pn.cs (P : Pn) : List Value := ptL P.x P.y P.z P.t
def Pn.ok (P : Pn) : Prop := P.x < pN ∧ P.y < pN ∧ P.z < pN ∧ P.t < pN
def mkP (a b c z : Nat) : Pn := ⟨(b + pN - a) % pN * ((z + pN - c) % pN) % pN, (z + c) % pN * ((b + a) % pN) % pN, (z + pN - c) % pN * ((z + c) % pN) % pN, (b + pN - a) % pN * ((b + a) % pN) % pN⟩
def addP (P Q : Pn) : Pn := mkP ((P.y + pN - P.x) % pN * ((Q.y + pN - Q.x) % pN) % pN) ((P.y + P.x) % pN * ((Q.y + Q.x) % pN) % pN) (P.t * ((dN + dN) % pN) % pN * Q.t % pN) (P.z * ((Q.z + Q.z) % pN) % pN)
theorem addP_ok (P Q : Pn) : (addP P Q).ok := ⟨Nat.mod_lt _ pN_pos, Nat.mod_lt _ pN_pos, Nat.mod_lt _ pN_pos, Nat.mod_lt _ pN_pos⟩
theorem padd_any (P Q : Pn) (hP : P.ok) (hQ : Q.ok) (w : World) :
 Calls Tryz.prog 122 #[.agg P.cs.toArray, .agg Q.cs.toArray] w fun e w' => e = .returned (.agg (addP P Q).cs.toArray) ∧ Below w.heap.size w w' :=
 padd_r P.x P.y P.z P.t Q.x Q.y Q.z Q.t hP.1 hP.2.1 hP.2.2.1 hP.2.2.2 hQ.1 hQ.2.1 hQ.2.2.1 hQ.2.2.2 (zH rfl) (zH rfl) (zH rfl) (zH rfl) (zH rfl) (zH rfl) (zH rfl) (zH rfl) (zH rfl) (zH rfl)
  (zH rfl) (zH rfl) (zH rfl) (zH rfl) (zH rfl) (zH rfl) (zH rfl) (zH rfl) (zH rfl) w
theorem byts_set {n k v m : Nat} (hk : k < 32) (hn : n < 256 ^ 32) (hv : v < 256) (h : m + 256 ^ k * (n / 256 ^ k % 256) = n + 256 ^ k * v) : (byts n).set k (.int .u8 (v : Int)) = byts m := by
 have h1 := val_set 256 (digs 256 32 n) k _ v (digs_get 256 32 n k hk)
 rw [val_digs, Nat.mod_eq_of_lt hn] at h1
 have h2 : val 256 ((digs 256 32 n).set k v) = m := by omega
 have h3 := digs_val 256 zDc ((digs 256 32 n).set k v) (set_lt (digs_lt 256 32 n zDc) hv)
 rw [List.length_set, digs_len, h2] at h3
 rw [byts, byts, h3, List.map_set]
end Go.Proofs.YtibdgkhkhmdihaaGreatDoor
