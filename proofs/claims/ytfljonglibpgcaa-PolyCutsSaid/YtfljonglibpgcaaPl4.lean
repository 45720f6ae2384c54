/- The law PolyCuts: its walk. -/
import Derived.Test.YtfljonglibpgcaaPl1
import Derived.Test.YtfljonglibpgcaaIn
namespace Go.Proofs.Ytfljonglibpgcaa
open Go.RowKit

theorem Sl.mid {w : World} {a : Option Addr} {n c k m : Nat} {bs : List UInt8} (h : Sl w (.slice a n c) (u8s bs)) (hk : k + m ≤ bs.length) : Sl w (.slice (if c = k then a else a.map (·.add k)) m (c - k)) (u8s ((bs.drop k).take m)) := by
  obtain ⟨a', c', h1, h2, h3, h4, h5⟩ := h
  simp only [Value.slice.injEq] at h1
  obtain ⟨rfl, rfl, rfl⟩ := h1
  rw [u8s_len] at h2
  have hl : ((bs.drop k).take m).length = m := by simp only [List.length_take, List.length_drop]; omega
  refine ⟨_, c - k, by rw [u8s_len, hl], by rw [u8s_len, hl]; omega, by omega, fun e => ?_, fun x hx j u hu => ?_⟩
  · split at e
    · have := h4 e; omega
    · cases a with
      | none => have := h4 rfl; omega
      | some y => cases e
  · have hj : j < m := by
      have := (List.getElem?_eq_some_iff.1 hu).1
      rwa [u8s_len, hl] at this
    rw [if_neg (by omega)] at hx
    cases a with
    | none => cases hx
    | some y =>
      simp only [Option.map_some, Option.some.injEq] at hx
      subst hx
      rw [Addr.add_add]
      refine h5 y rfl (k + j) u ?_
      rw [← hu]
      simp [u8s, hj]

set_option maxHeartbeats 4000000 in
set_option maxRecDepth 100000 in
theorem polyCuts_walk (K : Nat) (d : Option Addr) (cap : Nat) (bs : List UInt8) (a2 a3 : Int) (w : World) (hK : K < 256 ^ 32) (hs : Sl w (.slice d bs.length cap) (u8s bs)) (_ : (Lit.int .i64 a2).wf = true) (_ : (Lit.int .i64 a3).wf = true) :
    Calls Try.prog 6 #[.agg (byts K).toArray, .slice d bs.length cap, .int .i64 a2, .int .i64 a3] w fun e w' => e = .returned (.bool true) ∧ Below w.heap.size w w' := by
  have hlen := hs.len
  rw [u8s_len] at hlen
  obtain ⟨-, hlc, hcm⟩ := hlen
  unfold maxLen at hcm
  replace hs := Lib.hid hs
  by_cases hbig : 500 < bs.length
  · have iw : (500 : Int) < (bs.length : Int) := by omega
    go_enter Try.func6, Try.ntmps6
    go_upto_region 1 with fail
    refine wp_new1 (fun W hsz k2 kb => ?_)
    clear hsz
    go_wp2_with fail
    refine (alive10_any _).mono ?_
    rintro e w1 ⟨rfl, hb1⟩
    have kb := bel kb hb1
    go_wp2_with fail
    go_ret
    exact ⟨rfl, kb⟩
  have iw : ¬ (500 : Int) < (bs.length : Int) := by omega
  by_cases h1 : a2 < 0
  · clear hs
    go_enter Try.func6, Try.ntmps6
    go_upto_region 1 with fail
    refine wp_new1 (fun W hsz k2 kb => ?_)
    clear hsz
    go_wp2_with fail
    refine (alive10_any _).mono ?_
    rintro e w1 ⟨rfl, hb1⟩
    have kb := bel kb hb1
    go_wp2_with fail
    go_ret
    exact ⟨rfl, kb⟩
  by_cases h2 : a3 < a2
  · clear hs
    go_enter Try.func6, Try.ntmps6
    go_upto_region 1 with fail
    refine wp_new1 (fun W hsz k2 kb => ?_)
    clear hsz
    go_wp2_with fail
    refine (alive10_any _).mono ?_
    rintro e w1 ⟨rfl, hb1⟩
    have kb := bel kb hb1
    go_wp2_with fail
    go_ret
    exact ⟨rfl, kb⟩
  by_cases h3 : (bs.length : Int) < a3
  · clear hs
    go_enter Try.func6, Try.ntmps6
    go_upto_region 1 with fail
    refine wp_new1 (fun W hsz k2 kb => ?_)
    clear hsz
    go_wp2_with fail
    refine (alive10_any _).mono ?_
    rintro e w1 ⟨rfl, hb1⟩
    have kb := bel kb hb1
    go_wp2_with fail
    go_ret
    exact ⟨rfl, kb⟩
  obtain ⟨i, rfl⟩ : ∃ n : Nat, a2 = (n : Int) := ⟨a2.toNat, by omega⟩
  obtain ⟨k, rfl⟩ : ∃ n : Nat, a3 = (n : Int) := ⟨a3.toNat, by omega⟩
  have hik : i ≤ k := by omega
  have hkb : k ≤ bs.length := by omega
  have hkc : k ≤ cap := by omega
  have hs1 := hs.out.mid (k := 0) (m := i) (by omega)
  have hs2 := hs.out.mid (k := i) (m := k - i) (by omega)
  have hs3 := hs.out.mid (k := k) (m := bs.length - k) (by omega)
  have e0 : (if cap = 0 then d else d.map (·.add 0)) = d := by
    split
    · rfl
    · cases d with
      | none => rfl
      | some x => cases x with | mk b o p => cases p <;> simp [Addr.add]
  rw [List.drop_zero, e0, Nat.sub_zero] at hs1
  clear e0
  obtain ⟨b1, hb1⟩ : ∃ b, bs.take i = b := ⟨_, rfl⟩
  obtain ⟨b2, hb2⟩ : ∃ b, (bs.drop i).take (k - i) = b := ⟨_, rfl⟩
  obtain ⟨b3, hb3⟩ : ∃ b, (bs.drop k).take (bs.length - k) = b := ⟨_, rfl⟩
  have hcat : [b1, b2, b3].flatten = bs := by
    rw [← hb1, ← hb2, ← hb3, List.take_of_length_le (l := bs.drop k) (by rw [List.length_drop]; exact Nat.le_refl _)]
    simp only [List.flatten_cons, List.flatten_nil, List.append_nil]
    rw [show bs.drop k = (bs.drop i).drop (k - i) by rw [List.drop_drop, show i + (k - i) = k by omega], List.take_append_drop, List.take_append_drop]
  rw [hb1] at hs1
  rw [hb2] at hs2
  rw [hb3] at hs3
  have c1 := fun d cap w (h : Sls w (.slice d 1 cap) [bs]) => psum_any K hK d cap [bs] w h
  have c2 := fun d cap w (h : Sls w (.slice d 3 cap) [b1, b2, b3]) => psum_any K hK d cap [b1, b2, b3] w h
  rw [show [bs].flatten = bs by simp] at c1
  rw [hcat] at c2
  obtain ⟨T, hT⟩ : ∃ T, polyT (polyR K) (K / 2 ^ 128) bs = T := ⟨_, rfl⟩
  rw [hT] at c1 c2
  have q := Lib.hid (fun w => eq_tag_same T w)
  clear hK hb1 hb2 hb3 hcat hT hbig
  replace c1 := Lib.hid c1
  replace c2 := Lib.hid c2
  replace hs1 := Lib.hid hs1
  replace hs2 := Lib.hid hs2
  replace hs3 := Lib.hid hs3
  go_enter Try.func6, Try.ntmps6
  go_upto_region 1 with fail
  refine wp_new1 (fun W hsz k4 kb => ?_)
  clear hsz
  go_wp2_with fail
  refine (alive10_any _).mono ?_
  rintro e w1 ⟨rfl, hb1⟩
  have k4 := k4.below hb1
  have kb := bel kb hb1
  clear hb1
  go_upto_region 4 with fail
  have z1 : decide (500 < (bs.length : Int)) = false := decide_eq_false (by omega)
  have z2 : decide ((i : Int) < 0) = false := decide_eq_false (by omega)
  have z3 : decide (k < i) = false := decide_eq_false (by omega)
  have z4 : decide (bs.length < k) = false := decide_eq_false (by omega)
  simp only [z1, z2, z3, z4, Bool.or_false]
  clear h1 h2 h3 z1 z2 z3 z4
  have j1 : (0 : Int) ≤ (i : Int) := by omega
  have j2 : (i : Int) ≤ (cap : Int) := by omega
  have j3 : (i : Int) ≤ (k : Int) := by omega
  have j4 : (k : Int) ≤ (cap : Int) := by omega
  have j5 : (k : Int) ≤ (bs.length : Int) := by omega
  have j6 : (0 : Int) ≤ (k : Int) := by omega
  refine Tx.start (fun w' => Below (w1).heap.size (w1) w') 9999 19 rfl (by kernel_rfl) ?_
  have hS_1 : Below (w1).heap.size (w1) (World.drew w1) := (Below.refl _ _).drew
  refine Tx.seg (A := ?_) 6 32755 (by kernel_rfl) (by exact hS_1) [0, 1, 4, 5, 6, 7, 8, 9, 10, 11, 12, 13, 14] (by kernel_rfl) ?_ ?_
  rotate_left
  · intro w' hB
    have e1 := k4.below hB
    iterate 13 (first | (refine rd_skip rfl rfl ?_; simp only [Act.put, List.setIfInBounds_toArray, List.set_cons_zero, List.set_cons_succ]) | (refine rd_load_arr rfl rfl _ _ rfl _ rfl (by kernel_rfl) _ (by assumption) (by first | (rw [lims_len]; kernel_rfl) | (rw [el_rep]; kernel_rfl) | (rw [el_len]; kernel_rfl) | (rw [byts_len]; kernel_rfl) | (rw [us_len]; kernel_rfl) | (rw [bytn_len]; kernel_rfl) | (rw [ens_len, digs_len]; kernel_rfl) | kernel_rfl) ?_; simp only [Act.put, List.setIfInBounds_toArray, List.set_cons_zero, List.set_cons_succ]) | (refine rd_take (v := ?_) rfl rfl ?_ ?_; rotate_left; (focus (go_simp; try (with_reducible rfl))); simp only [Act.put, List.setIfInBounds_toArray, List.set_cons_zero, List.set_cons_succ]) | (refine rd_take (v := ?_) rfl rfl ?_ ?_; rotate_left; (focus (try go_simp); fail)))
    exact rd_nil
  have hs0 := Lib.hid (hs.out.below kb)
  have hs1 := Lib.hid (hs1.out.below kb)
  have hs2 := Lib.hid (hs2.out.below kb)
  have hs3 := Lib.hid (hs3.out.below kb)
  refine Tx.poolB 1 262143 [(2, 36), (3, 37), (15, 49), (16, 50), (17, 51)] [(false, []), (false, [(2, 36)]), (false, []), (false, [(15, 49)]), (true, [(3, 37), (16, 50)])] [(2, Ph.sls 1 [bs]), (3, Ph.is (.agg (bytn 16 T).toArray)), (15, Ph.sls 3 [b1, b2, b3]), (16, Ph.is (.agg (bytn 16 T).toArray)), (17, Ph.is (.bool true))] (by kernel_rfl) (by kernel_rfl) (by first | assumption | exact (Below.refl _ _).drew) ?_ ?_
  · refine ⟨⟨_, rfl, ?_⟩, ⟨_, rfl, ?_⟩, ⟨_, rfl, ?_⟩, ⟨_, rfl, ?_⟩, ⟨_, rfl, ?_⟩, trivial⟩
    · intro vs w1 hS hE hD K hK
      clear hD
      simp only [fillL, Act.put, List.setIfInBounds_toArray, List.set_cons_zero, List.set_cons_succ] at hK ⊢
      go_simp
      exact hK _ _ ⟨_, rfl, Sls.new1 (hs0.out.below hS) _⟩ (below_alloc _ _) nofun
    · intro vs w1 hS hE hD K hK
      obtain ⟨q2, -⟩ := hD
      simp only [fillL, Act.put, List.setIfInBounds_toArray, List.set_cons_zero, List.set_cons_succ] at hK ⊢
      obtain ⟨d2, e2, hs2⟩ := q2
      rw [e2] at hK ⊢
      rw [show vs _ = _ from e2] at hs2
      clear e2
      go_simp
      refine (c1.out _ _ _ hs2).mono ?_
      rintro e w2 ⟨rfl, hb2⟩
      exact hK _ _ rfl hb2 nofun
    · intro vs w1 hS hE hD K hK
      clear hD
      simp only [fillL, Act.put, List.setIfInBounds_toArray, List.set_cons_zero, List.set_cons_succ] at hK ⊢
      go_simp
      exact hK _ _ ⟨_, rfl, Sls.new3 (hs1.out.below hS) (hs2.out.below hS) (hs3.out.below hS) _⟩ (below_alloc _ _) nofun
    · intro vs w1 hS hE hD K hK
      obtain ⟨q15, -⟩ := hD
      simp only [fillL, Act.put, List.setIfInBounds_toArray, List.set_cons_zero, List.set_cons_succ] at hK ⊢
      obtain ⟨d15, e15, hs15⟩ := q15
      rw [e15] at hK ⊢
      rw [show vs _ = _ from e15] at hs15
      clear e15
      go_simp
      refine (c2.out _ _ _ hs15).mono ?_
      rintro e w2 ⟨rfl, hb2⟩
      exact hK _ _ rfl hb2 nofun
    · intro vs w1 hS hE hD
      obtain ⟨q3, q16, -⟩ := hD
      simp only [fillL, Act.put, List.setIfInBounds_toArray, List.set_cons_zero, List.set_cons_succ] at ⊢
      rw [show vs 3 = _ from q3] at ⊢
      clear q3
      rw [show vs 16 = _ from q16] at ⊢
      clear q16
      refine ⟨_, rfl, fun w' => ?_, rfl, nofun⟩
      have e1 := q.out w'
      go_simp
  intro vs w_pa hS_pa hE_pa hP hD
  obtain ⟨q2, q3, q15, q16, q17, -⟩ := hP
  simp only [fillL, Act.put, List.setIfInBounds_toArray, List.set_cons_zero, List.set_cons_succ]
  obtain ⟨d2, e2, hs2⟩ := q2
  rw [e2]
  rw [show vs _ = _ from e2] at hs2
  clear e2
  rw [show vs 3 = _ from q3]
  clear q3
  obtain ⟨d15, e15, hs15⟩ := q15
  rw [e15]
  rw [show vs _ = _ from e15] at hs15
  clear e15
  rw [show vs 16 = _ from q16]
  clear q16
  rw [show vs 17 = _ from q17]
  clear q17
  clear  hD vs
  refine Tx.seg (A := ?_) 0 524287 (by kernel_rfl) (by exact hS_pa) [18] (by kernel_rfl) ?_ ?_
  rotate_left
  · intro w' hB
    iterate 1 (first | (refine rd_skip rfl rfl ?_; simp only [Act.put, List.setIfInBounds_toArray, List.set_cons_zero, List.set_cons_succ]) | (refine rd_load_arr rfl rfl _ _ rfl _ rfl (by kernel_rfl) _ (by assumption) (by first | (rw [lims_len]; kernel_rfl) | (rw [el_rep]; kernel_rfl) | (rw [el_len]; kernel_rfl) | (rw [byts_len]; kernel_rfl) | (rw [us_len]; kernel_rfl) | (rw [bytn_len]; kernel_rfl) | (rw [ens_len, digs_len]; kernel_rfl) | kernel_rfl) ?_; simp only [Act.put, List.setIfInBounds_toArray, List.set_cons_zero, List.set_cons_succ]) | (refine rd_take (v := ?_) rfl rfl ?_ ?_; rotate_left; (focus (go_simp; try (with_reducible rfl))); simp only [Act.put, List.setIfInBounds_toArray, List.set_cons_zero, List.set_cons_succ]) | (refine rd_take (v := ?_) rfl rfl ?_ ?_; rotate_left; (focus (try go_simp); fail)))
    exact rd_nil
  refine Tx.done (by kernel_rfl) ?_
  have kb := bel kb hS_pa
  clear hS_pa
  clear hs1 hs3
  generalize (if cap = i then d else Option.map (fun x => x.add i) d) = x1 at *
  generalize (if cap = k then d else Option.map (fun x => x.add k) d) = x2 at *
  go_wp2_with fail
  go_ret
  exact ⟨rfl, kb⟩

end Go.Proofs.Ytfljonglibpgcaa
