/- TopSigned: part 8 of its proof: lemmas and contracts, each with its conditions in its own statement; the last part holds the law itself. -/
import Derived.Test.YtncnlfpiondpnaaGreatJt07
import Derived.ChangeKeysEq
import Derived.Laws.StructEq
import Derived.Lib.Hide

set_option maxHeartbeats 4000000
set_option maxRecDepth 100000
namespace Go.Proofs.YtncnlfpiondpnaaGreat
open Go.RowKit
theorem times_any (a b : Nat) (ha : a < 18446744073709551616 ^ 4) (hb : b < 18446744073709551616 ^ 4) (w : World) :
 Calls Tryz.prog 77 #[.agg (lims 4 a).toArray, .agg (lims 4 b).toArray] w fun e w' => e = .returned (.agg (lims 4 (a * b % pN)).toArray) ∧ Below w.heap.size w w' := by
 have am := limMul_any a b hb
 rw [Nat.mod_eq_of_lt ha] at am
 obtain ⟨V, hV⟩ : ∃ V, a * b = V := ⟨_, rfl⟩
 have hVl : V < 18446744073709551616 ^ 4 * 18446744073709551616 ^ 4 := by rw [← hV]; exact Nat.mul_lt_mul'' ha hb
 rw [hV] at am ⊢
 replace am := zH am
 replace hVl := zH hVl
 clear hV ha hb
 obtain ⟨r, hr⟩ : ∃ r, V % pN = r := ⟨_, rfl⟩
 rw [hr]
 replace hr := zH hr
 go_enter Tryz.func77, Tryz.ntmps77
 go_upto_region 1 with fail
 refine wp_new3 (fun W hsz k1 k2 k3 kb => ?_)
 have k3 : Arr W (w.heap.size + 1 + 1) (lims 4 0) := k3
 go_wp2_with (first | (refine zLd ?_) | (refine zSt ?_))
 refine (am.out _).mono ?_
 rintro e w_1 ⟨rfl, hb_1⟩
 have k3 := k3.below hb_1
 have kb := bel kb hb_1
 clear hb_1
 have hg3 := k3.lt
 go_upto_region 2 with (first | (refine zLd ?_) | (refine zSt ?_))
 refine code_new (fun w9 k5 hb9 => ?_)
 have k3 := k3.below hb9
 have kb := bel kb hb9
 clear hb9 k1 k2 hsz
 go_upto_region 3 with fail
 have hg5 := k5.lt
 refine wp_new1 (fun w8 hsz k6 hb8 => ?_)
 have k6 : Arr w8 w9.heap.size (us [0, 0, 0, 0]) := k6
 have k3 := k3.below hb8
 have k5 := k5.below hb8
 have kb := bel kb hb8
 have hzero : ∀ p, p < 4 → ([0, 0, 0, 0] : List Nat)[p]? = some 0 := by decide
 clear hb8 hsz
 go_wp2_with fail
 go_loopw [7, 15] (fun cv kv wr => ∃ (k c : Nat) (es : List Nat), k ≤ 4 ∧ c ≤ 38 ∧ cv = .int .u64 (c : Int) ∧ kv = .int .i64 k ∧ Arr wr (w.heap.size + 1 + 1) (lims 4 0) ∧ Arr wr w_1.heap.size (lims 8 V) ∧ Arr wr w9.heap.size (us es) ∧ Below w.heap.size w wr ∧
  es.length = 4 ∧ (∀ d ∈ es, d < 18446744073709551616) ∧ val 18446744073709551616 es + 18446744073709551616 ^ k * c = V % 18446744073709551616 ^ k + 38 * (V / 18446744073709551616 ^ 4 % 18446744073709551616 ^ k) ∧ (∀ p, k ≤ p → p < 4 → es[p]? = some 0)) (fun _ kv _ => 4 - (intOf kv).toNat)
 case atStart => exact ⟨0, 0, [0, 0, 0, 0], Nat.zero_le _, Nat.zero_le _, rfl, rfl, k3, k5, k6, kb, rfl, by decide, by rw [Nat.pow_zero, Nat.mod_one, Nat.mod_one]; rfl, fun p _ hp => hzero p hp⟩
 case round =>
  obtain ⟨k, c, es, hk, hc, rfl, rfl, j3, j5, j6, jb, jlen, jlt, jval, jz⟩ := hrel
  clear k3 k5 k6 kb hzero
  by_cases hk4 : k < 4
  · obtain ⟨h, hh⟩ : ∃ h, V / 18446744073709551616 ^ (k + 4) % 18446744073709551616 = h := ⟨_, rfl⟩
    obtain ⟨l, hl⟩ : ∃ l, V / 18446744073709551616 ^ k % 18446744073709551616 = l := ⟨_, rfl⟩
    have hhl : h < 18446744073709551616 := by rw [← hh]; exact Nat.mod_lt _ zDc
    have hll : l < 18446744073709551616 := by rw [← hl]; exact Nat.mod_lt _ zDc
    have c1 := j5.cell (lims_get 8 V (k + 4) zOm)
    have c2 := j5.cell (lims_get 8 V k zOm)
    rw [hh] at c1
    rw [hl] at c2
    have c3 := j6.cell (us_get es k 0 (jz k (Nat.le_refl _) hk4))
    have hfr := j6.frozen k
    obtain ⟨p0, hp0⟩ : ∃ p, h * 38 % 18446744073709551616 = p := ⟨_, rfl⟩
    obtain ⟨p1, hp1⟩ : ∃ p, h * 38 / 18446744073709551616 = p := ⟨_, rfl⟩
    obtain ⟨s1, hs1⟩ : ∃ p, (p0 + c) % 18446744073709551616 = p := ⟨_, rfl⟩
    obtain ⟨t1, ht1⟩ : ∃ p, (p0 + c) / 18446744073709551616 = p := ⟨_, rfl⟩
    obtain ⟨s2, hs2⟩ : ∃ p, (s1 + l) % 18446744073709551616 = p := ⟨_, rfl⟩
    obtain ⟨t2, ht2⟩ : ∃ p, (s1 + l) / 18446744073709551616 = p := ⟨_, rfl⟩
    have hm := fun w => mul64 h 38 hhl zDc w
    rw [hp0, hp1] at hm
    have a1 := fun w => add64z p0 c w
    rw [hs1, ht1] at a1
    have a2 := fun w => add64z s1 l w
    rw [hs2, ht2] at a2
    replace hm := zH hm
    replace a1 := zH a1
    replace a2 := zH a2
    have q1 : p1 + t1 + t2 ≤ 38 := by omega
    have hst : s2 + 18446744073709551616 * (p1 + t1 + t2) = h * 38 + l + c := by omega
    have hs2l : s2 < 18446744073709551616 := by omega
    replace hst := zH hst
    replace jlen := zH jlen
    replace jlt := zH jlt
    replace jval := zH jval
    have hd := zH (jz k (Nat.le_refl _) hk4)
    replace jz := zH jz
    replace hh := zH hh
    replace hl := zH hl
    clear hp0 hp1 hs1 ht1 hs2 ht2
    go_wp2_with (first | (simp only [a1.out, a2.out]; done) | (refine (hm.out _).mono ?_; rintro e w' ⟨rfl, rfl⟩) | simp only [a1.out, a2.out])
    refine ⟨⟨k + 1, p1 + t1 + t2, es.set k s2, by omega, q1, by go_num, by go_num, j3.other (by simp; omega) _, j5.other (by simp; omega) _, ?_, jb.setCell (by simp; omega) _, by rw [List.length_set]; exact jlen.out, set_lt jlt.out hs2l, ?_, ?_⟩, by simp [intOf]; omega⟩
    · have := j6.set k (.int .u64 (s2 : Int))
      rw [us_set] at this
      exact this
    · have h1 := val_set 18446744073709551616 es k 0 s2 hd.out
      have h2 := jval.out
      have h3 := hst.out
      have h4 := mod_pow_succ' 18446744073709551616 k V
      have h5 := mod_pow_succ' 18446744073709551616 k (V / 18446744073709551616 ^ 4)
      rw [hl.out] at h4
      rw [Nat.div_div_eq_div_mul, ← Nat.pow_add, Nat.add_comm 4 k, hh.out] at h5
      rw [h4, h5, Nat.pow_succ]
      clear h4 h5 hm a1 a2 jlen jlt jval jz hst hd hh hl j3 j5 j6 jb c1 c2 c3 hfr hVl am hr
      generalize val 18446744073709551616 (es.set k s2) = V' at *
      generalize val 18446744073709551616 es = Ve at *
      generalize V % 18446744073709551616 ^ k = A at *
      generalize V / 18446744073709551616 ^ 4 % 18446744073709551616 ^ k = D at *
      generalize 18446744073709551616 ^ k = K at *
      generalize p1 + t1 + t2 = t at *
      have h5 := congrArg (K * ·) h3
      simp only [Nat.mul_add] at h5 ⊢
      have e1 : K * 18446744073709551616 * t = K * (18446744073709551616 * t) := Nat.mul_assoc _ _ _
      have e2 : 38 * (K * h) = K * (h * 38) := by rw [Nat.mul_comm h 38, Nat.mul_left_comm]
      omega
    · intro p h1 h2
      rw [List.getElem?_set_ne zOm]
      exact jz.out p zOm h2
  · obtain rfl : k = 4 := by omega
    have hnl := val_lt 18446744073709551616 zDc es jlt
    rw [jlen] at hnl
    have hus : us es = lims 4 (val 18446744073709551616 es) := by
     have := digs_val 18446744073709551616 zDc es jlt
     rw [jlen] at this
     rw [lims_us, this]
    rw [hus] at j6
    have hV4 : V / 18446744073709551616 ^ 4 < 18446744073709551616 ^ 4 := Nat.div_lt_of_lt_mul hVl.out
    have af := fun w => fold_any (val 18446744073709551616 es) c hnl zOm w
    rw [jval, Nat.mod_eq_of_lt hV4, ← mod_38, Nat.mod_add_div, hr.out] at af
    obtain ⟨n, hn⟩ : ∃ n, val 18446744073709551616 es = n := ⟨_, rfl⟩
    rw [hn] at af j6
    replace af := zH af
    clear hnl hus hV4 jval jz jlt jlen hn hVl hr am
    go_wp2_with (first | (refine zLd ?_) | (refine zSt ?_))
    refine (af.out _).mono ?_
    rintro e w7 ⟨rfl, hb7⟩
    have j3 := j3.below hb7
    have jb := bel jb hb7
    clear hb7
    go_wp2_with (first | (refine zLd ?_) | (refine zSt ?_))
    exact bodyPost_ret (results_arr2 Tryz.results77 _ _ _ rfl zKr _ (by first | assumption | exact Arr.setRow zAm _) zLn) rfl ⟨rfl, below_setRow jb zOm _⟩
theorem p_lt4 (n : Nat) : n % pN < 18446744073709551616 ^ 4 := Nat.lt_trans (Nat.mod_lt _ pN_pos) zDc
theorem pow_bit (a e m r b : Nat) (hr : a ^ (e / 2 ^ (m + 1)) % pN = r) (hb : e / 2 ^ m % 2 = b) : a ^ (e / 2 ^ m) % pN = (r * r % pN) * a ^ b % pN := by
 have e1 : e / 2 ^ m = e / 2 ^ (m + 1) + e / 2 ^ (m + 1) + b := by
  rw [Nat.pow_succ, ← Nat.div_div_eq_div_mul]; omega
 rw [e1, Nat.pow_add, Nat.pow_add, ← hr, ← Nat.mul_mod (a ^ (e / 2 ^ (m + 1))), Nat.mod_mul_mod]
theorem power_any (a x : Nat) (ha : a < 18446744073709551616 ^ 4) (hx : x < 18446744073709551616 ^ 4) (w : World) :
 Calls Tryz.prog 126 #[.agg (lims 4 a).toArray, .agg (lims 4 x).toArray] w fun e w' => e = .returned (.agg (lims 4 (a ^ x % pN)).toArray) ∧ Below w.heap.size w w' := by
 have l1 : (lims 4 1).toArray = #[.int .u64 1, .int .u64 0, .int .u64 0, .int .u64 0] := lims_small 1 zDc
 have l1' : us [1, 0, 0, 0] = lims 4 1 := by rfl
 replace l1' := zH l1'
 clear l1
 go_enter Tryz.func126, Tryz.ntmps126
 go_upto_region 1 with fail
 refine wp_new3 (fun W hsz k1 k2 k3 kb => ?_)
 have k3 : Arr W (w.heap.size + 1 + 1) (lims 4 0) := k3
 go_upto_region 2 with (first | (refine zLd ?_) | (refine zSt ?_))
 refine wp_new1 (fun w9 hsz9 k4 hb9 => ?_)
 have k4 : Arr w9 W.heap.size (us [1, 0, 0, 0]) := k4
 rw [l1'.out, hsz] at k4
 have k1 := k1.below hb9
 have k2 := k2.below hb9
 have k3 := k3.below hb9
 have kb := bel kb hb9
 clear hb9 hsz9
 go_wp2_with fail
 go_loopw [6] (fun kv wr => ∃ (j n : Nat), j ≤ 256 ∧ kv = .int .i64 ((j : Int) - 1) ∧ a ^ (x / 2 ^ j) % pN = n ∧ Arr wr w.heap.size (lims 4 a) ∧ Arr wr (w.heap.size + 1) (lims 4 x) ∧ Arr wr (w.heap.size + 1 + 1) (lims 4 0) ∧ Arr wr (w.heap.size + 3) (lims 4 n) ∧ Below w.heap.size w wr) (fun kv _ => (intOf kv + 1).toNat)
 case atStart =>
  refine ⟨256, 1, Nat.le_refl _, rfl, ?_, k1, k2, k3, ?_, kb⟩
  · rw [Nat.div_eq_of_lt (Nat.lt_of_lt_of_le hx zDc), Nat.pow_zero]
    decide
  · exact k4
 case round =>
  clear k1 k2 k3 k4 kb hsz
  obtain ⟨j, n, hj, rfl, hn, k1, k2, k3, k4, kb⟩ := hrel
  have hnq : n < 18446744073709551616 ^ 4 := by rw [← hn]; exact p_lt4 _
  replace hn := zH hn
  rcases Nat.eq_zero_or_pos j with rfl | hj0
  · have e : ((0 : Nat) : Int) - 1 = -1 := rfl
    rw [e]
    go_wp2_with (first | (refine zLd ?_) | (refine zSt ?_))
    exact bodyPost_ret (results_arr2 Tryz.results126 _ _ _ rfl zKr _ (by first | assumption | exact Arr.setRow zAm _) zLn) rfl ⟨by rw [← hn.out, Nat.pow_zero, Nat.div_one], below_setRow kb zOm _⟩
  · obtain ⟨m, rfl⟩ : ∃ m, j = m + 1 := ⟨j - 1, by omega⟩
    have e : ((m + 1 : Nat) : Int) - 1 = (m : Int) := by omega
    rw [e]
    clear e
    obtain ⟨t, ht⟩ : ∃ t, x / 2 ^ m % 2 = t := ⟨_, rfl⟩
    have ht2 : t < 2 := by omega
    have hstep := pow_bit a x m n t hn.out ht
    obtain ⟨q, hq⟩ : ∃ q, n * n % pN = q := ⟨_, rfl⟩
    have hql : q < 18446744073709551616 ^ 4 := by rw [← hq]; exact p_lt4 _
    have c1 := fun w => times_any n n hnq hnq w
    rw [hq] at c1 hstep
    have c2 := fun w => limBit_any x m zOm w
    rw [ht] at c2
    have c3 := fun w => times_any q a hql ha w
    obtain ⟨r, hr⟩ : ∃ r, q * a % pN = r := ⟨_, rfl⟩
    rw [hr] at c3
    have hstep1 : t = 1 → a ^ (x / 2 ^ m) % pN = r := by rintro rfl; rw [hstep, Nat.pow_one, hr]
    have hstep0 : t = 0 → a ^ (x / 2 ^ m) % pN = q := by rintro rfl; rw [hstep, Nat.pow_zero, Nat.mul_one, ← hq, Nat.mod_mod]
    replace c1 := zH c1
    replace c2 := zH c2
    replace c3 := zH c3
    replace hstep1 := zH hstep1
    replace hstep0 := zH hstep0
    clear hstep hq ht hr hn
    go_wp2_with (first | (refine zLd ?_) | (refine zSt ?_))
    refine (c1.out _).mono ?_
    rintro e w_1 ⟨rfl, hb_1⟩
    have k1 := k1.below hb_1
    have k2 := k2.below hb_1
    have k3 := k3.below hb_1
    have k4 := k4.below hb_1
    have kb := bel kb hb_1
    clear hb_1
    go_upto_region 6 with (first | (refine zSt ?_))
    refine code_row k4 (fun w_2 k4 hoth hbel => ?_)
    have k1 := hoth _ _ zOm k1
    have k2 := hoth _ _ zOm k2
    have k3 := hoth _ _ zOm k3
    have kb := hbel _ _ zOm kb
    clear hoth hbel
    go_wp2_with (first | (refine zLd ?_))
    refine (c2.out _).mono ?_
    rintro e w_3 ⟨rfl, hb_3⟩
    have k1 := k1.below hb_3
    have k2 := k2.below hb_3
    have k3 := k3.below hb_3
    have k4 := k4.below hb_3
    have kb := bel kb hb_3
    clear hb_3
    by_cases h1 : t = 1
    · obtain rfl := h1
      go_wp2_with (first | (refine zLd ?_))
      refine (c3.out _).mono ?_
      rintro e w_4 ⟨rfl, hb_4⟩
      have k1 := k1.below hb_4
      have k2 := k2.below hb_4
      have k3 := k3.below hb_4
      have k4 := k4.below hb_4
      have kb := bel kb hb_4
      clear hb_4
      go_wp2_with (first | (refine zSt ?_))
      refine ⟨⟨m, r, by omega, by go_num, hstep1.out (by trivial), k1.row_other zOm _, k2.row_other zOm _, k3.row_other zOm _, k4.setRow _, below_setRow kb zOm _⟩, by simp [intOf]⟩
    · obtain rfl : t = 0 := by omega
      go_wp2_with fail
      exact ⟨⟨m, q, by omega, by go_num, hstep0.out (by trivial), k1, k2, k3, k4, kb⟩, by simp [intOf]⟩
theorem inverse_any (a : Nat) (ha : a < 18446744073709551616 ^ 4) (w : World) :
 Calls Tryz.prog 81 #[.agg (lims 4 a).toArray] w fun e w' => e = .returned (.agg (lims 4 (a ^ (pN - 2) % pN)).toArray) ∧ Below w.heap.size w w' := by
 have c1 := zH (fun w => prime_any w)
 have l2 : (lims 4 2).toArray = #[.int .u64 2, .int .u64 0, .int .u64 0, .int .u64 0] := lims_small 2 zDc
 have c2 := fun w => limSub_any pN 2 zDc w
 rw [borrow_all zDc zDc, if_neg zDc, show lims 4 (pN + 18446744073709551616 ^ 4 - 2) = lims 4 (pN - 2) from lims_mod _ _ ⟨1, by decide⟩, l2] at c2
 have c3 := zH (fun w => power_any a (pN - 2) ha zDc w)
 replace c2 := zH c2
 clear l2
 go_enter Tryz.func81, Tryz.ntmps81
 go_upto_region 1 with fail
 refine wp_new2 (fun W hsz k1 k2 kb => ?_)
 have k2 : Arr W (w.heap.size + 1) (lims 4 0) := k2
 go_wp2_with fail
 refine (c1.out _).mono ?_
 rintro e w_5 ⟨rfl, hb_5⟩
 have k1 := k1.below hb_5
 have k2 := k2.below hb_5
 have kb := bel kb hb_5
 clear hb_5
 go_wp2_with fail
 refine (c2.out _).mono ?_
 rintro e w_6 ⟨rfl, hb_6⟩
 have k1 := k1.below hb_6
 have k2 := k2.below hb_6
 have kb := bel kb hb_6
 clear hb_6
 go_upto_region 2 with (first | (refine zSt ?_))
 refine code_new (fun w9 k4 hb9 => ?_)
 have k1 := k1.below hb9
 have k2 := k2.below hb9
 have kb := bel kb hb9
 clear hb9
 go_wp2_with (first | (refine zLd ?_) | (refine zSt ?_))
 refine (c3.out _).mono ?_
 rintro e w_7 ⟨rfl, hb_7⟩
 have k2 := k2.below hb_7
 have kb := bel kb hb_7
 clear hb_7
 go_wp2_with (first | (refine zLd ?_) | (refine zSt ?_))
 exact bodyPost_ret (results_arr2 Tryz.results81 _ _ _ rfl zKr _ (by first | assumption | exact Arr.setRow zAm _) zLn) rfl ⟨rfl, below_setRow kb zOm _⟩
theorem p_lt32 (n : Nat) : n % pN < 256 ^ 32 := Nat.lt_trans (Nat.mod_lt _ pN_pos) zDc
theorem lim_of32 {n : Nat} (h : n < 256 ^ 32) : n < 18446744073709551616 ^ 4 := Nat.lt_of_lt_of_le h zDc
theorem run_part_int {P : Program} {e : TypeId} {k : IntKind} {i : TypeInfo} (he : P.underlying e = some (.int k)) (_ : P.info? e = some i) (xs : List Int) (j : Nat) (x : Int) (hj : xs[j]? = some x) (w : World) :
 (Go.part e (xs.map (Value.int k)).toArray j).run P w = .ok (.int k x) w := by
 have hagg : (isAgg e).run P w = .ok false w := by
  unfold isAgg
  rw [Sem.run_bind, run_underlying he w]
  simp
 simp [Go.part, Sem.run_bind, hagg, hj]
theorem run_eqItems_ints {P : Program} {e : TypeId} {k : IntKind} {i : TypeInfo} (he : P.underlying e = some (.int k)) (hi : P.info? e = some i) (d : Nat) (xs ys : List Int) (h : xs.length = ys.length) (w : World) :
 ∀ (m a : Nat), a + m = xs.length → (Op.eqItems (d + 1) e 1 (xs.map (Value.int k)).toArray (ys.map (Value.int k)).toArray (List.range' a m)).run P w = .ok (decide (xs.drop a = ys.drop a)) w
 | 0, a, hm => by
  rw [List.drop_of_length_le zOm, List.drop_of_length_le zOm]
  simp [Op.eqItems]
 | m + 1, a, hm => by
  have h1 : xs[a]? = some xs[a] := List.getElem?_eq_getElem zOm
  have h2 : ys[a]? = some ys[a] := List.getElem?_eq_getElem zOm
  rw [List.range'_succ, Op.eqItems]
  simp only [Sem.run_bind, Nat.mul_one, run_part_int he hi xs a _ h1 w, run_part_int he hi ys a _ h2 w, Result.andThen_ok, run_equalIn_int w d e k k xs[a] ys[a] he]
  have e3 : (xs.drop a = ys.drop a) ↔ (xs[a] = ys[a] ∧ xs.drop (a + 1) = ys.drop (a + 1)) := by
   rw [List.drop_eq_getElem_cons (by omega : a < xs.length), List.drop_eq_getElem_cons (by omega : a < ys.length), List.cons.injEq]
  have e4 : decide (xs.drop a = ys.drop a) = decide (xs[a] = ys[a] ∧ xs.drop (a + 1) = ys.drop (a + 1)) := decide_eq_decide.2 e3
  by_cases e : xs[a] = ys[a]
  · have ih := run_eqItems_ints he hi d xs ys h w m (a + 1) zOm
    rw [e4]
    simp [e, ih]
  · rw [e4]
    simp [e]
theorem run_eq_ints {P : Program} {t e : TypeId} {k : IntKind} {n : Nat} (hu : P.underlying t = some (.array n e)) (he : P.underlying e = some (.int k)) (hi : (P.info? e).isSome = true) (hc : P.cellsOf e = 1) (xs ys : List Int) (hx : xs.length = n) (hy : ys.length = n) (w : World) :
 (Op.equalIn 10000 t (.agg (xs.map (Value.int k)).toArray) (.agg (ys.map (Value.int k)).toArray)).run P w = .ok (decide (xs = ys)) w := by
 obtain ⟨i, hi⟩ := Option.isSome_iff_exists.1 hi
 rw [run_equalIn_array w 9999 _ _ hu hi, hc, List.range_eq_range', run_eqItems_ints he hi 9998 xs ys zOm w n 0 zOm]
 simp
theorem digs_inj {b k m n : Nat} (h : digs b k m = digs b k n) (hm : m < b ^ k) (hn : n < b ^ k) : m = n := by
 have e := congrArg (val b) h
 rwa [val_digs, val_digs, Nat.mod_eq_of_lt hm, Nat.mod_eq_of_lt hn] at e
theorem eq_byts (m n : Nat) (hm : m < 256 ^ 32) (hn : n < 256 ^ 32) (w : World) :
 (Op.equalIn 10000 25 (.agg (byts m).toArray) (.agg (byts n).toArray)).run Tryz.prog w = .ok (decide (m = n)) w := by
 have h := run_eq_ints (P := Tryz.prog) (t := 25) (e := 5) (k := .u8) (n := 32) Tryz.underlying25 Tryz.underlying5 zKr zKr ((digs 256 32 m).map Int.ofNat) ((digs 256 32 n).map Int.ofNat) (by simp [digs_len]) (by simp [digs_len]) w
 have e : ∀ k, ((digs 256 32 k).map Int.ofNat).map (Value.int .u8) = byts k := by intro k; simp only [byts, List.map_map]; rfl
 rw [e, e] at h
 have e2 : ((digs 256 32 m).map Int.ofNat = (digs 256 32 n).map Int.ofNat) = (m = n) := by
  refine propext ⟨fun h1 => digs_inj ((List.map_inj_right (fun a b h => Int.ofNat.inj h)).1 h1) hm hn, ?_⟩
  rintro rfl; rfl
 rw [h]
 simp only [e2]
end Go.Proofs.YtncnlfpiondpnaaGreat

/- Elementary number theory: prime numbers, the little theorem of Fermat, and a proof that 2^255 - 19 is prime. No condition. -/
namespace Go.Proofs.YtncnlfpiondpnaaGreat
open Go.RowKit
namespace Nt
def Prime (p : Nat) : Prop := 2 ≤ p ∧ ∀ d, d ∣ p → d = 1 ∨ d = p
theorem Prime.coprime {p a : Nat} (hp : Prime p) (h : ¬ p ∣ a) : Nat.Coprime p a := by
 rcases hp.2 (Nat.gcd p a) (Nat.gcd_dvd_left p a) with h1 | h1
 · exact h1
 · exact absurd (h1 ▸ Nat.gcd_dvd_right p a) h
theorem Prime.dvd_mul {p a b : Nat} (hp : Prime p) (h : p ∣ a * b) : p ∣ a ∨ p ∣ b := by
 by_cases ha : p ∣ a
 · exact .inl ha
 · exact .inr ((hp.coprime ha).dvd_of_dvd_mul_left h)
theorem exists_prime_dvd : ∀ n : Nat, 2 ≤ n → ∃ r, Prime r ∧ r ∣ n := by
 intro n
 induction n using Nat.strongRecOn with
 | _ n ih =>
  intro hn
  by_cases hp : Prime n
  · exact ⟨n, hp, Nat.dvd_refl n⟩
  · have : ∃ d, d ∣ n ∧ d ≠ 1 ∧ d ≠ n := by
     apply Classical.byContradiction
     intro hc
     apply hp
     refine ⟨hn, fun d hd => ?_⟩
     apply Classical.byContradiction
     intro h2
     exact hc ⟨d, hd, fun h => h2 (.inl h), fun h => h2 (.inr h)⟩
    obtain ⟨d, hd, h1, h2⟩ := this
    have hle := Nat.le_of_dvd zOm hd
    have h0 : d ≠ 0 := by
     rintro rfl
     have := Nat.eq_zero_of_zero_dvd hd
     omega
    obtain ⟨r, hr, hrd⟩ := ih d zOm zOm
    exact ⟨r, hr, Nat.dvd_trans hrd hd⟩
def ch : Nat → Nat → Nat
 | _, 0 => 1
 | 0, _ + 1 => 0
 | n + 1, k + 1 => ch n k + ch n (k + 1)
theorem ch_zero (n : Nat) : ch n 0 = 1 := by cases n <;> rfl
theorem ch_succ (n k : Nat) : ch (n + 1) (k + 1) = ch n k + ch n (k + 1) := rfl
theorem ch_big : ∀ (n k : Nat), n < k → ch n k = 0
 | 0, 0, h => absurd h zOm
 | 0, k + 1, _ => rfl
 | n + 1, 0, h => absurd h zOm
 | n + 1, k + 1, h => by rw [ch_succ, ch_big n k zOm, ch_big n (k + 1) zOm]
theorem ch_mul : ∀ (n k : Nat), (k + 1) * ch (n + 1) (k + 1) = (n + 1) * ch n k
 | 0, 0 => rfl
 | 0, k + 1 => by
  have : ch (0 + 1) (k + 1 + 1) = 0 := ch_big 1 (k + 2) zOm
  have h2 : ch 0 (k + 1) = 0 := rfl
  rw [this, h2]; simp
 | n + 1, 0 => by
  have h := ch_mul n 0
  rw [ch_succ (n + 1) 0, ch_zero]
  rw [ch_zero] at h
  omega
 | n + 1, k + 1 => by
  have h1 := ch_mul n k
  have h2 := ch_mul n (k + 1)
  rw [ch_succ (n + 1) (k + 1), Nat.mul_add]
  have e1 : (k + 1 + 1) * ch (n + 1) (k + 1) = (k + 1) * ch (n + 1) (k + 1) + ch (n + 1) (k + 1) := by
   rw [Nat.add_mul (k + 1) 1, Nat.one_mul]
  rw [e1, h1, h2]
  have e2 : (n + 1 + 1) * ch (n + 1) (k + 1) = (n + 1) * ch (n + 1) (k + 1) + ch (n + 1) (k + 1) := by
   rw [Nat.add_mul (n + 1) 1, Nat.one_mul]
  rw [e2, ch_succ n k, Nat.mul_add]
  omega
def bsum (n a : Nat) : Nat → Nat
 | 0 => 0
 | m + 1 => bsum n a m + ch n m * a ^ m
theorem bsum_succ (n a : Nat) : ∀ m, bsum (n + 1) a (m + 1) = bsum n a (m + 1) + a * bsum n a m
 | 0 => by simp [bsum, ch_zero]
 | m + 1 => by
  show bsum (n + 1) a (m + 1) + ch (n + 1) (m + 1) * a ^ (m + 1) = (bsum n a (m + 1) + ch n (m + 1) * a ^ (m + 1)) + a * (bsum n a m + ch n m * a ^ m)
  rw [bsum_succ n a m, ch_succ, Nat.add_mul, Nat.mul_add]
  have : a * (ch n m * a ^ m) = ch n m * a ^ (m + 1) := by
   rw [Nat.pow_succ]; ac_rfl
  rw [this]; omega
theorem pow_bsum (a : Nat) : ∀ n, (a + 1) ^ n = bsum n a (n + 1)
 | 0 => by simp [bsum, ch_zero]
 | n + 1 => by
  rw [Nat.pow_succ, pow_bsum a n, bsum_succ]
  have : bsum n a (n + 1 + 1) = bsum n a (n + 1) := by
   show bsum n a (n + 1) + ch n (n + 1) * a ^ (n + 1) = _
   rw [ch_big n (n + 1) zOm]; simp
  rw [this, Nat.mul_add, Nat.mul_comm, Nat.mul_one]
  rw [Nat.add_comm]
theorem Prime.ch_dvd {p k : Nat} (hp : Prime p) (h0 : 0 < k) (hk : k < p) : p ∣ ch p k := by
 obtain ⟨p', rfl⟩ : ∃ p', p = p' + 1 := ⟨p - 1, by omega⟩
 obtain ⟨k', rfl⟩ : ∃ k', k = k' + 1 := ⟨k - 1, by omega⟩
 have h := ch_mul p' k'
 have hd : p' + 1 ∣ (k' + 1) * ch (p' + 1) (k' + 1) := by rw [h]; exact Nat.dvd_mul_right _ _
 have hn : ¬ p' + 1 ∣ k' + 1 := fun hd => by have := Nat.le_of_dvd zOm hd; omega
 exact (hp.coprime hn).dvd_of_dvd_mul_left hd
theorem bsum_mod {p : Nat} (hp : Prime p) (a : Nat) : ∀ m, m < p → bsum p a (m + 1) % p = 1 % p
 | 0, _ => by simp [bsum, ch_zero]
 | m + 1, h => by
  show (bsum p a (m + 1) + ch p (m + 1) * a ^ (m + 1)) % p = _
  obtain ⟨c, hc⟩ := hp.ch_dvd (by omega : 0 < m + 1) h
  rw [hc, Nat.mul_assoc, Nat.add_mul_mod_self_left]
  exact bsum_mod hp a m zOm
theorem fermat_step {p : Nat} (hp : Prime p) (a : Nat) : (a + 1) ^ p % p = (a ^ p + 1) % p := by
 rw [pow_bsum]
 show (bsum p a p + ch p p * a ^ p) % p = _
 have h1 : ch p p = 1 := by
  clear hp a
  induction p with
  | zero => rfl
  | succ p ih => rw [ch_succ, ih, ch_big p (p + 1) zOm]
 have h2 := bsum_mod hp a (p - 1) (by have := hp.1; omega)
 rw [show p - 1 + 1 = p from by have := hp.1; omega] at h2
 rw [h1, Nat.one_mul, Nat.add_mod, h2, ← Nat.add_mod, Nat.add_comm]
theorem fermat_p {p : Nat} (hp : Prime p) : ∀ a : Nat, a ^ p % p = a % p
 | 0 => by rw [Nat.zero_pow (by have := hp.1; omega)]
 | a + 1 => by rw [fermat_step hp, Nat.add_mod, fermat_p hp a, ← Nat.add_mod]
theorem fermat {p : Nat} (hp : Prime p) {a : Nat} (h : ¬ p ∣ a) : a ^ (p - 1) % p = 1 := by
 have h2 := hp.1
 have hpos : 0 < a := Nat.pos_of_ne_zero (fun h0 => h (h0 ▸ Nat.dvd_zero p))
 have h1 : 1 ≤ a ^ (p - 1) := Nat.pow_pos hpos
 have hd : p ∣ a * (a ^ (p - 1) - 1) := by
  have e : a * (a ^ (p - 1) - 1) = a ^ p - a := by
   rw [Nat.mul_sub, Nat.mul_one]
   congr 1
   rw [Nat.mul_comm, ← Nat.pow_succ]
   congr 1
   omega
  rw [e]
  have hle : a ≤ a ^ p := by
   have := Nat.pow_le_pow_right hpos (show 1 ≤ p by omega)
   simpa using this
  exact Nat.dvd_of_mod_eq_zero (Nat.sub_mod_eq_zero_of_mod_eq (fermat_p hp a))
 have hd2 : p ∣ a ^ (p - 1) - 1 := (hp.coprime h).dvd_of_dvd_mul_left hd
 obtain ⟨c, hc⟩ := hd2
 rw [show a ^ (p - 1) = 1 + p * c from by omega, Nat.add_mul_mod_self_left, Nat.mod_eq_of_lt zOm]
theorem pow_one_mul {r a m k : Nat} (hr : 2 ≤ r) (h : a ^ m % r = 1) : a ^ (m * k) % r = 1 := by
 rw [Nat.pow_mul, Nat.pow_mod, h, Nat.one_pow, Nat.mod_eq_of_lt zOm]
theorem pow_gcd {r a : Nat} (hr : 2 ≤ r) : ∀ m n : Nat, a ^ m % r = 1 → a ^ n % r = 1 → a ^ Nat.gcd m n % r = 1 := by
 intro m n
 induction m, n using Nat.gcd.induction with
 | H0 n => intro _ h; rwa [Nat.gcd_zero_left]
 | H1 m n hm ih =>
  intro h1 h2
  rw [Nat.gcd_rec]
  refine ih ?_ h1
  have e : a ^ n = a ^ (m * (n / m)) * a ^ (n % m) := by rw [← Nat.pow_add, Nat.div_add_mod]
  rw [e, Nat.mul_mod, pow_one_mul hr h1, Nat.one_mul, Nat.mod_mod] at h2
  exact h2
theorem pock {n q R a r : Nat} (hF : n - 1 = q * R) (hq : Prime q) (h1 : a ^ (n - 1) % n = 1)
 (hg : Nat.gcd (a ^ R % n + (n - 1)) n = 1) (hn : 2 ≤ n) (hr : Prime r) (hd : r ∣ n) : q ∣ r - 1 := by
 apply Classical.byContradiction
 intro hc
 have r2 := hr.1
 have hco := hq.coprime hc
 obtain ⟨s, rfl⟩ := hd
 have hmod : ∀ x, x % (r * s) = 1 → x % r = 1 := by
  intro x hx
  have := Nat.mod_mul_right_mod x r s
  rw [hx] at this
  rw [← this, Nat.mod_eq_of_lt zOm]
 have hbq : (a ^ R) ^ q % r = 1 := by
  rw [← Nat.pow_mul, Nat.mul_comm R q, ← hF]
  exact hmod _ h1
 have hnd : ¬ r ∣ a ^ R := by
  intro h
  have hz : (a ^ R) ^ q % r = 0 := Nat.mod_eq_zero_of_dvd (Nat.dvd_trans h (by
   have := hq.1
   obtain ⟨q', rfl⟩ : ∃ q', q = q' + 1 := ⟨q - 1, by omega⟩
   rw [Nat.pow_succ]
   exact Nat.dvd_mul_left _ _))
  omega
 have hbr : (a ^ R) ^ (r - 1) % r = 1 := fermat hr hnd
 have hb := pow_gcd r2 q (r - 1) hbq hbr
 rw [hco, Nat.pow_one] at hb
 have hmm : a ^ R % (r * s) % r = 1 := by rw [Nat.mod_mul_right_mod]; exact hb
 have hdv : r ∣ a ^ R % (r * s) + (r * s - 1) := by
  have hle : 1 ≤ a ^ R % (r * s) := by
   rcases Nat.eq_zero_or_pos (a ^ R % (r * s)) with h | h
   · rw [h] at hmm; simp at hmm
   · exact h
  have e : a ^ R % (r * s) + (r * s - 1) = (a ^ R % (r * s) - 1) + r * s := by omega
  rw [e]
  refine (Nat.dvd_add_iff_left (Nat.dvd_mul_right r s)).1 ?_
  exact Nat.dvd_of_mod_eq_zero (Nat.sub_mod_eq_zero_of_mod_eq (by rw [hmm]; exact (Nat.mod_eq_of_lt zOm).symm))
 have : r ∣ 1 := by
  rw [← hg]
  exact Nat.dvd_gcd hdv (Nat.dvd_mul_right r s)
 have := Nat.le_of_dvd zOm this
 omega
theorem prime_of_large {n F : Nat} (hn : 2 ≤ n) (hF : n < (F + 1) * (F + 1)) (h : ∀ r, Prime r → r ∣ n → F < r) : Prime n := by
 refine ⟨hn, fun d hd => ?_⟩
 apply Classical.byContradiction
 intro hc
 obtain ⟨s, rfl⟩ := hd
 have d0 : d ≠ 0 := by rintro rfl; simp at hn
 have s0 : s ≠ 0 := by rintro rfl; simp at hn
 have hd1 : d ≠ 1 := fun h => hc (.inl h)
 have hs1 : s ≠ 1 := fun h => hc (.inr (by rw [h, Nat.mul_one]))
 obtain ⟨r, hr, hrd⟩ := exists_prime_dvd d zOm
 obtain ⟨t, ht, hts⟩ := exists_prime_dvd s zOm
 have a1 := h r hr (Nat.dvd_trans hrd (Nat.dvd_mul_right d s))
 have a2 := h t ht (Nat.dvd_trans hts (Nat.dvd_mul_left s d))
 have b1 := Nat.le_of_dvd zOm hrd
 have b2 := Nat.le_of_dvd zOm hts
 have : (F + 1) * (F + 1) ≤ d * s := Nat.mul_le_mul zOm zOm
 omega
def pm (n : Nat) : Nat → Nat → Nat → Nat → Nat
 | 0, _, _, acc => acc
 | fuel + 1, b, e, acc => pm n fuel (b * b % n) (e / 2) (if e % 2 = 1 then acc * b % n else acc)
theorem pm_eq (n : Nat) : ∀ fuel b e acc, e < 2 ^ fuel → pm n fuel b e acc % n = acc * b ^ e % n
 | 0, b, e, acc, h => by
  have : e = 0 := by simpa using h
  subst this; simp [pm]
 | fuel + 1, b, e, acc, h => by
  rw [pm, pm_eq n fuel _ _ _ (by rw [Nat.pow_succ] at h; omega)]
  have hb : (b * b % n) ^ (e / 2) % n = b ^ (2 * (e / 2)) % n := by
   rw [← Nat.pow_mod, Nat.pow_mul, Nat.pow_two]
  rw [Nat.mul_mod, hb, ← Nat.mul_mod]
  split
  · rename_i h1
    have e1 : e = 2 * (e / 2) + 1 := by omega
    rw [Nat.mul_mod, Nat.mod_mod, ← Nat.mul_mod]
    conv => rhs; rw [e1, Nat.pow_succ]
    congr 1; ac_rfl
  · rename_i h1
    have e1 : e = 2 * (e / 2) := by omega
    conv => rhs; rw [e1]
theorem pow_mod_of {n b e x : Nat} (fuel : Nat) (hf : e < 2 ^ fuel) (h : pm n fuel b e 1 % n = x) : b ^ e % n = x := by
 rw [← h, pm_eq n fuel b e 1 hf, Nat.one_mul]
theorem pock1 {n q R : Nat} (hq : Prime q) (hF : n - 1 = q * R) (hn : 2 ≤ n) (hb : n < 2 ^ 256) (h1' : pm n 256 2 (n - 1) 1 % n = 1)
 (hb2 : R < 2 ^ 256) (hg' : Nat.gcd (pm n 256 2 R 1 % n + (n - 1)) n = 1) (hs : n < (q + 1) * (q + 1)) : Prime n := by
 have h1 : 2 ^ (n - 1) % n = 1 := pow_mod_of 256 zOm h1'
 have hg : Nat.gcd (2 ^ R % n + (n - 1)) n = 1 := by rw [pow_mod_of 256 hb2 rfl]; exact hg'
 refine prime_of_large hn hs fun r hr hd => ?_
 have h := pock hF hq h1 hg hn hr hd
 have := hr.1
 have := Nat.le_of_dvd zOm h
 omega
theorem pock2 {n q R q' R' : Nat} (hq : Prime q) (hq' : Prime q') (hne : q ≠ q') (hF : n - 1 = q * R) (hF' : n - 1 = q' * R') (hn : 2 ≤ n) (hb : n < 2 ^ 256) (h1' : pm n 256 2 (n - 1) 1 % n = 1)
 (hb2 : R < 2 ^ 256) (hg' : Nat.gcd (pm n 256 2 R 1 % n + (n - 1)) n = 1) (hb3 : R' < 2 ^ 256) (hg2' : Nat.gcd (pm n 256 2 R' 1 % n + (n - 1)) n = 1) (hs : n < (q * q' + 1) * (q * q' + 1)) : Prime n := by
 have h1 : 2 ^ (n - 1) % n = 1 := pow_mod_of 256 zOm h1'
 have hg : Nat.gcd (2 ^ R % n + (n - 1)) n = 1 := by rw [pow_mod_of 256 hb2 rfl]; exact hg'
 have hg2 : Nat.gcd (2 ^ R' % n + (n - 1)) n = 1 := by rw [pow_mod_of 256 hb3 rfl]; exact hg2'
 refine prime_of_large hn hs fun r hr hd => ?_
 have h := pock hF hq h1 hg hn hr hd
 have h' := pock hF' hq' h1 hg2 hn hr hd
 have hr1 := hr.1
 have hco : Nat.Coprime q q' := hq.coprime fun hd => by
  rcases hq'.2 q hd with h | h
  · have := hq.1; omega
  · exact hne h
 have := Nat.le_of_dvd zOm (hco.mul_dvd_of_dvd_of_dvd h h')
 omega
def noDiv (n : Nat) : Nat → Nat → Bool
 | 0, _ => true
 | fuel + 1, d => n % d != 0 && noDiv n fuel (d + 1)
theorem noDiv_spec {n : Nat} : ∀ fuel d, noDiv n fuel d = true → ∀ k, d ≤ k → k < d + fuel → n % k ≠ 0
 | 0, d, _, k, h1, h2 => by omega
 | fuel + 1, d, h, k, h1, h2 => by
  simp only [noDiv, Bool.and_eq_true, bne_iff_ne] at h
  by_cases hk : k = d
  · rw [hk]; exact h.1
  · exact noDiv_spec fuel (d + 1) h.2 k zOm zOm
theorem prime_small {n : Nat} (F : Nat) (hn : 2 ≤ n) (hF : n < (F + 1) * (F + 1)) (h : noDiv n (F - 1) 2 = true) : Prime n := by
 refine prime_of_large hn hF fun r hr hd => ?_
 apply Classical.byContradiction
 intro hc
 have := hr.1
 exact noDiv_spec _ _ h r zOm zOm (Nat.mod_eq_zero_of_dvd hd)
theorem prime_991 : Prime 991 := prime_small 31 zDc zDc zDk
theorem prime_103 : Prime 103 := prime_small 10 zDc zDc zDk
theorem prime_127 : Prime 127 := prime_small 11 zDc zDc zDk
theorem prime_4153 : Prime 4153 := prime_small 64 zDc zDc zDk
theorem prime_430751 : Prime 430751 := prime_small 656 zDc zDc zDk
theorem prime_569003 : Prime 569003 := prime_small 754 zDc zDc zDk
theorem prime_8574133 : Prime 8574133 := pock2 (q := 991) (R := 8652) (q' := 103) (R' := 83244) prime_991 prime_103 zDk zDk zDk zDk zDk zDk zDk zDk zDk zDk zDk
theorem prime_1919519569386763 : Prime 1919519569386763 := pock2 (q := 8574133) (R := 223873314) (q' := 127) (R' := 15114327318006) prime_8574133 prime_127 zDk zDk zDk zDk zDk zDk zDk zDk zDk zDk zDk
theorem prime_2773320623 : Prime 2773320623 := pock1 (q := 569003) (R := 4874) prime_569003 zDk zDk zDk zDk zDk zDk zDk
theorem prime_72106336199 : Prime 72106336199 := pock1 (q := 2773320623) (R := 26) prime_2773320623 zDk zDk zDk zDk zDk zDk zDk
theorem prime_c : Prime 75445702479781427272750846543864801 := pock2 (q := 1919519569386763) (R := 39304471641247389600) (q' := 72106336199) (R' := 1046311689884858398375200) prime_1919519569386763 prime_72106336199 zDk zDk zDk zDk zDk zDk zDk zDk zDk zDk zDk
theorem prime_d : Prime 31757755568855353 := pock2 (q := 430751) (R := 73726481352) (q' := 4153) (R' := 7646943310584) prime_430751 prime_4153 zDk zDk zDk zDk zDk zDk zDk zDk zDk zDk zDk
theorem prime_e : Prime 74058212732561358302231226437062788676166966415465897661863160754340907 := pock2 (q := 75445702479781427272750846543864801) (R := 981609426360740691344999861639072106) (q' := 31757755568855353) (R' := 2331972502653487852620185443007392165117953542933313402) prime_c prime_d zDk zDk zDk zDk zDk zDk zDk zDk zDk zDk zDk
theorem prime_p : Prime 57896044618658097711785492504343953926634992332820282019728792003956564819949 := pock1 (q := 74058212732561358302231226437062788676166966415465897661863160754340907) (R := 781764) prime_e zDk zDk zDk zDk zDk zDk zDk
end Nt
end Go.Proofs.YtncnlfpiondpnaaGreat
