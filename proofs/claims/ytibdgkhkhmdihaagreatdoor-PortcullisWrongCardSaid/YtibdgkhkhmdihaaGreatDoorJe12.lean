/- PortcullisWrong: part 12 of its proof: lemmas and contracts, each with its conditions in its own statement; the last part holds the law itself. -/
import Derived.Test.YtibdgkhkhmdihaaGreatDoorJe11
import Derived.ChangeKeysEq
import Derived.Laws.StructEq
import Derived.Lib.Hide
import Derived.ProofKit
import Derived.OpenShut
import Derived.Deep.Matrix

set_option maxHeartbeats 4000000
set_option maxRecDepth 100000
namespace Go.Proofs.YtibdgkhkhmdihaaGreatDoor
open Go.RowKit
theorem times_any (a b : Nat) (ha : a < 18446744073709551616 ^ 4) (hb : b < 18446744073709551616 ^ 4) (w : World) :
 Calls Tryz.prog 119 #[.agg (lims 4 a).toArray, .agg (lims 4 b).toArray] w fun e w' => e = .returned (.agg (lims 4 (a * b % pN)).toArray) ∧ Below w.heap.size w w' := by
 have am := limMul_any a b hb
 rw [Nat.mod_eq_of_lt ha] at am
 obtain ⟨V, hV⟩ : ∃ V, a * b = V := ⟨_, rfl⟩
 have hVl : V < 18446744073709551616 ^ 4 * 18446744073709551616 ^ 4 := by rw [← hV]; exact Nat.mul_lt_mul'' ha hb
 rw [hV] at am ⊢
 replace am := zH am
 replace hVl := zH hVl
 clear hV ha hb
 obtain ⟨r, hr⟩ : ∃ r, V % pN = r := ⟨_, rfl⟩
 rw [hr]
 replace hr := zH hr
 go_enter Tryz.func119, Tryz.ntmps119
 go_upto_region 1 with fail
 refine wp_new3 (fun W hsz k1 k2 k3 kb => ?_)
 have k3 : Arr W (w.heap.size + 1 + 1) (lims 4 0) := k3
 go_wp2_with (first | (refine zLd ?_) | (refine zSt ?_))
 refine (am.out _).mono ?_
 rintro e w_1 ⟨rfl, hb_1⟩
 have k3 := k3.below hb_1
 have kb := bel kb hb_1
 clear hb_1
 have hg3 := k3.lt
 go_upto_region 2 with (first | (refine zLd ?_) | (refine zSt ?_))
 refine code_new (fun w9 k5 hb9 => ?_)
 have k3 := k3.below hb9
 have kb := bel kb hb9
 clear hb9 k1 k2 hsz
 go_upto_region 3 with fail
 have hg5 := k5.lt
 refine wp_new1 (fun w8 hsz k6 hb8 => ?_)
 have k6 : Arr w8 w9.heap.size (us [0, 0, 0, 0]) := k6
 have k3 := k3.below hb8
 have k5 := k5.below hb8
 have kb := bel kb hb8
 have hzero : ∀ p, p < 4 → ([0, 0, 0, 0] : List Nat)[p]? = some 0 := by decide
 clear hb8 hsz
 go_wp2_with fail
 go_loopw [7, 15] (fun cv kv wr => ∃ (k c : Nat) (es : List Nat), k ≤ 4 ∧ c ≤ 38 ∧ cv = .int .u64 (c : Int) ∧ kv = .int .i64 k ∧ Arr wr (w.heap.size + 1 + 1) (lims 4 0) ∧ Arr wr w_1.heap.size (lims 8 V) ∧ Arr wr w9.heap.size (us es) ∧ Below w.heap.size w wr ∧
  es.length = 4 ∧ (∀ d ∈ es, d < 18446744073709551616) ∧ val 18446744073709551616 es + 18446744073709551616 ^ k * c = V % 18446744073709551616 ^ k + 38 * (V / 18446744073709551616 ^ 4 % 18446744073709551616 ^ k) ∧ (∀ p, k ≤ p → p < 4 → es[p]? = some 0)) (fun _ kv _ => 4 - (intOf kv).toNat)
 case atStart => exact ⟨0, 0, [0, 0, 0, 0], Nat.zero_le _, Nat.zero_le _, rfl, rfl, k3, k5, k6, kb, rfl, by decide, by rw [Nat.pow_zero, Nat.mod_one, Nat.mod_one]; rfl, fun p _ hp => hzero p hp⟩
 case round =>
  obtain ⟨k, c, es, hk, hc, rfl, rfl, j3, j5, j6, jb, jlen, jlt, jval, jz⟩ := hrel
  clear k3 k5 k6 kb hzero
  by_cases hk4 : k < 4
  · obtain ⟨h, hh⟩ : ∃ h, V / 18446744073709551616 ^ (k + 4) % 18446744073709551616 = h := ⟨_, rfl⟩
    obtain ⟨l, hl⟩ : ∃ l, V / 18446744073709551616 ^ k % 18446744073709551616 = l := ⟨_, rfl⟩
    have hhl : h < 18446744073709551616 := by rw [← hh]; exact Nat.mod_lt _ zDc
    have hll : l < 18446744073709551616 := by rw [← hl]; exact Nat.mod_lt _ zDc
    have c1 := j5.cell (lims_get 8 V (k + 4) zOm)
    have c2 := j5.cell (lims_get 8 V k zOm)
    rw [hh] at c1
    rw [hl] at c2
    have c3 := j6.cell (us_get es k 0 (jz k (Nat.le_refl _) hk4))
    have hfr := j6.frozen k
    obtain ⟨p0, hp0⟩ : ∃ p, h * 38 % 18446744073709551616 = p := ⟨_, rfl⟩
    obtain ⟨p1, hp1⟩ : ∃ p, h * 38 / 18446744073709551616 = p := ⟨_, rfl⟩
    obtain ⟨s1, hs1⟩ : ∃ p, (p0 + c) % 18446744073709551616 = p := ⟨_, rfl⟩
    obtain ⟨t1, ht1⟩ : ∃ p, (p0 + c) / 18446744073709551616 = p := ⟨_, rfl⟩
    obtain ⟨s2, hs2⟩ : ∃ p, (s1 + l) % 18446744073709551616 = p := ⟨_, rfl⟩
    obtain ⟨t2, ht2⟩ : ∃ p, (s1 + l) / 18446744073709551616 = p := ⟨_, rfl⟩
    have hm := fun w => mul64 h 38 hhl zDc w
    rw [hp0, hp1] at hm
    have a1 := fun w => add64z p0 c w
    rw [hs1, ht1] at a1
    have a2 := fun w => add64z s1 l w
    rw [hs2, ht2] at a2
    replace hm := zH hm
    replace a1 := zH a1
    replace a2 := zH a2
    have q1 : p1 + t1 + t2 ≤ 38 := by omega
    have hst : s2 + 18446744073709551616 * (p1 + t1 + t2) = h * 38 + l + c := by omega
    have hs2l : s2 < 18446744073709551616 := by omega
    replace hst := zH hst
    replace jlen := zH jlen
    replace jlt := zH jlt
    replace jval := zH jval
    have hd := zH (jz k (Nat.le_refl _) hk4)
    replace jz := zH jz
    replace hh := zH hh
    replace hl := zH hl
    clear hp0 hp1 hs1 ht1 hs2 ht2
    go_wp2_with (first | (simp only [a1.out, a2.out]; done) | (refine (hm.out _).mono ?_; rintro e w' ⟨rfl, rfl⟩) | simp only [a1.out, a2.out])
    refine ⟨⟨k + 1, p1 + t1 + t2, es.set k s2, by omega, q1, by go_num, by go_num, j3.other (by simp; omega) _, j5.other (by simp; omega) _, ?_, jb.setCell (by simp; omega) _, by rw [List.length_set]; exact jlen.out, set_lt jlt.out hs2l, ?_, ?_⟩, by simp [intOf]; omega⟩
    · have := j6.set k (.int .u64 (s2 : Int))
      rw [us_set] at this
      exact this
    · have h1 := val_set 18446744073709551616 es k 0 s2 hd.out
      have h2 := jval.out
      have h3 := hst.out
      have h4 := mod_pow_succ' 18446744073709551616 k V
      have h5 := mod_pow_succ' 18446744073709551616 k (V / 18446744073709551616 ^ 4)
      rw [hl.out] at h4
      rw [Nat.div_div_eq_div_mul, ← Nat.pow_add, Nat.add_comm 4 k, hh.out] at h5
      rw [h4, h5, Nat.pow_succ]
      clear h4 h5 hm a1 a2 jlen jlt jval jz hst hd hh hl j3 j5 j6 jb c1 c2 c3 hfr hVl am hr
      generalize val 18446744073709551616 (es.set k s2) = V' at *
      generalize val 18446744073709551616 es = Ve at *
      generalize V % 18446744073709551616 ^ k = A at *
      generalize V / 18446744073709551616 ^ 4 % 18446744073709551616 ^ k = D at *
      generalize 18446744073709551616 ^ k = K at *
      generalize p1 + t1 + t2 = t at *
      have h5 := congrArg (K * ·) h3
      simp only [Nat.mul_add] at h5 ⊢
      have e1 : K * 18446744073709551616 * t = K * (18446744073709551616 * t) := Nat.mul_assoc _ _ _
      have e2 : 38 * (K * h) = K * (h * 38) := by rw [Nat.mul_comm h 38, Nat.mul_left_comm]
      omega
    · intro p h1 h2
      rw [List.getElem?_set_ne zOm]
      exact jz.out p zOm h2
  · obtain rfl : k = 4 := by omega
    have hnl := val_lt 18446744073709551616 zDc es jlt
    rw [jlen] at hnl
    have hus : us es = lims 4 (val 18446744073709551616 es) := by
     have := digs_val 18446744073709551616 zDc es jlt
     rw [jlen] at this
     rw [lims_us, this]
    rw [hus] at j6
    have hV4 : V / 18446744073709551616 ^ 4 < 18446744073709551616 ^ 4 := Nat.div_lt_of_lt_mul hVl.out
    have af := fun w => fold_any (val 18446744073709551616 es) c hnl zOm w
    rw [jval, Nat.mod_eq_of_lt hV4, ← mod_38, Nat.mod_add_div, hr.out] at af
    obtain ⟨n, hn⟩ : ∃ n, val 18446744073709551616 es = n := ⟨_, rfl⟩
    rw [hn] at af j6
    replace af := zH af
    clear hnl hus hV4 jval jz jlt jlen hn hVl hr am
    go_wp2_with (first | (refine zLd ?_) | (refine zSt ?_))
    refine (af.out _).mono ?_
    rintro e w7 ⟨rfl, hb7⟩
    have j3 := j3.below hb7
    have jb := bel jb hb7
    clear hb7
    go_wp2_with (first | (refine zLd ?_) | (refine zSt ?_))
    exact bodyPost_ret (results_arr2 Tryz.results119 _ _ _ rfl zKr _ (by first | assumption | exact Arr.setRow zAm _) zLn) rfl ⟨rfl, below_setRow jb zOm _⟩
theorem p_lt4 (n : Nat) : n % pN < 18446744073709551616 ^ 4 := Nat.lt_trans (Nat.mod_lt _ pN_pos) zDc
theorem pow_bit (a e m r b : Nat) (hr : a ^ (e / 2 ^ (m + 1)) % pN = r) (hb : e / 2 ^ m % 2 = b) : a ^ (e / 2 ^ m) % pN = (r * r % pN) * a ^ b % pN := by
 have e1 : e / 2 ^ m = e / 2 ^ (m + 1) + e / 2 ^ (m + 1) + b := by
  rw [Nat.pow_succ, ← Nat.div_div_eq_div_mul]; omega
 rw [e1, Nat.pow_add, Nat.pow_add, ← hr, ← Nat.mul_mod (a ^ (e / 2 ^ (m + 1))), Nat.mod_mul_mod]
theorem power_any (a x : Nat) (ha : a < 18446744073709551616 ^ 4) (hx : x < 18446744073709551616 ^ 4) (w : World) :
 Calls Tryz.prog 185 #[.agg (lims 4 a).toArray, .agg (lims 4 x).toArray] w fun e w' => e = .returned (.agg (lims 4 (a ^ x % pN)).toArray) ∧ Below w.heap.size w w' := by
 have l1 : (lims 4 1).toArray = #[.int .u64 1, .int .u64 0, .int .u64 0, .int .u64 0] := lims_small 1 zDc
 have l1' : us [1, 0, 0, 0] = lims 4 1 := by rfl
 replace l1' := zH l1'
 clear l1
 go_enter Tryz.func185, Tryz.ntmps185
 go_upto_region 1 with fail
 refine wp_new3 (fun W hsz k1 k2 k3 kb => ?_)
 have k3 : Arr W (w.heap.size + 1 + 1) (lims 4 0) := k3
 go_upto_region 2 with (first | (refine zLd ?_) | (refine zSt ?_))
 refine wp_new1 (fun w9 hsz9 k4 hb9 => ?_)
 have k4 : Arr w9 W.heap.size (us [1, 0, 0, 0]) := k4
 rw [l1'.out, hsz] at k4
 have k1 := k1.below hb9
 have k2 := k2.below hb9
 have k3 := k3.below hb9
 have kb := bel kb hb9
 clear hb9 hsz9
 go_wp2_with fail
 go_loopw [6] (fun kv wr => ∃ (j n : Nat), j ≤ 256 ∧ kv = .int .i64 ((j : Int) - 1) ∧ a ^ (x / 2 ^ j) % pN = n ∧ Arr wr w.heap.size (lims 4 a) ∧ Arr wr (w.heap.size + 1) (lims 4 x) ∧ Arr wr (w.heap.size + 1 + 1) (lims 4 0) ∧ Arr wr (w.heap.size + 3) (lims 4 n) ∧ Below w.heap.size w wr) (fun kv _ => (intOf kv + 1).toNat)
 case atStart =>
  refine ⟨256, 1, Nat.le_refl _, rfl, ?_, k1, k2, k3, ?_, kb⟩
  · rw [Nat.div_eq_of_lt (Nat.lt_of_lt_of_le hx zDc), Nat.pow_zero]
    decide
  · exact k4
 case round =>
  clear k1 k2 k3 k4 kb hsz
  obtain ⟨j, n, hj, rfl, hn, k1, k2, k3, k4, kb⟩ := hrel
  have hnq : n < 18446744073709551616 ^ 4 := by rw [← hn]; exact p_lt4 _
  replace hn := zH hn
  rcases Nat.eq_zero_or_pos j with rfl | hj0
  · have e : ((0 : Nat) : Int) - 1 = -1 := rfl
    rw [e]
    go_wp2_with (first | (refine zLd ?_) | (refine zSt ?_))
    exact bodyPost_ret (results_arr2 Tryz.results185 _ _ _ rfl zKr _ (by first | assumption | exact Arr.setRow zAm _) zLn) rfl ⟨by rw [← hn.out, Nat.pow_zero, Nat.div_one], below_setRow kb zOm _⟩
  · obtain ⟨m, rfl⟩ : ∃ m, j = m + 1 := ⟨j - 1, by omega⟩
    have e : ((m + 1 : Nat) : Int) - 1 = (m : Int) := by omega
    rw [e]
    clear e
    obtain ⟨t, ht⟩ : ∃ t, x / 2 ^ m % 2 = t := ⟨_, rfl⟩
    have ht2 : t < 2 := by omega
    have hstep := pow_bit a x m n t hn.out ht
    obtain ⟨q, hq⟩ : ∃ q, n * n % pN = q := ⟨_, rfl⟩
    have hql : q < 18446744073709551616 ^ 4 := by rw [← hq]; exact p_lt4 _
    have c1 := fun w => times_any n n hnq hnq w
    rw [hq] at c1 hstep
    have c2 := fun w => limBit_any x m zOm w
    rw [ht] at c2
    have c3 := fun w => times_any q a hql ha w
    obtain ⟨r, hr⟩ : ∃ r, q * a % pN = r := ⟨_, rfl⟩
    rw [hr] at c3
    have hstep1 : t = 1 → a ^ (x / 2 ^ m) % pN = r := by rintro rfl; rw [hstep, Nat.pow_one, hr]
    have hstep0 : t = 0 → a ^ (x / 2 ^ m) % pN = q := by rintro rfl; rw [hstep, Nat.pow_zero, Nat.mul_one, ← hq, Nat.mod_mod]
    replace c1 := zH c1
    replace c2 := zH c2
    replace c3 := zH c3
    replace hstep1 := zH hstep1
    replace hstep0 := zH hstep0
    clear hstep hq ht hr hn
    go_wp2_with (first | (refine zLd ?_) | (refine zSt ?_))
    refine (c1.out _).mono ?_
    rintro e w_1 ⟨rfl, hb_1⟩
    have k1 := k1.below hb_1
    have k2 := k2.below hb_1
    have k3 := k3.below hb_1
    have k4 := k4.below hb_1
    have kb := bel kb hb_1
    clear hb_1
    go_upto_region 6 with (first | (refine zSt ?_))
    refine code_row k4 (fun w_2 k4 hoth hbel => ?_)
    have k1 := hoth _ _ zOm k1
    have k2 := hoth _ _ zOm k2
    have k3 := hoth _ _ zOm k3
    have kb := hbel _ _ zOm kb
    clear hoth hbel
    go_wp2_with (first | (refine zLd ?_))
    refine (c2.out _).mono ?_
    rintro e w_3 ⟨rfl, hb_3⟩
    have k1 := k1.below hb_3
    have k2 := k2.below hb_3
    have k3 := k3.below hb_3
    have k4 := k4.below hb_3
    have kb := bel kb hb_3
    clear hb_3
    by_cases h1 : t = 1
    · obtain rfl := h1
      go_wp2_with (first | (refine zLd ?_))
      refine (c3.out _).mono ?_
      rintro e w_4 ⟨rfl, hb_4⟩
      have k1 := k1.below hb_4
      have k2 := k2.below hb_4
      have k3 := k3.below hb_4
      have k4 := k4.below hb_4
      have kb := bel kb hb_4
      clear hb_4
      go_wp2_with (first | (refine zSt ?_))
      refine ⟨⟨m, r, by omega, by go_num, hstep1.out (by trivial), k1.row_other zOm _, k2.row_other zOm _, k3.row_other zOm _, k4.setRow _, below_setRow kb zOm _⟩, by simp [intOf]⟩
    · obtain rfl : t = 0 := by omega
      go_wp2_with fail
      exact ⟨⟨m, q, by omega, by go_num, hstep0.out (by trivial), k1, k2, k3, k4, kb⟩, by simp [intOf]⟩
theorem inverse_any (a : Nat) (ha : a < 18446744073709551616 ^ 4) (w : World) :
 Calls Tryz.prog 124 #[.agg (lims 4 a).toArray] w fun e w' => e = .returned (.agg (lims 4 (a ^ (pN - 2) % pN)).toArray) ∧ Below w.heap.size w w' := by
 have c1 := zH (fun w => prime_any w)
 have l2 : (lims 4 2).toArray = #[.int .u64 2, .int .u64 0, .int .u64 0, .int .u64 0] := lims_small 2 zDc
 have c2 := fun w => limSub_any pN 2 zDc w
 rw [borrow_all zDc zDc, if_neg zDc, show lims 4 (pN + 18446744073709551616 ^ 4 - 2) = lims 4 (pN - 2) from lims_mod _ _ ⟨1, by decide⟩, l2] at c2
 have c3 := zH (fun w => power_any a (pN - 2) ha zDc w)
 replace c2 := zH c2
 clear l2
 go_enter Tryz.func124, Tryz.ntmps124
 go_upto_region 1 with fail
 refine wp_new2 (fun W hsz k1 k2 kb => ?_)
 have k2 : Arr W (w.heap.size + 1) (lims 4 0) := k2
 go_wp2_with fail
 refine (c1.out _).mono ?_
 rintro e w_5 ⟨rfl, hb_5⟩
 have k1 := k1.below hb_5
 have k2 := k2.below hb_5
 have kb := bel kb hb_5
 clear hb_5
 go_wp2_with fail
 refine (c2.out _).mono ?_
 rintro e w_6 ⟨rfl, hb_6⟩
 have k1 := k1.below hb_6
 have k2 := k2.below hb_6
 have kb := bel kb hb_6
 clear hb_6
 go_upto_region 2 with (first | (refine zSt ?_))
 refine code_new (fun w9 k4 hb9 => ?_)
 have k1 := k1.below hb9
 have k2 := k2.below hb9
 have kb := bel kb hb9
 clear hb9
 go_wp2_with (first | (refine zLd ?_) | (refine zSt ?_))
 refine (c3.out _).mono ?_
 rintro e w_7 ⟨rfl, hb_7⟩
 have k2 := k2.below hb_7
 have kb := bel kb hb_7
 clear hb_7
 go_wp2_with (first | (refine zLd ?_) | (refine zSt ?_))
 exact bodyPost_ret (results_arr2 Tryz.results124 _ _ _ rfl zKr _ (by first | assumption | exact Arr.setRow zAm _) zLn) rfl ⟨rfl, below_setRow kb zOm _⟩
theorem p_lt32 (n : Nat) : n % pN < 256 ^ 32 := Nat.lt_trans (Nat.mod_lt _ pN_pos) zDc
theorem lim_of32 {n : Nat} (h : n < 256 ^ 32) : n < 18446744073709551616 ^ 4 := Nat.lt_of_lt_of_le h zDc
theorem run_part_int {P : Program} {e : TypeId} {k : IntKind} {i : TypeInfo} (he : P.underlying e = some (.int k)) (_ : P.info? e = some i) (xs : List Int) (j : Nat) (x : Int) (hj : xs[j]? = some x) (w : World) :
 (Go.part e (xs.map (Value.int k)).toArray j).run P w = .ok (.int k x) w := by
 have hagg : (isAgg e).run P w = .ok false w := by
  unfold isAgg
  rw [Sem.run_bind, run_underlying he w]
  simp
 simp [Go.part, Sem.run_bind, hagg, hj]
theorem run_eqItems_ints {P : Program} {e : TypeId} {k : IntKind} {i : TypeInfo} (he : P.underlying e = some (.int k)) (hi : P.info? e = some i) (d : Nat) (xs ys : List Int) (h : xs.length = ys.length) (w : World) :
 ∀ (m a : Nat), a + m = xs.length → (Op.eqItems (d + 1) e 1 (xs.map (Value.int k)).toArray (ys.map (Value.int k)).toArray (List.range' a m)).run P w = .ok (decide (xs.drop a = ys.drop a)) w
 | 0, a, hm => by
  rw [List.drop_of_length_le zOm, List.drop_of_length_le zOm]
  simp [Op.eqItems]
 | m + 1, a, hm => by
  have h1 : xs[a]? = some xs[a] := List.getElem?_eq_getElem zOm
  have h2 : ys[a]? = some ys[a] := List.getElem?_eq_getElem zOm
  rw [List.range'_succ, Op.eqItems]
  simp only [Sem.run_bind, Nat.mul_one, run_part_int he hi xs a _ h1 w, run_part_int he hi ys a _ h2 w, Result.andThen_ok, run_equalIn_int w d e k k xs[a] ys[a] he]
  have e3 : (xs.drop a = ys.drop a) ↔ (xs[a] = ys[a] ∧ xs.drop (a + 1) = ys.drop (a + 1)) := by
   rw [List.drop_eq_getElem_cons (by omega : a < xs.length), List.drop_eq_getElem_cons (by omega : a < ys.length), List.cons.injEq]
  have e4 : decide (xs.drop a = ys.drop a) = decide (xs[a] = ys[a] ∧ xs.drop (a + 1) = ys.drop (a + 1)) := decide_eq_decide.2 e3
  by_cases e : xs[a] = ys[a]
  · have ih := run_eqItems_ints he hi d xs ys h w m (a + 1) zOm
    rw [e4]
    simp [e, ih]
  · rw [e4]
    simp [e]
theorem run_eq_ints {P : Program} {t e : TypeId} {k : IntKind} {n : Nat} (hu : P.underlying t = some (.array n e)) (he : P.underlying e = some (.int k)) (hi : (P.info? e).isSome = true) (hc : P.cellsOf e = 1) (xs ys : List Int) (hx : xs.length = n) (hy : ys.length = n) (w : World) :
 (Op.equalIn 10000 t (.agg (xs.map (Value.int k)).toArray) (.agg (ys.map (Value.int k)).toArray)).run P w = .ok (decide (xs = ys)) w := by
 obtain ⟨i, hi⟩ := Option.isSome_iff_exists.1 hi
 rw [run_equalIn_array w 9999 _ _ hu hi, hc, List.range_eq_range', run_eqItems_ints he hi 9998 xs ys zOm w n 0 zOm]
 simp
theorem digs_inj {b k m n : Nat} (h : digs b k m = digs b k n) (hm : m < b ^ k) (hn : n < b ^ k) : m = n := by
 have e := congrArg (val b) h
 rwa [val_digs, val_digs, Nat.mod_eq_of_lt hm, Nat.mod_eq_of_lt hn] at e
theorem eq_byts (m n : Nat) (hm : m < 256 ^ 32) (hn : n < 256 ^ 32) (w : World) :
 (Op.equalIn 10000 34 (.agg (byts m).toArray) (.agg (byts n).toArray)).run Tryz.prog w = .ok (decide (m = n)) w := by
 have h := run_eq_ints (P := Tryz.prog) (t := 34) (e := 5) (k := .u8) (n := 32) Tryz.underlying34 Tryz.underlying5 zKr zKr ((digs 256 32 m).map Int.ofNat) ((digs 256 32 n).map Int.ofNat) (by simp [digs_len]) (by simp [digs_len]) w
 have e : ∀ k, ((digs 256 32 k).map Int.ofNat).map (Value.int .u8) = byts k := by intro k; simp only [byts, List.map_map]; rfl
 rw [e, e] at h
 have e2 : ((digs 256 32 m).map Int.ofNat = (digs 256 32 n).map Int.ofNat) = (m = n) := by
  refine propext ⟨fun h1 => digs_inj ((List.map_inj_right (fun a b h => Int.ofNat.inj h)).1 h1) hm hn, ?_⟩
  rintro rfl; rfl
 rw [h]
 simp only [e2]
end Go.Proofs.YtibdgkhkhmdihaaGreatDoor

/- Elementary number theory: prime numbers, the little theorem of Fermat, and a proof that 2^255 - 19 is prime. No condition. -/
namespace Go.Proofs.YtibdgkhkhmdihaaGreatDoor
open Go.RowKit
namespace Nt
def ch : Nat → Nat → Nat
 | _, 0 => 1
 | 0, _ + 1 => 0
 | n + 1, k + 1 => ch n k + ch n (k + 1)
def pm (n : Nat) : Nat → Nat → Nat → Nat → Nat
 | 0, _, _, acc => acc
 | fuel + 1, b, e, acc => pm n fuel (b * b % n) (e / 2) (if e % 2 = 1 then acc * b % n else acc)
theorem pm_eq (n : Nat) : ∀ fuel b e acc, e < 2 ^ fuel → pm n fuel b e acc % n = acc * b ^ e % n
 | 0, b, e, acc, h => by
  have : e = 0 := by simpa using h
  subst this; simp [pm]
 | fuel + 1, b, e, acc, h => by
  rw [pm, pm_eq n fuel _ _ _ (by rw [Nat.pow_succ] at h; omega)]
  have hb : (b * b % n) ^ (e / 2) % n = b ^ (2 * (e / 2)) % n := by
   rw [← Nat.pow_mod, Nat.pow_mul, Nat.pow_two]
  rw [Nat.mul_mod, hb, ← Nat.mul_mod]
  split
  · rename_i h1
    have e1 : e = 2 * (e / 2) + 1 := by omega
    rw [Nat.mul_mod, Nat.mod_mod, ← Nat.mul_mod]
    conv => rhs; rw [e1, Nat.pow_succ]
    congr 1; ac_rfl
  · rename_i h1
    have e1 : e = 2 * (e / 2) := by omega
    conv => rhs; rw [e1]
end Nt
namespace Nt
section
variable {p e h i : Nat}
def rtx (p e i a : Nat) : Nat := let x := a ^ e % p; if x * x % p = a then x else x * i % p
def rtok (p e i a : Nat) : Bool := rtx p e i a * rtx p e i a % p == a
def rtv (p e i a : Nat) : Nat := if rtok p e i a then (if rtx p e i a % 2 = 1 then p - rtx p e i a else rtx p e i a) else 0
theorem rtx_lt (hp : 0 < p) (a : Nat) : rtx p e i a < p := by
 unfold rtx; dsimp only; split <;> exact Nat.mod_lt _ hp
theorem rtv_lt (hp : 0 < p) (a : Nat) : rtv p e i a < p := by
 have hx := rtx_lt (e := e) (i := i) (p := p) hp a
 unfold rtv
 split
 · split <;> omega
 · exact hp
end
end Nt
def eN : Nat := 7237005577332262213973186563042994240829374041602535252466099000494570602494
def hN : Nat := 28948022309329048855892746252171976963317496166410141009864396001978282409974
def iN : Nat := 19681161376707505956807079304988542015446066515923890162744021073123829784752
theorem lims_e : (lims 4 eN).toArray = #[.int .u64 18446744073709551614, .int .u64 18446744073709551615, .int .u64 18446744073709551615, .int .u64 1152921504606846975] := by kernel_rfl
theorem lims_i : (lims 4 iN).toArray = #[.int .u64 14190309331451158704, .int .u64 3405592160176694392, .int .u64 3120150775007532967, .int .u64 3135389899092516619] := by kernel_rfl
theorem eq_lims (m n : Nat) (hm : m < 18446744073709551616 ^ 4) (hn : n < 18446744073709551616 ^ 4) (w : World) :
 (Op.equalIn 10000 127 (.agg (lims 4 m).toArray) (.agg (lims 4 n).toArray)).run Tryz.prog w = .ok (decide (m = n)) w := by
 have h := run_eq_ints (P := Tryz.prog) (t := 127) (e := 79) (k := .u64) (n := 4) Tryz.underlying127 Tryz.underlying79 zKr zKr ((digs 18446744073709551616 4 m).map Int.ofNat) ((digs 18446744073709551616 4 n).map Int.ofNat) (by simp [digs_len]) (by simp [digs_len]) w
 have e : ∀ k, ((digs 18446744073709551616 4 k).map Int.ofNat).map (Value.int .u64) = lims 4 k := by intro k; simp only [lims, List.map_map]; rfl
 rw [e, e] at h
 have e2 : ((digs 18446744073709551616 4 m).map Int.ofNat = (digs 18446744073709551616 4 n).map Int.ofNat) = (m = n) := by
  refine propext ⟨fun h1 => digs_inj ((List.map_inj_right (fun a b h => Int.ofNat.inj h)).1 h1) hm hn, ?_⟩
  rintro rfl; rfl
 rw [h]
 simp only [e2]
theorem rtok_def (a : Nat) : Nt.rtok pN eN iN a = decide (Nt.rtx pN eN iN a * Nt.rtx pN eN iN a % pN = a) := by
 unfold Nt.rtok
 rw [Bool.eq_iff_iff]
 simp
theorem square_any (a : Nat) (ha : a < pN) (w : World) :
 Calls Tryz.prog 238 #[.agg (lims 4 a).toArray] w fun e w' =>
  e = .returned (.tuple #[.agg (lims 4 (Nt.rtv pN eN iN a)).toArray, .bool (Nt.rtok pN eN iN a)]) ∧ Below w.heap.size w w' := by
 have hp4 : pN < 18446744073709551616 ^ 4 := by decide
 have ha4 : a < 18446744073709551616 ^ 4 := Nat.lt_trans ha hp4
 obtain ⟨x, hx⟩ : ∃ x, a ^ eN % pN = x := ⟨_, rfl⟩
 obtain ⟨s, hs⟩ : ∃ s, x * x % pN = s := ⟨_, rfl⟩
 obtain ⟨X, hX⟩ : ∃ X, Nt.rtx pN eN iN a = X := ⟨_, rfl⟩
 obtain ⟨q, hq⟩ : ∃ q, X * X % pN = q := ⟨_, rfl⟩
 have hok := rtok_def a
 rw [hX, hq] at hok
 have hv : Nt.rtv pN eN iN a = if Nt.rtok pN eN iN a then (if X % 2 = 1 then pN - X else X) else 0 := by unfold Nt.rtv; rw [hX]
 have hxl : x < 18446744073709551616 ^ 4 := hx ▸ p_lt4 _
 have hsl : s < 18446744073709551616 ^ 4 := hs ▸ p_lt4 _
 have hXp : X < pN := hX ▸ Nt.rtx_lt pN_pos a
 have hXl : X < 18446744073709551616 ^ 4 := Nat.lt_trans hXp hp4
 have hql : q < 18446744073709551616 ^ 4 := hq ▸ p_lt4 _
 have c0 := fun w => power_any a eN ha4 zDc w
 rw [hx] at c0
 have c1 := fun w => times_any x x hxl hxl w
 rw [hs] at c1
 have c2 := fun w => times_any X X hXl hXl w
 rw [hq] at c2
 have c3 := fun w => limBit_any X 0 zDc w
 rw [Nat.pow_zero, Nat.div_one] at c3
 have c4 : X % 2 = 1 → ∀ w, _ := fun hodd w => minus_any 0 X zDc hXp w
 have q1 := eq_lims s a hsl ha4
 have q2 := eq_lims q a hql ha4
 have l0 : (lims 4 0).toArray = #[.int .u64 0, .int .u64 0, .int .u64 0, .int .u64 0] := lims_small 0 zDc
 have hm : X % 2 = 1 → (0 + pN - X) % pN = pN - X := fun h => by rw [Nat.zero_add]; exact Nat.mod_eq_of_lt zOm
 have hXs : s = a → X = x := by
  intro h; rw [← hX]; unfold Nt.rtx; dsimp only; rw [hx, hs, if_pos h]
 have hXn : s ≠ a → x * iN % pN = X := by
  intro h; rw [← hX]; unfold Nt.rtx; dsimp only; rw [hx, hs, if_neg h]
 have c5 := fun w => times_any x iN hxl zDc w
 replace c0 := zH c0
 replace c1 := zH c1
 replace c2 := zH c2
 replace c3 := zH c3
 replace c4 := zH c4
 replace q1 := zH q1
 replace q2 := zH q2
 replace hm := zH hm
 replace l0 := zH l0
 replace hok := zH hok
 replace hv := zH hv
 clear hX hx hs hq
 generalize Nt.rtv pN eN iN a = R at hv ⊢
 generalize Nt.rtok pN eN iN a = B at hv hok ⊢
 go_enter Tryz.func238, Tryz.ntmps238
 go_upto_region 1 with fail
 refine wp_new2 (fun W hsz k1 k2 kb => ?_)
 have k2 : Arr W (w.heap.size + 1) (lims 4 0) := k2
 go_upto_region 3 with (first | (refine zLd ?_) | (refine zSt ?_))
 refine wp_new2 (fun W9 hsz9 k4 k5 hb9 => ?_)
 rw [← lims_e, hsz] at k4
 rw [← lims_i, hsz] at k5
 have k4 : Arr W9 (w.heap.size + 2) (lims 4 eN) := k4
 have k5 : Arr W9 (w.heap.size + 2 + 1) (lims 4 iN) := k5
 have k1 := k1.below hb9
 have k2 := k2.below hb9
 have kb := bel kb hb9
 clear hb9 hsz9
 go_wp2_with (first | (refine zLd ?_) | (refine zSt ?_))
 refine (c0.out _).mono ?_
 rintro e w_1 ⟨rfl, hb_1⟩
 have k1 := k1.below hb_1
 have k2 := k2.below hb_1
 have k4 := k4.below hb_1
 have k5 := k5.below hb_1
 have kb := bel kb hb_1
 clear hb_1
 go_upto_region 4 with (first | (refine zLd ?_) | (refine zSt ?_))
 have hg_k6_k1 := k1.lt
 have hg_k6_k2 := k2.lt
 have hg_k6_k4 := k4.lt
 have hg_k6_k5 := k5.lt
 refine code_new (fun w_2 k6 hnew => ?_)
 have k1 := k1.below hnew
 have k2 := k2.below hnew
 have k4 := k4.below hnew
 have k5 := k5.below hnew
 have kb := bel kb hnew
 clear hnew
 generalize (w_1).heap.size = g_k6 at k6 hg_k6_k1 hg_k6_k2 hg_k6_k4 hg_k6_k5 ⊢
 refine Tx.start (fun w' => Below (w_2).heap.size (w_2) w') 9999 5 rfl zKr ?_
 have hS_3 : Below (w_2).heap.size (w_2) (World.drew w_2) := (Below.refl _ _).drew
 refine Tx.seg (A := ?_) 2 11 zKr (by exact hS_3) [0, 1, 3] zKr ?_ ?_
 rotate_left
 · intro w' hB
   have e1 := k6.below hB
   have e2 := k1.below hB
   exact zRd
 refine Tx.eff 2 15 rfl zDk (fun K hK => ?_)
 go_simp
 refine (c1.out _).mono ?_
 rintro e w_4 ⟨rfl, hb_4⟩
 have hS_4 := ext_trans hS_3 (Nat.le_refl _) hb_4
 refine hK (fun w' => Below (w_2).heap.size (w_2) w') _ _ hS_4 (fun _ h => h) ?_
 clear hK K hb_4 hS_3
 try simp only [Act.put, zSa, zSz, zSs]
 refine Tx.seg (A := ?_) 0 31 zKr (by exact hS_4) [4] zKr ?_ ?_
 rotate_left
 · intro w' hB
   have e1 := q1.out w'
   exact zRd
 refine Tx.done zKr ?_
 have k1 := k1.below hS_4
 have k2 := k2.below hS_4
 have k4 := k4.below hS_4
 have k5 := k5.below hS_4
 have k6 := k6.below hS_4
 have kb := bel kb hS_4
 clear hS_4
 by_cases hsa : s = a
 · have hds : decide (s = a) = true := decide_eq_true hsa
   have hXs := hXs hsa
   rw [hds]
   replace hsa := zH hsa
   clear hds hXn
   subst hXs
   go_upto_region 6 with fail
   refine Tx.start (fun w' => Below (w_4).heap.size (w_4) w') 9999 5 rfl zKr ?_
   have hS_5 : Below (w_4).heap.size (w_4) (World.drew w_4) := (Below.refl _ _).drew
   refine Tx.seg (A := ?_) 2 11 zKr (by exact hS_5) [0, 1, 3] zKr ?_ ?_
   rotate_left
   · intro w' hB
     have e1 := k6.below hB
     have e2 := k1.below hB
     exact zRd
   refine Tx.eff 2 15 rfl zDk (fun K hK => ?_)
   go_simp
   refine (c2.out _).mono ?_
   rintro e w_6 ⟨rfl, hb_6⟩
   have hS_6 := ext_trans hS_5 (Nat.le_refl _) hb_6
   refine hK (fun w' => Below (w_4).heap.size (w_4) w') _ _ hS_6 (fun _ h => h) ?_
   clear hK K hb_6 hS_5
   try simp only [Act.put, zSa, zSz, zSs]
   refine Tx.seg (A := ?_) 0 31 zKr (by exact hS_6) [4] zKr ?_ ?_
   rotate_left
   · intro w' hB
     have e1 := q2.out w'
     exact zRd
   refine Tx.done zKr ?_
   have k1 := k1.below hS_6
   have k2 := k2.below hS_6
   have k6 := k6.below hS_6
   have kb := bel kb hS_6
   clear hS_6
   by_cases hqa : q = a
   · have hdq : decide (q = a) = true := decide_eq_true hqa
     rw [hdq]
     replace hqa := zH hqa
     clear hdq
     go_wp2_with (first | (refine zLd ?_))
     refine (c3.out _).mono ?_
     rintro e w_7 ⟨rfl, hb_7⟩
     have k1 := k1.below hb_7
     have k2 := k2.below hb_7
     have k6 := k6.below hb_7
     have kb := bel kb hb_7
     clear hb_7
     by_cases hodd : X % 2 = 1
     · have c4 := c4.out hodd
       have hm := hm.out hodd
       rw [hm, l0.out] at c4
       rw [hodd]
       replace c4 := zH c4
       have hodd' := zH hodd
       clear hm hodd
       go_wp2_with (first | (refine zLd ?_))
       refine (c4.out _).mono ?_
       rintro e w_8 ⟨rfl, hb_8⟩
       have k1 := k1.below hb_8
       have k2 := k2.below hb_8
       have k6 := k6.below hb_8
       have kb := bel kb hb_8
       clear hb_8
       go_upto_region 10 with (first | (refine zSt ?_))
       refine code_row k6 (fun w_9 k6 hoth hbel => ?_)
       have k2 := hoth _ _ zOm k2
       have kb := hbel _ _ zOm kb
       clear hoth hbel
       go_wp2_with (first | (refine zLd ?_) | (refine zSt ?_))
       exact bodyPost_ret (results_arr_tmp Tryz.results238 _ _ _ _ rfl Tryz.underlying127 rfl _ (k2.setRow _) (by first | (rw [lims_len]; kernel_rfl) | kernel_rfl) _ rfl) rfl ⟨by have h1 := hv.out; rw [hok.out, hqa.out, decide_eq_true rfl, if_pos rfl, if_pos hodd'.out] at h1; rw [h1, hok.out, hqa.out, decide_eq_true rfl]; rfl, below_setRow kb zOm _⟩
     · have hev : X % 2 = 0 := by omega
       rw [hev]
       have hodd' := zH hodd
       clear hodd hev
       go_wp2_with (first | (refine zLd ?_) | (refine zSt ?_))
       exact bodyPost_ret (results_arr_tmp Tryz.results238 _ _ _ _ rfl Tryz.underlying127 rfl _ (k2.setRow _) (by first | (rw [lims_len]; kernel_rfl) | kernel_rfl) _ rfl) rfl ⟨by have h1 := hv.out; rw [hok.out, hqa.out, decide_eq_true rfl, if_pos rfl, if_neg hodd'.out] at h1; rw [h1, hok.out, hqa.out, decide_eq_true rfl]; rfl, below_setRow kb zOm _⟩
   · have hdq : decide (q = a) = false := decide_eq_false hqa
     rw [hdq]
     replace hqa := zH hqa
     clear hdq
     go_wp2_with (first | (refine zLd ?_) | (refine zSt ?_))
     exact bodyPost_ret (results_arr_tmp Tryz.results238 _ _ _ _ rfl Tryz.underlying127 rfl _ (k2.setRow _) (by first | (rw [lims_len]; kernel_rfl) | kernel_rfl) _ rfl) rfl ⟨by have h1 := hv.out; rw [hok.out, decide_eq_false hqa.out, if_neg zDc] at h1; rw [h1, hok.out, decide_eq_false hqa.out]; rfl, below_setRow kb zOm _⟩
 · have hds : decide (s = a) = false := decide_eq_false hsa
   have hXn := hXn hsa
   rw [hds]
   rw [hXn] at c5
   replace hsa := zH hsa
   replace c5 := zH c5
   clear hds hXn
   go_wp2_with (first | (refine zLd ?_))
   refine (c5.out _).mono ?_
   rintro e w_10 ⟨rfl, hb_10⟩
   have k1 := k1.below hb_10
   have k2 := k2.below hb_10
   have k6 := k6.below hb_10
   have kb := bel kb hb_10
   clear hb_10
   go_upto_region 6 with (first | (refine zSt ?_))
   refine code_row k6 (fun w_11 k6 hoth hbel => ?_)
   have k1 := hoth _ _ zOm k1
   have k2 := hoth _ _ zOm k2
   have kb := hbel _ _ zOm kb
   clear hoth hbel
   refine Tx.start (fun w' => Below (w_11).heap.size (w_11) w') 9999 5 rfl zKr ?_
   have hS_12 : Below (w_11).heap.size (w_11) (World.drew w_11) := (Below.refl _ _).drew
   refine Tx.seg (A := ?_) 2 11 zKr (by exact hS_12) [0, 1, 3] zKr ?_ ?_
   rotate_left
   · intro w' hB
     have e1 := k6.below hB
     have e2 := k1.below hB
     exact zRd
   refine Tx.eff 2 15 rfl zDk (fun K hK => ?_)
   go_simp
   refine (c2.out _).mono ?_
   rintro e w_13 ⟨rfl, hb_13⟩
   have hS_13 := ext_trans hS_12 (Nat.le_refl _) hb_13
   refine hK (fun w' => Below (w_11).heap.size (w_11) w') _ _ hS_13 (fun _ h => h) ?_
   clear hK K hb_13 hS_12
   try simp only [Act.put, zSa, zSz, zSs]
   refine Tx.seg (A := ?_) 0 31 zKr (by exact hS_13) [4] zKr ?_ ?_
   rotate_left
   · intro w' hB
     have e1 := q2.out w'
     exact zRd
   refine Tx.done zKr ?_
   have k1 := k1.below hS_13
   have k2 := k2.below hS_13
   have k6 := k6.below hS_13
   have kb := bel kb hS_13
   clear hS_13
   by_cases hqa : q = a
   · have hdq : decide (q = a) = true := decide_eq_true hqa
     rw [hdq]
     replace hqa := zH hqa
     clear hdq
     go_wp2_with (first | (refine zLd ?_))
     refine (c3.out _).mono ?_
     rintro e w_14 ⟨rfl, hb_14⟩
     have k1 := k1.below hb_14
     have k2 := k2.below hb_14
     have k6 := k6.below hb_14
     have kb := bel kb hb_14
     clear hb_14
     by_cases hodd : X % 2 = 1
     · have c4 := c4.out hodd
       have hm := hm.out hodd
       rw [hm, l0.out] at c4
       rw [hodd]
       replace c4 := zH c4
       have hodd' := zH hodd
       clear hm hodd
       go_wp2_with (first | (refine zLd ?_))
       refine (c4.out _).mono ?_
       rintro e w_15 ⟨rfl, hb_15⟩
       have k1 := k1.below hb_15
       have k2 := k2.below hb_15
       have k6 := k6.below hb_15
       have kb := bel kb hb_15
       clear hb_15
       go_upto_region 10 with (first | (refine zSt ?_))
       refine code_row k6 (fun w_16 k6 hoth hbel => ?_)
       have k2 := hoth _ _ zOm k2
       have kb := hbel _ _ zOm kb
       clear hoth hbel
       go_wp2_with (first | (refine zLd ?_) | (refine zSt ?_))
       exact bodyPost_ret (results_arr_tmp Tryz.results238 _ _ _ _ rfl Tryz.underlying127 rfl _ (k2.setRow _) (by first | (rw [lims_len]; kernel_rfl) | kernel_rfl) _ rfl) rfl ⟨by have h1 := hv.out; rw [hok.out, hqa.out, decide_eq_true rfl, if_pos rfl, if_pos hodd'.out] at h1; rw [h1, hok.out, hqa.out, decide_eq_true rfl]; rfl, below_setRow kb zOm _⟩
     · have hev : X % 2 = 0 := by omega
       rw [hev]
       have hodd' := zH hodd
       clear hodd hev
       go_wp2_with (first | (refine zLd ?_) | (refine zSt ?_))
       exact bodyPost_ret (results_arr_tmp Tryz.results238 _ _ _ _ rfl Tryz.underlying127 rfl _ (k2.setRow _) (by first | (rw [lims_len]; kernel_rfl) | kernel_rfl) _ rfl) rfl ⟨by have h1 := hv.out; rw [hok.out, hqa.out, decide_eq_true rfl, if_pos rfl, if_neg hodd'.out] at h1; rw [h1, hok.out, hqa.out, decide_eq_true rfl]; rfl, below_setRow kb zOm _⟩
   · have hdq : decide (q = a) = false := decide_eq_false hqa
     rw [hdq]
     replace hqa := zH hqa
     clear hdq
     go_wp2_with (first | (refine zLd ?_) | (refine zSt ?_))
     exact bodyPost_ret (results_arr_tmp Tryz.results238 _ _ _ _ rfl Tryz.underlying127 rfl _ (k2.setRow _) (by first | (rw [lims_len]; kernel_rfl) | kernel_rfl) _ rfl) rfl ⟨by have h1 := hv.out; rw [hok.out, decide_eq_false hqa.out, if_neg zDc] at h1; rw [h1, hok.out, decide_eq_false hqa.out]; rfl, below_setRow kb zOm _⟩
theorem byts_lit (v : Nat) (hv : v < 256) : (byts v).toArray = #[.int .u8 (v : Int), .int .u8 0, .int .u8 0, .int .u8 0, .int .u8 0, .int .u8 0, .int .u8 0, .int .u8 0, .int .u8 0, .int .u8 0, .int .u8 0, .int .u8 0, .int .u8 0, .int .u8 0, .int .u8 0, .int .u8 0, .int .u8 0, .int .u8 0, .int .u8 0, .int .u8 0, .int .u8 0, .int .u8 0, .int .u8 0, .int .u8 0, .int .u8 0, .int .u8 0, .int .u8 0, .int .u8 0, .int .u8 0, .int .u8 0, .int .u8 0, .int .u8 0] := by
 have e : ∀ i, 0 < i → v / 256 ^ i % 256 = 0 := by
  intro i hi
  obtain ⟨j, rfl⟩ : ∃ j, i = j + 1 := ⟨i - 1, by omega⟩
  rw [Nat.pow_succ, Nat.mul_comm, ← Nat.div_div_eq_div_mul, Nat.div_eq_of_lt hv, Nat.zero_div]
 simp only [byts, digs, show List.range 32 = 0 :: (List.range' 1 31) from by decide, List.map_cons, List.map_map, Nat.pow_zero, Nat.div_one, Nat.mod_eq_of_lt hv]
 rw [show List.map ((fun (x : Nat) => Value.int IntKind.u8 (x : Int)) ∘ fun i => v / 256 ^ i % 256) (List.range' 1 31) = List.map (fun _ => Value.int .u8 0) (List.range' 1 31) from List.map_congr_left (fun i hi => by
  simp only [List.mem_range'_1] at hi
  simp only [Function.comp_apply, e i zOm]
  rfl)]
 rfl
theorem byts_0 : (byts 0).toArray = #[.int .u8 0, .int .u8 0, .int .u8 0, .int .u8 0, .int .u8 0, .int .u8 0, .int .u8 0, .int .u8 0, .int .u8 0, .int .u8 0, .int .u8 0, .int .u8 0, .int .u8 0, .int .u8 0, .int .u8 0, .int .u8 0, .int .u8 0, .int .u8 0, .int .u8 0, .int .u8 0, .int .u8 0, .int .u8 0, .int .u8 0, .int .u8 0, .int .u8 0, .int .u8 0, .int .u8 0, .int .u8 0, .int .u8 0, .int .u8 0, .int .u8 0, .int .u8 0] := byts_lit 0 zDc
theorem eq_num0 {m : Nat} {b : Bool} (hb : decide (m = 0) = b) (hm : m < 256 ^ 32) (w : World) :
 (Op.equalIn 10000 34 (.agg (byts m).toArray) (.agg #[.int .u8 0, .int .u8 0, .int .u8 0, .int .u8 0, .int .u8 0, .int .u8 0, .int .u8 0, .int .u8 0, .int .u8 0, .int .u8 0, .int .u8 0, .int .u8 0, .int .u8 0, .int .u8 0, .int .u8 0, .int .u8 0, .int .u8 0, .int .u8 0, .int .u8 0, .int .u8 0, .int .u8 0, .int .u8 0, .int .u8 0, .int .u8 0, .int .u8 0, .int .u8 0, .int .u8 0, .int .u8 0, .int .u8 0, .int .u8 0, .int .u8 0, .int .u8 0])).run Tryz.prog w = .ok b w := by
 have := eq_byts m 0 hm zDc w
 rw [byts_0, hb] at this
 exact this
end Go.Proofs.YtibdgkhkhmdihaaGreatDoor
