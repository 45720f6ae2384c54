/- limb: Mul. -/
import Derived.Test.YtpjkhedodlnloaaLm6
import Derived.Deep.QuietTactic
import Derived.BigQuiet
namespace Go.Proofs.Ytpjkhedodlnloaa
open Go.RowKit

set_option maxHeartbeats 1000000 in
set_option maxRecDepth 100000 in
theorem limMul_any (a b : Nat) (hb : b < 18446744073709551616 ^ 4) (w : World) :
    Calls Try.prog 33 #[.agg (lims 4 a).toArray, .agg (lims 4 b).toArray] w fun e w' =>
      e = .returned (.agg (lims 8 (a % 18446744073709551616 ^ 4 * b)).toArray) ∧ Below w.heap.size w w' := by
  go_enter Try.func33, Try.ntmps33
  go_upto_region 2 with fail
  refine wp_new4 (fun W hsz h1 h2 h3 h4 hb0 => ?_)
  go_wp2_with fail
  go_loopw [12] (fun kv wr => ∃ (k : Nat) (ds : List Nat), k ≤ 4 ∧ kv = .int .i64 k ∧ Arr wr w.heap.size (lims 4 a) ∧ Arr wr (w.heap.size + 1) (lims 4 b) ∧ Arr wr (w.heap.size + 1 + 1) (List.replicate 8 (.int .u64 0)) ∧ Arr wr (w.heap.size + 1 + 1 + 1) (us ds) ∧ Below w.heap.size w wr ∧
      ds.length = 8 ∧ (∀ d ∈ ds, d < 18446744073709551616) ∧ val 18446744073709551616 ds = a % 18446744073709551616 ^ k * b ∧ (∀ p, k + 4 ≤ p → p < 8 → ds[p]? = some 0)) (fun kv _ => 4 - (intOf kv).toNat)
  case atStart => exact ⟨0, List.replicate 8 0, Nat.zero_le _, rfl, h1, h2, h3, h4, hb0, rfl, by simp, by rw [val_zeros, Nat.pow_zero, Nat.mod_one, Nat.zero_mul], fun p h0 hp => by rw [List.getElem?_replicate, if_pos hp]⟩
  case round =>
    obtain ⟨k, ds, hk, rfl, k1, k2, k3, k4, kb, hlen, hlt, hval, hz⟩ := hrel
    clear h1 h2 h3 h4 hb0 hsz
    by_cases hlt4 : k < 4
    · have hdk : decide ((k : Int) < 4) = true := by simp; omega
      obtain ⟨x, hx⟩ : ∃ x, a / 18446744073709551616 ^ k % 18446744073709551616 = x := ⟨_, rfl⟩
      have hxl : x < 18446744073709551616 := by rw [← hx]; exact Nat.mod_lt _ (by decide)
      have hx' := Lib.hid hx
      have hval' := Lib.hid hval
      have hz' := Lib.hid hz
      have hlen' := Lib.hid hlen
      have hlt' := Lib.hid hlt
      clear hval hz hlen hlt
      go_wp2_with fail
      go_loopw [7, 15] (fun cv jv wr => ∃ (j c : Nat) (es : List Nat), j ≤ 4 ∧ c < 18446744073709551616 ∧ cv = .int .u64 (c : Int) ∧ jv = .int .i64 j ∧ Arr wr w.heap.size (lims 4 a) ∧ Arr wr (w.heap.size + 1) (lims 4 b) ∧ Arr wr (w.heap.size + 1 + 1) (List.replicate 8 (.int .u64 0)) ∧ Arr wr (w.heap.size + 1 + 1 + 1) (us es) ∧ Below w.heap.size w wr ∧
          es.length = 8 ∧ (∀ d ∈ es, d < 18446744073709551616) ∧ val 18446744073709551616 es + 18446744073709551616 ^ (k + j) * c = a % 18446744073709551616 ^ k * b + 18446744073709551616 ^ k * (x * (b % 18446744073709551616 ^ j)) ∧ (∀ p, k + 4 ≤ p → p < 8 → es[p]? = some 0)) (fun _ jv _ => 4 - (intOf jv).toNat)
      case atStart => exact ⟨0, 0, ds, Nat.zero_le _, by decide, rfl, rfl, k1, k2, k3, k4, kb, hlen'.out, hlt'.out, by rw [hval'.out, Nat.pow_zero, Nat.mod_one, Nat.mul_zero, Nat.mul_zero, Nat.mul_zero], hz'.out⟩
      case round =>
        obtain ⟨j, c, es, hj, hc, rfl, rfl, j1, j2, j3, j4, jb, jlen, jlt, jval, jz⟩ := hrel
        clear k1 k2 k3 k4 kb hlen' hlt' hval' hz'
        by_cases hj4 : j < 4
        · obtain ⟨y, hy⟩ : ∃ y, b / 18446744073709551616 ^ j % 18446744073709551616 = y := ⟨_, rfl⟩
          have hyl : y < 18446744073709551616 := by rw [← hy]; exact Nat.mod_lt _ (by decide)
          have ha := j1.cell (lims_get 4 a k hlt4)
          have hbb := j2.cell (lims_get 4 b j hj4)
          rw [hx] at ha
          rw [hy] at hbb
          obtain ⟨d, hd⟩ : ∃ d, es[k + j]? = some d := ⟨_, List.getElem?_eq_getElem (by omega)⟩
          have hdl : d < 18446744073709551616 := jlt d (List.mem_of_getElem? hd)
          have hdc := j4.cell (us_get es (k + j) d hd)
          have hfr := j4.frozen (k + j)
          have hy' := Lib.hid hy
          have hd' := Lib.hid hd
          have jlen' := Lib.hid jlen
          have jlt' := Lib.hid jlt
          have jval' := Lib.hid jval
          have jz' := Lib.hid jz
          clear hx hy hd jlen jlt jval jz
          obtain ⟨p0, hp0⟩ : ∃ p, x * y % 18446744073709551616 = p := ⟨_, rfl⟩
          obtain ⟨p1, hp1⟩ : ∃ p, x * y / 18446744073709551616 = p := ⟨_, rfl⟩
          obtain ⟨s1, hs1⟩ : ∃ p, (p0 + d) % 18446744073709551616 = p := ⟨_, rfl⟩
          obtain ⟨t1, ht1⟩ : ∃ p, (p0 + d) / 18446744073709551616 = p := ⟨_, rfl⟩
          obtain ⟨s2, hs2⟩ : ∃ p, (s1 + c) % 18446744073709551616 = p := ⟨_, rfl⟩
          obtain ⟨t2, ht2⟩ : ∃ p, (s1 + c) / 18446744073709551616 = p := ⟨_, rfl⟩
          have hxy : x * y ≤ 18446744073709551615 * 18446744073709551615 := Nat.mul_le_mul (by omega) (by omega)
          have hm := fun w => mul64 x y hxl hyl w
          rw [hp0, hp1] at hm
          have a1 := fun w => add64z p0 d w
          rw [hs1, ht1] at a1
          have a2 := fun w => add64z s1 c w
          rw [hs2, ht2] at a2
          have hm := Lib.hid hm
          have a1 := Lib.hid a1
          have a2 := Lib.hid a2
          have q0 : p0 < 18446744073709551616 := by omega
          have q1 : p1 + t1 + t2 < 18446744073709551616 := by omega
          have hst : s2 + 18446744073709551616 * (p1 + t1 + t2) = x * y + d + c := by omega
          have hs2l : s2 < 18446744073709551616 := by omega
          have hst := Lib.hid hst
          clear hp0 hp1 hs1 ht1 hs2 ht2 hxy
          have ik0 : (0 : Int) ≤ (k : Int) := by omega
          have ik4 : (k : Int) < 4 := by omega
          have ij0 : (0 : Int) ≤ (j : Int) := by omega
          have ij4 : (j : Int) < 4 := by omega
          go_upto_region 9 with fail
          refine Txt.start ((fun w' => w' = wr.drew)) 12 rfl (by kernel_rfl) ?_
          refine Txt.seg (A := ?_) 6 63 (by kernel_rfl) (by exact rfl) [0, 1, 2, 3, 4, 5] (by kernel_rfl) ?_ ?_
          rotate_left
          · intro w' hB
            subst hB
            iterate 6 (first | (refine rd_skip rfl rfl ?_; simp only [Act.put, List.setIfInBounds_toArray, List.set_cons_zero, List.set_cons_succ]) | fail | (refine rd_take (v := ?_) rfl rfl ?_ ?_; rotate_left; (focus (go_simp; try (with_reducible rfl))); simp only [Act.put, List.setIfInBounds_toArray, List.set_cons_zero, List.set_cons_succ]) | (refine rd_take (v := ?_) rfl rfl ?_ ?_; rotate_left; (focus (try go_simp); fail)))
            exact rd_nil
          refine Txt.eff 6 127 rfl (by decide +kernel) (fun K hK => ?_)
          go_simp
          refine (hm.out _).mono ?_
          rintro e w1 ⟨rfl, rfl⟩
          refine hK (fun w' => w' = wr.drew) _ _ rfl (fun _ h => h) ?_
          clear hK
          try simp only [Act.put, List.setIfInBounds_toArray, List.set_cons_zero, List.set_cons_succ]
          refine Txt.seg (A := ?_) 0 4095 (by kernel_rfl) (by exact rfl) [7, 8, 9, 10, 11] (by kernel_rfl) ?_ ?_
          rotate_left
          · intro w' hB
            subst hB
            iterate 5 (first | (refine rd_skip rfl rfl ?_; simp only [Act.put, List.setIfInBounds_toArray, List.set_cons_zero, List.set_cons_succ]) | fail | (refine rd_take (v := ?_) rfl rfl ?_ ?_; rotate_left; (focus (go_simp; try (with_reducible rfl))); simp only [Act.put, List.setIfInBounds_toArray, List.set_cons_zero, List.set_cons_succ]) | (refine rd_take (v := ?_) rfl rfl ?_ ?_; rotate_left; (focus (try go_simp); fail)))
            exact rd_nil
          refine Txt.done (by kernel_rfl) ?_
          go_wp2_with (simp only [a1.out, a2.out])
          go_roundw
          case rel =>
            refine ⟨j + 1, p1 + t1 + t2, es.set (k + j) s2, by omega, q1, by go_num, by go_num, j1.other (by simp; omega) _, j2.other (by simp) _, j3.other (by simp) _, ?_, (jb.drew).setCell (by simp; omega) _, by rw [List.length_set]; exact jlen'.out, set_lt jlt'.out hs2l, ?_, ?_⟩
            · have := j4.set (k + j) (.int .u64 (s2 : Int))
              rw [us_set] at this
              exact this
            · have h1 := val_set 18446744073709551616 es (k + j) d s2 hd'.out
              have h2 := jval'.out
              have h3 := hst.out
              have h4 := mod_pow_succ' 18446744073709551616 j b
              rw [hy'.out] at h4
              rw [h4, ← Nat.add_assoc, Nat.pow_succ]
              rw [Nat.pow_add] at h1 h2 ⊢
              clear h4 hm a1 a2 jlen' jlt' jval' jz' hst hd' hy' j1 j2 j3 j4 jb ha hbb hdc hfr
              generalize val 18446744073709551616 (es.set (k + j) s2) = V' at *
              generalize val 18446744073709551616 es = V at *
              generalize 18446744073709551616 ^ j = J at *
              generalize a % 18446744073709551616 ^ k * b = A at *
              generalize 18446744073709551616 ^ k = K at *
              generalize b % J = m at *
              generalize p1 + t1 + t2 = t at *
              have h5 := congrArg (K * J * ·) h3
              simp only [Nat.mul_add] at h5 ⊢
              have e1 : K * J * 18446744073709551616 * t = K * J * (18446744073709551616 * t) := by rw [Nat.mul_assoc (K * J)]
              have e2 : K * (x * (J * y)) = K * J * (x * y) := by rw [Nat.mul_assoc K J, Nat.mul_left_comm x J y]
              omega
            · intro p h1 h2
              rw [List.getElem?_set_ne (by omega)]
              exact jz'.out p h1 h2
          case measure => simp [intOf]; omega
        · obtain rfl : j = 4 := by omega
          have hjf : decide ((4 : Int) < 4) = false := by decide
          have hcd := jz (k + 4) (by omega) (by omega)
          have hd0 := j4.cell (us_get es (k + 4) 0 hcd)
          have hfr := j4.frozen (k + 4)
          have jlen' := Lib.hid jlen
          have jlt' := Lib.hid jlt
          have jval' := Lib.hid jval
          have jz' := Lib.hid jz
          have hcd' := Lib.hid hcd
          clear hx jlen jlt jval jz hcd
          go_wp2_with fail
          go_roundw
          case rel =>
            refine ⟨k + 1, es.set (k + 4) c, by omega, by go_num, j1.other (by simp; omega) _, j2.other (by simp) _, j3.other (by simp) _, ?_, jb.setCell (by simp; omega) _, by rw [List.length_set]; exact jlen'.out, set_lt jlt'.out hc, ?_, ?_⟩
            · have := j4.set (k + 4) (.int .u64 (c : Int))
              rw [us_set] at this
              exact this
            · have h1 := val_set 18446744073709551616 es (k + 4) 0 c hcd'.out
              have h2 := jval'.out
              have h4 := mod_pow_succ' 18446744073709551616 k a
              rw [hx'.out] at h4
              rw [Nat.mod_eq_of_lt hb] at h2
              rw [h4, Nat.add_mul, Nat.mul_assoc]
              omega
            · intro p h1 h2
              rw [List.getElem?_set_ne (by omega)]
              exact jz'.out p (by omega) h2
          case measure => simp [intOf]; omega
    · obtain rfl : k = 4 := by omega
      have e : us ds = lims 8 (a % 18446744073709551616 ^ 4 * b) := by
        have := digs_val 18446744073709551616 (by decide) ds hlt
        rw [hlen, hval] at this
        rw [lims_us, this]
      rw [e] at k4
      clear hb hz hval hlt hlen e
      go_wp2_with (first | (refine wpList_load_arr rfl 55 _ rfl (w.heap.size + 1 + 1 + 1) rfl _ Try.underlying55 rfl _ k4 (by rw [lims_len]; kernel_rfl) ?_) | (refine wpList_store_arr rfl 55 _ _ rfl (w.heap.size + 1 + 1) (lims 8 (a % 18446744073709551616 ^ 4 * b)) rfl rfl _ k3 (by rw [lims_len]; kernel_rfl) (by rw [lims_len]; rfl) (lims_one _ _) ?_))
      refine bodyPost_ret (v := .agg (lims 8 (a % 18446744073709551616 ^ 4 * b)).toArray) (results_arr Try.results33 _ _ (w.heap.size + 1 + 1) _ rfl Try.underlying55 rfl _ (k3.setRow _) (by rw [lims_len]; kernel_rfl)) rfl ⟨rfl, below_setRow kb (by omega) _⟩

end Go.Proofs.Ytpjkhedodlnloaa
