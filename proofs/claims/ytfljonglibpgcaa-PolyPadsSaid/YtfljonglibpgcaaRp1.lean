/- Reference of poly: carried, times. -/
import Derived.Test.YtfljonglibpgcaaPm
import Derived.Test.YtfljonglibpgcaaBt
import Derived.Test.YtfljonglibpgcaaTy
namespace Go.Proofs.Ytfljonglibpgcaa
open Go.RowKit

theorem and_3 (x : Int) : bits .and .i64 x 3 = x % 4 := and_i64_mask x 2 (by decide) 3 (by decide)

def topL (V : Nat) : List Nat := digs 256 16 V ++ [V / 2 ^ 128 % 4]
/-- What one pass leaves of a number. -/
def passL (V : Nat) : List Nat := (topL V).set 0 (V % 256 + 5 * (V / 2 ^ 130))
def pseq (xs : List Nat) : Nat → List Nat
  | 0 => xs
  | p + 1 => passL (val 256 (pseq xs p))

theorem topL_len (V : Nat) : (topL V).length = 17 := by simp [topL, digs_len]
theorem passL_len (V : Nat) : (passL V).length = 17 := by simp [passL, topL_len]
theorem topL_get {V i : Nat} (h : i < 16) : (topL V)[i]? = some (V / 256 ^ i % 256) := by
  rw [topL, List.getElem?_append_left (by rw [digs_len]; exact h), digs_get _ _ _ _ h]
theorem topL_val (V : Nat) : val 256 (topL V) = V % 2 ^ 130 := by
  rw [topL, val_append, val_digs, digs_len, val, val]
  omega
theorem passL_val (V : Nat) : val 256 (passL V) = fold13 V := by
  have := val_set 256 (topL V) 0 _ (V % 256 + 5 * (V / 2 ^ 130)) (topL_get (by decide))
  rw [topL_val] at this
  unfold passL fold13
  omega
theorem topL_le (V : Nat) : Le 255 (topL V) := by
  intro m
  rw [List.getD_eq_getElem?_getD]
  cases h : (topL V)[m]? with
  | none => simp
  | some d =>
    have hd := List.mem_of_getElem? h
    rw [topL] at hd
    rcases List.mem_append.1 hd with hd | hd
    · have := digs_lt 256 16 V (by decide) d hd; simp; omega
    · simp at hd; simp; omega
theorem passL_le {V : Nat} (h : V < 2 ^ 130 * 2 ^ 45) : Le (2 ^ 48) (passL V) := by
  intro m
  have h1 := topL_le V m
  rw [List.getD_eq_getElem?_getD] at h1
  rw [passL, List.getD_eq_getElem?_getD, List.getElem?_set]
  split
  · split
    · simp; omega
    · simp
  · omega
theorem passL_low {V : Nat} (h : V < 2 ^ 130) : passL V = digs 256 17 V := by
  have e : topL V = digs 256 17 V := by
    rw [topL, digs, digs, show List.range 17 = List.range 16 ++ [16] from rfl, List.map_append]
    congr 1
    simp only [List.map_cons, List.map_nil]
    rw [show V / 2 ^ 128 % 4 = V / 256 ^ 16 % 256 by omega]
  rw [passL, e]
  apply List.ext_getElem?
  intro j
  rw [List.getElem?_set]
  split
  · rename_i h0
    subst h0
    rw [if_pos (by rw [digs_len]; decide), digs_get _ _ _ _ (by decide)]
    congr 1
    omega
  · rfl

theorem pseq_len {xs : List Nat} (h : xs.length = 17) : ∀ p, (pseq xs p).length = 17
  | 0 => h
  | _ + 1 => passL_len _
theorem pseq_lt {xs : List Nat} (h : val 256 xs < 2 ^ 130 * 2 ^ 45) : ∀ p, val 256 (pseq xs p) < 2 ^ 130 * 2 ^ 45
  | 0 => h
  | p + 1 => by rw [pseq, passL_val]; exact Nat.lt_of_le_of_lt (fold13_le _) (pseq_lt h p)
theorem pseq_le {xs : List Nat} (hl : Le (2 ^ 48) xs) (h : val 256 xs < 2 ^ 130 * 2 ^ 45) : ∀ p, Le (2 ^ 48) (pseq xs p)
  | 0 => hl
  | p + 1 => passL_le (pseq_lt h p)
theorem pseq_three {xs : List Nat} (h : val 256 xs < 2 ^ 130 * 2 ^ 45) : pseq xs 3 = digs 256 17 (fold13 (fold13 (val 256 xs))) := by
  rw [pseq, pseq, passL_val, pseq, passL_val, pseq]
  exact passL_low (fold13_two (Nat.lt_trans h (by decide)))

theorem val_top {ys : List Nat} (h : ys.length = 17) : val 256 (ys.take 16) / 256 ^ 16 + ys.getD 16 0 = val 256 ys / 2 ^ 128 := by
  have h2 := val_split 256 ys 17 (by omega)
  rw [List.drop_of_length_le (by omega), val, Nat.mul_zero, Nat.add_zero, val_take_succ (by omega)] at h2
  rw [h2, show (2 : Nat) ^ 128 = 256 ^ 16 by decide, Nat.add_mul_div_left _ _ (by decide)]

set_option maxHeartbeats 4000000 in
set_option maxRecDepth 100000 in
theorem rcarried_any (xs : List Nat) (hl : xs.length = 17) (hle : Le (2 ^ 48) xs) (hv : val 256 xs < 2 ^ 130 * 2 ^ 45) (w : World) :
    Calls Try.prog 24 #[.agg (ens xs).toArray] w fun e w' => e = .returned (.agg (ens (digs 256 17 (fold13 (fold13 (val 256 xs))))).toArray) ∧ Below w.heap.size w w' := by
  have h3 := pseq_three hv
  have hlen := fun p => pseq_len hl p
  have hles := fun p => pseq_le hle hv p
  have hlts := fun p => pseq_lt hv p
  have hk0 : (ens xs) = ens (pseq xs 0) := rfl
  have hsucc : ∀ p, pseq xs (p + 1) = passL (val 256 (pseq xs p)) := fun p => rfl
  have hel : ∀ p, (ens (pseq xs p)).length = 17 := fun p => by rw [ens_len]; exact hlen p
  have h3' : ∀ p, p = 3 → pseq xs p = digs 256 17 (fold13 (fold13 (val 256 xs))) := by rintro p rfl; exact h3
  obtain ⟨F, hF⟩ : ∃ F, digs 256 17 (fold13 (fold13 (val 256 xs))) = F := ⟨_, rfl⟩
  rw [hF] at h3' ⊢
  generalize pseq xs = ps at *
  rw [hk0]
  clear hl hle hv h3 hF hk0
  replace hlen := Lib.hid hlen
  replace hles := Lib.hid hles
  replace hlts := Lib.hid hlts
  replace hsucc := Lib.hid hsucc
  replace h3' := Lib.hid h3'
  replace hel := Lib.hid hel
  go_enter Try.func24, Try.ntmps24
  go_upto_region 1 with fail
  refine wp_new2 (fun W hsz k1 k2 kb => ?_)
  have k2 : Arr W (w.heap.size + 1) (ens (List.replicate 17 0)) := k2
  have lt1 := k1.lt
  clear hsz
  go_wp2_with fail
  go_loopw [3] (fun pv wr => ∃ p : Nat, p ≤ 3 ∧ pv = .int .i64 p ∧ Arr wr w.heap.size (ens (ps p)) ∧ Arr wr (w.heap.size + 1) (ens (List.replicate 17 0)) ∧ Below w.heap.size w wr) (fun pv _ => 3 - (intOf pv).toNat)
  case atStart => exact ⟨0, by omega, rfl, k1, k2, kb⟩
  case round =>
    clear k1 k2 kb
    obtain ⟨p, hp, rfl, k1, k2, kb⟩ := hrel
    by_cases hlt : p < 3
    · have hsu := hsucc.out p
      have hl := hlen.out p
      have hle := hles.out p
      have hv := hlts.out p
      obtain ⟨ys, hys⟩ : ∃ ys, ps p = ys := ⟨_, rfl⟩
      rw [hys] at hsu hl hle hv k1
      have hst := fun k (hk : k < 16) => val_step ys (k := k) (by omega)
      have htop := val_top hl
      obtain ⟨V, hV⟩ : ∃ V, val 256 ys = V := ⟨_, rfl⟩
      rw [hV] at hsu hv hst htop
      have hll : (topL V).length = ys.length := by rw [topL_len, hl]
      have hm0 := mixl_zero (topL V) ys
      clear hV hys
      rw [← hm0] at k1
      have z0 : val 256 (ys.take 0) / 256 ^ 0 = 0 := by simp [val]
      replace hsu := Lib.hid hsu
      replace hl := Lib.hid hl
      replace hle := Lib.hid hle
      replace hst := Lib.hid hst
      replace htop := Lib.hid htop
      replace hll := Lib.hid hll
      replace z0 := Lib.hid z0
      clear hm0
      have hv2 : V / 2 ^ 130 < 35184372088832 := by omega
      have hv3 : V / 2 ^ 128 < 140737488355328 := by omega
      clear hv
      replace hv2 := Lib.hid hv2
      replace hv3 := Lib.hid hv3
      go_wp2_with fail
      go_loopw [5, 4] (fun iv cv wr => ∃ i c : Nat, i ≤ 16 ∧ iv = .int .i64 i ∧ cv = .int .i64 c ∧ val 256 (ys.take i) / 256 ^ i = c ∧ c ≤ 281474976710656 ∧ Arr wr w.heap.size (ens (mixl i (topL V) ys)) ∧ Arr wr (w.heap.size + 1) (ens (List.replicate 17 0)) ∧ Below w.heap.size w wr) (fun iv _ _ => 16 - (intOf iv).toNat)
      case atStart => exact ⟨0, 0, by omega, rfl, rfl, z0.out, by omega, k1, k2, kb⟩
      case round =>
        clear k1 k2 kb
        obtain ⟨i, c, hi, rfl, rfl, hc, hcb, k1, k2, kb⟩ := hrel
        by_cases hlti : i < 16
        · obtain ⟨x, hx⟩ : ∃ x, ys.getD i 0 = x := ⟨_, rfl⟩
          have hbx : x ≤ 281474976710656 := by have := hle.out i; omega
          obtain ⟨hd, hs⟩ := hst.out i hlti
          rw [hc, hx] at hd hs
          have gx : (mixl i (topL V) ys)[i]? = some x := by
            rw [mixl_get hll.out (by rw [hl.out]; omega), if_neg (Nat.lt_irrefl i), getD_getN (by rw [hl.out]; omega), hx]
          have gV := topL_get (V := V) hlti
          rw [← hd] at gV
          have hset := mixl_set hll.out gV
          have gx := ens_get gx
          have hcel := k1.cell gx
          have hfro := k1.frozen i
          have hand := and_255 ((c : Int) + (x : Int))
          have iw1 : IntKind.i64.wrap ((c : Int) + (x : Int)) = (c : Int) + (x : Int) := i64_in (by omega)
          have e9 : ((c : Int) + x) % 256 = (((c + x) % 256 : Nat) : Int) := by omega
          replace e9 := Lib.hid e9
          replace gx := Lib.hid gx
          replace gV := Lib.hid gV
          replace hset := Lib.hid hset
          replace hd := Lib.hid hd
          replace hs := Lib.hid hs
          replace hc := Lib.hid hc
          replace hx := Lib.hid hx
          go_wp2_with fail
          refine ⟨⟨i + 1, (c + x) / 256, by omega, by go_num, by rw [show ((c : Int) + x) / 256 = (((c + x) / 256 : Nat) : Int) by omega], hs.out, by omega, ?_, k2.other (by simp) _, kb.setCell (by simp) _⟩, by simp [intOf]; omega⟩
          have := k1.set i (.int .i64 (((c : Int) + x) % 256))
          rw [e9.out, ens_set, hset.out] at this
          rw [e9.out]
          exact this
        · obtain rfl : i = 16 := by omega
          obtain ⟨x, hx⟩ : ∃ x, ys.getD 16 0 = x := ⟨_, rfl⟩
          have hbx : x ≤ 281474976710656 := by have := hle.out 16; omega
          have htop := htop.out
          rw [hc, hx] at htop
          have gx : (mixl 16 (topL V) ys)[16]? = some x := by
            rw [mixl_get hll.out (by rw [hl.out]; omega), if_neg (by omega), getD_getN (by rw [hl.out]; omega), hx]
          have gV : (topL V)[16]? = some (V / 2 ^ 128 % 4) := by
            rw [topL, List.getElem?_append_right (by rw [digs_len]; omega), digs_len]; rfl
          have hset := mixl_set hll.out gV
          have hall : mixl 17 (topL V) ys = topL V := by have := mixl_all hll.out; rwa [hl.out] at this
          rw [hall] at hset
          have g0 := topL_get (V := V) (i := 0) (by decide)
          rw [Nat.pow_zero, Nat.div_one] at g0
          have gx := ens_get gx
          have g0 := ens_get g0
          have hcel := k1.cell gx
          have hfro := k1.frozen 16
          have hvv : V / 2 ^ 128 / 4 = V / 2 ^ 130 := by omega
          obtain ⟨t, ht⟩ : ∃ t, V / 2 ^ 128 = t := ⟨_, rfl⟩
          obtain ⟨q, hq⟩ : ∃ q, V / 2 ^ 130 = q := ⟨_, rfl⟩
          have htl : t < 140737488355328 := by have := hv3.out; omega
          have hql : q < 35184372088832 := by have := hv2.out; omega
          rw [ht] at htop hvv hset
          rw [hq] at hvv
          have hpl : passL V = (topL V).set 0 (V % 256 + 5 * q) := by rw [passL, hq]
          obtain ⟨d, hd⟩ : ∃ d, V % 256 = d := ⟨_, rfl⟩
          have hdl : d < 256 := hd ▸ Nat.mod_lt _ (by decide)
          rw [hd] at g0 hpl
          have hand := and_3 (t : Int)
          have et : (c : Int) + (x : Int) = (t : Int) := by omega
          have iw1 : IntKind.i64.wrap (t : Int) = (t : Int) := i64_in (by omega)
          have iw2 : (t : Int) / 4 = (q : Int) := by omega
          have iw3 : IntKind.i64.wrap (5 * (q : Int)) = 5 * (q : Int) := i64_in (by omega)
          have iw4 : IntKind.i64.wrap ((d : Int) + 5 * (q : Int)) = (d : Int) + 5 * (q : Int) := i64_in (by omega)
          replace gx := Lib.hid gx
          replace g0 := Lib.hid g0
          replace gV := Lib.hid gV
          replace hset := Lib.hid hset
          replace hall := Lib.hid hall
          replace hpl := Lib.hid hpl
          replace hc := Lib.hid hc
          replace hx := Lib.hid hx
          replace htop := Lib.hid htop
          replace hvv := Lib.hid hvv
          replace ht := Lib.hid ht
          replace hq := Lib.hid hq
          replace hd := Lib.hid hd
          go_upto_region 13 with fail
          clear hcel hfro
          have k1 : Arr (wr.setCell ⟨w.heap.size, 16, none⟩ (.int .i64 ((t : Int) % 4))) w.heap.size (ens (topL V)) := by
            have := k1.set 16 (.int .i64 ((t % 4 : Nat) : Int))
            rw [ens_set, hset.out] at this
            exact this
          have k2 := k2.other (a := ⟨w.heap.size, 16, none⟩) (by simp) (.int .i64 ((t : Int) % 4))
          have kb := kb.setCell (p := ⟨w.heap.size, 16, none⟩) (by simp) (.int .i64 ((t : Int) % 4))
          generalize wr.setCell ⟨w.heap.size, 16, none⟩ (.int .i64 ((t : Int) % 4)) = w3 at *
          have hcel := k1.cell g0.out
          have hfro := k1.frozen 0
          go_wp2_with fail
          refine ⟨⟨p + 1, by omega, by go_num, ?_, k2.other (by simp) _, kb.setCell (by simp) _⟩, by simp [intOf]; omega⟩
          have := k1.set 0 (.int .i64 ((d + 5 * q : Nat) : Int))
          rw [ens_set, ← hpl.out, ← hsu.out, Int.natCast_add, Int.natCast_mul] at this
          exact this
    · have hp3 : p = 3 := by omega
      have hel := hel.out p
      rw [h3'.out p hp3] at k1 hel
      subst hp3
      replace hel := Lib.hid hel
      go_wp2_with (first | (refine wpList_load_arr2 rfl _ _ rfl _ rfl (by kernel_rfl) _ k1 (by rw [hel.out]; kernel_rfl) ?_) | (refine wpList_store_arr rfl _ _ _ rfl _ _ rfl rfl _ k2 (by rw [hel.out]; kernel_rfl) (by rw [hel.out]; rfl) (ens_one _) ?_))
      exact bodyPost_ret (results_arr2 Try.results24 _ _ _ rfl (by kernel_rfl) _ (k2.setRow _) (by rw [hel.out]; kernel_rfl)) rfl ⟨rfl, below_setRow kb (by omega) _⟩

set_option maxHeartbeats 4000000 in
set_option maxRecDepth 100000 in
theorem rtimes_any (xs ys : List Nat) (hx : xs.length = 17) (hy : ys.length = 17) (bx : Le 600 xs) (by' : Le 255 ys) (w : World) :
    Calls Try.prog 13 #[.agg (ens xs).toArray, .agg (ens ys).toArray] w fun e w' => e = .returned (.agg (ens (digs 256 17 (fold13 (fold13 (val 256 (timesL xs ys)))))).toArray) ∧ Below w.heap.size w w' := by
  have htl := timesL_len xs ys
  have hte := timesL_le bx by'
  have htv := val_le hte
  rw [htl] at htv
  have c1 := fun w => rcarried_any (timesL xs ys) htl (hte.mono (by decide)) (Nat.lt_of_le_of_lt htv (by decide)) w
  have hcl := cS_le bx by'
  have htg : ∀ i, i < 17 → (timesL xs ys)[i]? = some (cS xs ys i 17) := by intro i hi; rw [timesL, List.getElem?_map, List.getElem?_range hi]; rfl
  have hcs : ∀ i j, cS xs ys i (j + 1) = cS xs ys i j + xs.getD j 0 * rot ys j i := fun i j => rfl
  have hc0 : ∀ i, cS xs ys i 0 = 0 := fun i => rfl
  have hrot1 : ∀ i j, j ≤ i → rot ys j i = ys.getD (i - j) 0 := fun i j h => by rw [rot, if_pos h]
  have hrot2 : ∀ i j, ¬ j ≤ i → rot ys j i = 320 * ys.getD (i + 17 - j) 0 := fun i j h => by rw [rot, if_neg h]
  have htlen : (ens (timesL xs ys)).length = 17 := by rw [ens_len, htl]
  have hm0 := mixl_zero (timesL xs ys) (List.replicate 17 0)
  have hlx : (ens xs).length = 17 := by rw [ens_len, hx]
  have hly : (ens ys).length = 17 := by rw [ens_len, hy]
  obtain ⟨F, hF⟩ : ∃ F, digs 256 17 (fold13 (fold13 (val 256 (timesL xs ys)))) = F := ⟨_, rfl⟩
  have hFl : (ens F).length = 17 := by rw [← hF, ens_len, digs_len]
  rw [hF] at c1 ⊢
  generalize cS xs ys = C at *
  generalize timesL xs ys = T at *
  generalize rot ys = ro at *
  clear hte htv hF
  replace htl := Lib.hid htl
  replace c1 := Lib.hid c1
  replace hcl := Lib.hid hcl
  replace htg := Lib.hid htg
  replace hcs := Lib.hid hcs
  replace hc0 := Lib.hid hc0
  replace hrot1 := Lib.hid hrot1
  replace hrot2 := Lib.hid hrot2
  replace htlen := Lib.hid htlen
  replace hm0 := Lib.hid hm0
  replace hlx := Lib.hid hlx
  replace hly := Lib.hid hly
  replace hFl := Lib.hid hFl
  replace hx := Lib.hid hx
  replace hy := Lib.hid hy
  replace bx := Lib.hid bx
  replace by' := Lib.hid by'
  go_enter Try.func13, Try.ntmps13
  go_upto_region 1 with fail
  refine wp_new3 (fun W hsz k1 k2 k4 kb => ?_)
  have k4 : Arr W (w.heap.size + 1 + 1) (ens (List.replicate 17 0)) := k4
  have lt1 := k1.lt
  have lt2 := k2.lt
  have lt4 := k4.lt
  clear hsz
  go_upto_region 2 with fail
  refine wp_new1 (fun w9 hsz9 k5 hb9 => ?_)
  have k1 := k1.below hb9
  have k2 := k2.below hb9
  have k4 := k4.below hb9
  have kb := bel kb hb9
  generalize W.heap.size = g at k5 lt1 lt2 lt4 ⊢
  have k5 : Arr w9 g (ens (mixl 0 T (List.replicate 17 0))) := by rw [hm0.out]; exact k5
  clear hsz9 hb9
  go_wp2_with fail
  go_loopw [6] (fun iv wr => ∃ i : Nat, i ≤ 17 ∧ iv = .int .i64 i ∧ Arr wr w.heap.size (ens xs) ∧ Arr wr (w.heap.size + 1) (ens ys) ∧ Arr wr (w.heap.size + 1 + 1) (ens (List.replicate 17 0)) ∧ Arr wr g (ens (mixl i T (List.replicate 17 0))) ∧ Below w.heap.size w wr) (fun iv _ => 17 - (intOf iv).toNat)
  case atStart => exact ⟨0, by omega, rfl, k1, k2, k4, k5, kb⟩
  case round =>
    clear k1 k2 k4 k5 kb
    obtain ⟨i, hi, rfl, k1, k2, k4, k5, kb⟩ := hrel
    by_cases hlt : i < 17
    · have hc0 := hc0.out i
      have hcs := hcs.out i
      have hcl := hcl.out i
      have htg := htg.out i hlt
      have hr1 := fun j => hrot1.out i j
      have hr2 := fun j => hrot2.out i j
      generalize C i = c at *
      replace hc0 := Lib.hid hc0
      replace hcs := Lib.hid hcs
      replace hcl := Lib.hid hcl
      replace htg := Lib.hid htg
      replace hr1 := Lib.hid hr1
      replace hr2 := Lib.hid hr2
      have iw0 : (i : Int) < 17 := by omega
      go_wp2_with fail
      go_loopw [8, 7] (fun jv uv wr => ∃ j : Nat, j ≤ i + 1 ∧ jv = .int .i64 j ∧ uv = .int .i64 (c j : Nat) ∧ Arr wr w.heap.size (ens xs) ∧ Arr wr (w.heap.size + 1) (ens ys) ∧ Arr wr (w.heap.size + 1 + 1) (ens (List.replicate 17 0)) ∧ Arr wr g (ens (mixl i T (List.replicate 17 0))) ∧ Below w.heap.size w wr) (fun jv _ _ => i + 1 - (intOf jv).toNat)
      case atStart => exact ⟨0, by omega, rfl, by rw [hc0.out]; rfl, k1, k2, k4, k5, kb⟩
      case round =>
        clear k1 k2 k4 k5 kb
        obtain ⟨j, hj, rfl, rfl, k1, k2, k4, k5, kb⟩ := hrel
        by_cases hltj : j ≤ i
        · have hs := hcs.out j
          rw [hr1.out j hltj] at hs
          have hcb := hcl.out j
          obtain ⟨x, hxj⟩ : ∃ x, xs.getD j 0 = x := ⟨_, rfl⟩
          obtain ⟨y, hyj⟩ : ∃ y, ys.getD (i - j) 0 = y := ⟨_, rfl⟩
          rw [hxj, hyj] at hs
          have hbx : x ≤ 600 := by have := bx.out j; omega
          have hby : y ≤ 255 := by have := by'.out (i - j); omega
          have gx := ens_get (getD_getN (xs := xs) (i := j) (by rw [hx.out]; omega))
          have gy := ens_get (getD_getN (xs := ys) (i := i - j) (by rw [hy.out]; omega))
          rw [hxj] at gx
          rw [hyj] at gy
          obtain ⟨u, hu⟩ : ∃ u, c j = u := ⟨_, rfl⟩
          rw [hu] at hs hcb ⊢
          have hxy : x * y ≤ 600 * 255 := Nat.mul_le_mul hbx hby
          obtain ⟨p, hp⟩ : ∃ p, x * y = p := ⟨_, rfl⟩
          rw [hp] at hxy hs
          have hpI : (x : Int) * (y : Int) = (p : Int) := by rw [← hp]; exact (Int.natCast_mul x y).symm
          have hub : u ≤ 832320000 := by omega
          have iw1 : IntKind.i64.wrap (p : Int) = (p : Int) := i64_in (by omega)
          have iw2 : IntKind.i64.wrap ((u : Int) + (p : Int)) = (u : Int) + (p : Int) := i64_in (by omega)
          have iw3 : IntKind.i64.wrap ((i : Int) - (j : Int)) = (i : Int) - (j : Int) := i64_in (by omega)
          have iw4 : ((i : Int) - (j : Int)).toNat = i - j := by omega
          have iw5 : (0 : Int) ≤ (i : Int) - (j : Int) := by omega
          have iw6 : (i : Int) - (j : Int) < 17 := by omega
          have iw7 : (j : Int) < 17 := by omega
          have iw8 : (j : Int) ≤ (i : Int) := by omega
          clear hcb hxy
          replace hpI := Lib.hid hpI
          replace hs := Lib.hid hs
          replace hxj := Lib.hid hxj
          replace hyj := Lib.hid hyj
          replace hu := Lib.hid hu
          replace hp := Lib.hid hp
          replace gx := Lib.hid gx
          replace gy := Lib.hid gy
          go_upto_region 9 with (first | (refine wpList_load_arr2 rfl _ _ rfl _ rfl (by kernel_rfl) _ (by assumption) (by first | (rw [lims_len]; kernel_rfl) | (rw [el_rep]; kernel_rfl) | (rw [el_len]; kernel_rfl) | (rw [byts_len]; kernel_rfl) | (rw [us_len]; kernel_rfl) | (rw [bytn_len]; kernel_rfl) | (rw [ens_len, digs_len]; kernel_rfl) | kernel_rfl) ?_) | (refine wpList_store_arr rfl _ _ _ rfl _ _ rfl rfl _ (by first | assumption | exact Arr.new _ _ _) (by first | (rw [lims_len]; kernel_rfl) | (rw [el_rep]; kernel_rfl) | (rw [el_len]; kernel_rfl) | (rw [byts_len]; kernel_rfl) | (rw [us_len]; kernel_rfl) | (rw [bytn_len]; kernel_rfl) | (rw [ens_len, digs_len]; kernel_rfl) | kernel_rfl) (by first | (rw [lims_len, lims_len]) | (rw [el_rep, el_rep]) | (rw [el_rep, el_len]; rfl) | (rw [el_len, el_rep]; rfl) | (rw [el_len, el_len]; rfl) | (rw [byts_len, byts_len]) | (rw [lims_len]; rfl) | (rw [byts_len]; rfl) | (rw [us_len, us_len]; rfl) | (rw [bytn_len, bytn_len]) | (rw [bytn_len]; rfl) | (rw [ens_len, ens_len, digs_len, digs_len]) | rfl) (by first | exact lims_one _ _ | exact el_one _ | exact byts_one _ | exact us_one _ | exact bytn_one _ _ | exact ens_one _ | (intro v hv; simp at hv; rcases hv with rfl | rfl | rfl | rfl <;> rfl)) ?_))
          refine Tx.start (fun w' => Below (wr).heap.size (wr) w') 9999 12 rfl (by kernel_rfl) ?_
          have hS_1 : Below (wr).heap.size (wr) (World.drew wr) := (Below.refl _ _).drew
          refine Tx.seg (A := ?_) 0 4095 (by kernel_rfl) (by exact hS_1) [0, 1, 2, 3, 4, 5, 6, 7, 8, 9, 10, 11] (by kernel_rfl) ?_ ?_
          rotate_left
          · intro w' hB
            have e0 := k1.below hB
            have e1 := k2.below hB
            have e2 := k4.below hB
            have e3 := k5.below hB
            have c1 := (k1.below hB).cell gx.out
            have c2 := (k2.below hB).cell gy.out
            have c4 := hpI.out
            iterate 12 (first | (refine rd_skip rfl rfl ?_; simp only [Act.put, List.setIfInBounds_toArray, List.set_cons_zero, List.set_cons_succ]) | (refine rd_load_arr rfl rfl _ _ rfl _ rfl (by kernel_rfl) _ (by assumption) (by first | (rw [lims_len]; kernel_rfl) | (rw [el_rep]; kernel_rfl) | (rw [el_len]; kernel_rfl) | (rw [byts_len]; kernel_rfl) | (rw [us_len]; kernel_rfl) | (rw [bytn_len]; kernel_rfl) | (rw [ens_len, digs_len]; kernel_rfl) | kernel_rfl) ?_; simp only [Act.put, List.setIfInBounds_toArray, List.set_cons_zero, List.set_cons_succ]) | (refine rd_take (v := ?_) rfl rfl ?_ ?_; rotate_left; (focus (go_simp; try (with_reducible rfl))); simp only [Act.put, List.setIfInBounds_toArray, List.set_cons_zero, List.set_cons_succ]))
            exact rd_nil
          refine Tx.done (by kernel_rfl) ?_
          have k1 := k1.below hS_1
          have k2 := k2.below hS_1
          have k4 := k4.below hS_1
          have k5 := k5.below hS_1
          have kb := bel kb hS_1
          clear hS_1
          clear iw1 iw2 iw3 iw4 iw5 iw6
          go_wp2_with fail
          exact ⟨⟨j + 1, by omega, by go_num, by rw [hs.out, Int.natCast_add], k1, k2, k4, k5, kb⟩, by simp [intOf]; omega⟩
        · obtain rfl : j = i + 1 := by omega
          have iw9 : ¬ ((i + 1 : Nat) : Int) ≤ (i : Int) := by omega
          have iw10 : IntKind.i64.wrap ((i : Int) + 1) = ((i + 1 : Nat) : Int) := by rw [i64_in (by omega)]; omega
          go_wp2_with fail
          clear iw9 iw10
          go_loopw [9, 7] (fun jv uv wr => ∃ j : Nat, i + 1 ≤ j ∧ j ≤ 17 ∧ jv = .int .i64 j ∧ uv = .int .i64 (c j : Nat) ∧ Arr wr w.heap.size (ens xs) ∧ Arr wr (w.heap.size + 1) (ens ys) ∧ Arr wr (w.heap.size + 1 + 1) (ens (List.replicate 17 0)) ∧ Arr wr g (ens (mixl i T (List.replicate 17 0))) ∧ Below w.heap.size w wr) (fun jv _ _ => 17 - (intOf jv).toNat)
          case atStart => exact ⟨i + 1, by omega, by omega, by go_num, rfl, k1, k2, k4, k5, kb⟩
          case round =>
            clear k1 k2 k4 k5 kb hj hltj
            obtain ⟨j, hji, hj, rfl, rfl, k1, k2, k4, k5, kb⟩ := hrel
            by_cases hltj : j < 17
            · have hs := hcs.out j
              rw [hr2.out j (by omega)] at hs
              have hcb := hcl.out j
              obtain ⟨x, hxj⟩ : ∃ x, xs.getD j 0 = x := ⟨_, rfl⟩
              obtain ⟨y, hyj⟩ : ∃ y, ys.getD (i + 17 - j) 0 = y := ⟨_, rfl⟩
              rw [hxj, hyj] at hs
              have hbx : x ≤ 600 := by have := bx.out j; omega
              have hby : y ≤ 255 := by have := by'.out (i + 17 - j); omega
              have gx := ens_get (getD_getN (xs := xs) (i := j) (by rw [hx.out]; omega))
              have gy := ens_get (getD_getN (xs := ys) (i := i + 17 - j) (by rw [hy.out]; omega))
              rw [hxj] at gx
              rw [hyj] at gy
              obtain ⟨u, hu⟩ : ∃ u, c j = u := ⟨_, rfl⟩
              rw [hu] at hs hcb ⊢
              have hxy : x * (320 * y) ≤ 600 * (320 * 255) := Nat.mul_le_mul hbx (by omega)
              obtain ⟨p, hp⟩ : ∃ p, x * (320 * y) = p := ⟨_, rfl⟩
              rw [hp] at hxy hs
              have hpI : (320 * (x : Int)) * (y : Int) = (p : Int) := by rw [← hp, Int.natCast_mul, Int.natCast_mul, ← Int.mul_assoc, Int.mul_comm (x : Int)]; rfl
              have hub : u ≤ 832320000 := by omega
              have iw0 : IntKind.i64.wrap (320 * (x : Int)) = 320 * (x : Int) := i64_in (by omega)
              have iw1 : IntKind.i64.wrap (p : Int) = (p : Int) := i64_in (by omega)
              have iw2 : IntKind.i64.wrap ((u : Int) + (p : Int)) = (u : Int) + (p : Int) := i64_in (by omega)
              have iw3 : IntKind.i64.wrap ((i : Int) + 17) = (i : Int) + 17 := i64_in (by omega)
              have iw11 : IntKind.i64.wrap ((i : Int) + 17 - (j : Int)) = (i : Int) + 17 - (j : Int) := i64_in (by omega)
              have iw4 : ((i : Int) + 17 - (j : Int)).toNat = i + 17 - j := by omega
              have iw5 : (j : Int) ≤ (i : Int) + 17 := by omega
              have iw6 : (i : Int) + 17 - (j : Int) < 17 := by omega
              have iw7 : (j : Int) < 17 := by omega
              clear hcb hxy
              replace hpI := Lib.hid hpI
              replace hs := Lib.hid hs
              replace hxj := Lib.hid hxj
              replace hyj := Lib.hid hyj
              replace hu := Lib.hid hu
              replace hp := Lib.hid hp
              replace gx := Lib.hid gx
              replace gy := Lib.hid gy
              go_upto_region 13 with (first | (refine wpList_load_arr2 rfl _ _ rfl _ rfl (by kernel_rfl) _ (by assumption) (by first | (rw [lims_len]; kernel_rfl) | (rw [el_rep]; kernel_rfl) | (rw [el_len]; kernel_rfl) | (rw [byts_len]; kernel_rfl) | (rw [us_len]; kernel_rfl) | (rw [bytn_len]; kernel_rfl) | (rw [ens_len, digs_len]; kernel_rfl) | kernel_rfl) ?_) | (refine wpList_store_arr rfl _ _ _ rfl _ _ rfl rfl _ (by first | assumption | exact Arr.new _ _ _) (by first | (rw [lims_len]; kernel_rfl) | (rw [el_rep]; kernel_rfl) | (rw [el_len]; kernel_rfl) | (rw [byts_len]; kernel_rfl) | (rw [us_len]; kernel_rfl) | (rw [bytn_len]; kernel_rfl) | (rw [ens_len, digs_len]; kernel_rfl) | kernel_rfl) (by first | (rw [lims_len, lims_len]) | (rw [el_rep, el_rep]) | (rw [el_rep, el_len]; rfl) | (rw [el_len, el_rep]; rfl) | (rw [el_len, el_len]; rfl) | (rw [byts_len, byts_len]) | (rw [lims_len]; rfl) | (rw [byts_len]; rfl) | (rw [us_len, us_len]; rfl) | (rw [bytn_len, bytn_len]) | (rw [bytn_len]; rfl) | (rw [ens_len, ens_len, digs_len, digs_len]) | rfl) (by first | exact lims_one _ _ | exact el_one _ | exact byts_one _ | exact us_one _ | exact bytn_one _ _ | exact ens_one _ | (intro v hv; simp at hv; rcases hv with rfl | rfl | rfl | rfl <;> rfl)) ?_))
              refine Tx.start (fun w' => Below (wr).heap.size (wr) w') 9999 14 rfl (by kernel_rfl) ?_
              have hS_2 : Below (wr).heap.size (wr) (World.drew wr) := (Below.refl _ _).drew
              refine Tx.seg (A := ?_) 0 16383 (by kernel_rfl) (by exact hS_2) [0, 1, 2, 3, 4, 5, 6, 7, 8, 9, 10, 11, 12, 13] (by kernel_rfl) ?_ ?_
              rotate_left
              · intro w' hB
                have e0 := k1.below hB
                have e1 := k2.below hB
                have e2 := k4.below hB
                have e3 := k5.below hB
                have c1 := (k1.below hB).cell gx.out
                have c2 := (k2.below hB).cell gy.out
                have c4 := hpI.out
                iterate 14 (first | (refine rd_skip rfl rfl ?_; simp only [Act.put, List.setIfInBounds_toArray, List.set_cons_zero, List.set_cons_succ]) | (refine rd_load_arr rfl rfl _ _ rfl _ rfl (by kernel_rfl) _ (by assumption) (by first | (rw [lims_len]; kernel_rfl) | (rw [el_rep]; kernel_rfl) | (rw [el_len]; kernel_rfl) | (rw [byts_len]; kernel_rfl) | (rw [us_len]; kernel_rfl) | (rw [bytn_len]; kernel_rfl) | (rw [ens_len, digs_len]; kernel_rfl) | kernel_rfl) ?_; simp only [Act.put, List.setIfInBounds_toArray, List.set_cons_zero, List.set_cons_succ]) | (refine rd_take (v := ?_) rfl rfl ?_ ?_; rotate_left; (focus (go_simp; try (with_reducible rfl))); simp only [Act.put, List.setIfInBounds_toArray, List.set_cons_zero, List.set_cons_succ]))
                exact rd_nil
              refine Tx.done (by kernel_rfl) ?_
              have k1 := k1.below hS_2
              have k2 := k2.below hS_2
              have k4 := k4.below hS_2
              have k5 := k5.below hS_2
              have kb := bel kb hS_2
              clear hS_2
              clear iw0 iw1 iw2 iw3 iw4 iw5 iw6 iw11
              go_wp2_with fail
              exact ⟨⟨j + 1, by omega, by omega, by go_num, by rw [hs.out, Int.natCast_add], k1, k2, k4, k5, kb⟩, by simp [intOf]; omega⟩
            · obtain rfl : j = 17 := by omega
              have hll : T.length = (List.replicate 17 0).length := by rw [htl.out, List.length_replicate]
              have g5 : (mixl i T (List.replicate 17 0))[i]? = some 0 := by
                rw [mixl_get hll (by simpa using hlt), if_neg (Nat.lt_irrefl i), List.getElem?_replicate, if_pos hlt]
              have hset := mixl_set hll htg.out
              have g5 := ens_get g5
              have hcel := k5.cell g5
              have hfro := k5.frozen i
              clear hll g5
              replace hset := Lib.hid hset
              go_wp2_with fail
              refine ⟨⟨i + 1, by omega, by go_num, k1.other (by simp; omega) _, k2.other (by simp; omega) _, k4.other (by simp; omega) _, ?_, kb.setCell (by simp; omega) _⟩, by simp [intOf]; omega⟩
              have := k5.set i (.int .i64 (c 17 : Nat))
              rw [ens_set, hset.out] at this
              exact this
    · obtain rfl : i = 17 := by omega
      have hall : mixl 17 T (List.replicate 17 0) = T := by have := mixl_all (xs := T) (ys := List.replicate 17 0) (by rw [htl.out, List.length_replicate]); rwa [List.length_replicate] at this
      rw [hall] at k5
      clear hall
      go_wp2_with (refine wpList_load_arr2 rfl _ _ rfl _ rfl (by kernel_rfl) _ k5 (by rw [htlen.out]; kernel_rfl) ?_)
      refine (c1.out _).mono ?_
      rintro e w_3 ⟨rfl, hb_3⟩
      have k4 := k4.below hb_3
      have kb := bel kb hb_3
      clear hb_3
      go_wp2_with (refine wpList_store_arr rfl _ _ _ rfl _ _ rfl rfl _ k4 (by rw [hFl.out]; kernel_rfl) (by rw [hFl.out]; rfl) (ens_one _) ?_)
      exact bodyPost_ret (results_arr2 Try.results13 _ _ _ rfl (by kernel_rfl) _ (k4.setRow _) (by rw [hFl.out]; kernel_rfl)) rfl ⟨rfl, below_setRow kb (by omega) _⟩

end Go.Proofs.Ytfljonglibpgcaa
