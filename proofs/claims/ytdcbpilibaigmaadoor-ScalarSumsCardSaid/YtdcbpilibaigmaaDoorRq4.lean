/- Reference of the scalars: a product. -/
import Derived.Test.YtdcbpilibaigmaaDoorRq3
namespace Go.Proofs.YtdcbpilibaigmaaDoor
open Go.RowKit

/-- Natural numbers as cells of int. -/
def ens (t : List Nat) : List Value := t.map fun (x : Nat) => .int .i64 (x : Int)
theorem ens_len (t : List Nat) : (ens t).length = t.length := by simp [ens]
theorem ens_get {t : List Nat} {i x : Nat} (h : t[i]? = some x) : (ens t)[i]? = some (.int .i64 (x : Int)) := by simp [ens, h]
theorem ens_set (t : List Nat) (i x : Nat) : (ens t).set i (.int .i64 (x : Int)) = ens (t.set i x) := by simp [ens, List.map_set]

def updN (t : List Nat) (m v : Nat) : List Nat := t.set m (t.getD m 0 + v)
def innerQ (xs ys : List Nat) (i j : Nat) (t : List Nat) : List Nat := (List.range j).foldl (fun t k => updN t (i + k) (xs.getD i 0 * ys.getD k 0)) t
def outerQ (xs ys : List Nat) (i : Nat) : List Nat := (List.range i).foldl (fun t i => innerQ xs ys i 32 t) (List.replicate 64 0)

theorem updN_len (t : List Nat) (m v : Nat) : (updN t m v).length = t.length := by simp [updN]
theorem innerQ_succ (xs ys : List Nat) (i j : Nat) (t : List Nat) : innerQ xs ys i (j + 1) t = updN (innerQ xs ys i j t) (i + j) (xs.getD i 0 * ys.getD j 0) := by
  unfold innerQ; rw [List.range_succ, List.foldl_append]; rfl
theorem innerQ_zero (xs ys : List Nat) (i : Nat) (t : List Nat) : innerQ xs ys i 0 t = t := rfl
theorem outerQ_succ (xs ys : List Nat) (i : Nat) : outerQ xs ys (i + 1) = innerQ xs ys i 32 (outerQ xs ys i) := by
  unfold outerQ; rw [List.range_succ, List.foldl_append, List.foldl_cons, List.foldl_nil]
theorem innerQ_len (xs ys : List Nat) (i : Nat) (t : List Nat) : ∀ j, (innerQ xs ys i j t).length = t.length
  | 0 => by rw [innerQ_zero]
  | j + 1 => by rw [innerQ_succ, updN_len, innerQ_len xs ys i t j]
theorem outerQ_len (xs ys : List Nat) : ∀ i, (outerQ xs ys i).length = 64
  | 0 => by unfold outerQ; simp
  | i + 1 => by rw [outerQ_succ, innerQ_len, outerQ_len xs ys i]

theorem getD_getN {xs : List Nat} {i : Nat} (h : i < xs.length) : xs[i]? = some (xs.getD i 0) := by
  rw [List.getD_eq_getElem?_getD, List.getElem?_eq_getElem h]; rfl
theorem val_upd {b : Nat} {t : List Nat} {m : Nat} (v : Nat) (h : m < t.length) : val b (updN t m v) = val b t + b ^ m * v := by
  have := val_set b t m _ (t.getD m 0 + v) (getD_getN h)
  rw [Nat.mul_add] at this
  unfold updN
  omega
theorem val_take_succ {b : Nat} {ys : List Nat} {j : Nat} (h : j < ys.length) : val b (ys.take (j + 1)) = val b (ys.take j) + b ^ j * ys.getD j 0 := by
  rw [List.take_succ_eq_append_getElem h, val_append, List.length_take, Nat.min_eq_left (by omega), List.getD_eq_getElem?_getD, List.getElem?_eq_getElem h]
  simp [val]
theorem val_split (b : Nat) (xs : List Nat) (k : Nat) (h : k ≤ xs.length) : val b xs = val b (xs.take k) + b ^ k * val b (xs.drop k) := by
  conv => lhs; rw [← List.take_append_drop k xs]
  rw [val_append, List.length_take, Nat.min_eq_left h]

theorem val_inner {xs ys : List Nat} (hy : ys.length = 32) {i : Nat} (hi : i < 32) {t : List Nat} (ht : t.length = 64) : ∀ j, j ≤ 32 → val 256 (innerQ xs ys i j t) = val 256 t + xs.getD i 0 * 256 ^ i * val 256 (ys.take j)
  | 0, _ => by simp [innerQ_zero, val]
  | j + 1, h => by
    rw [innerQ_succ, val_upd _ (by rw [innerQ_len, ht]; omega), val_inner hy hi ht j (by omega), val_take_succ (by omega), Nat.mul_add, Nat.add_assoc]
    congr 2
    rw [Nat.pow_add]
    simp only [Nat.mul_comm, Nat.mul_left_comm, Nat.mul_assoc]
theorem val_outer {xs ys : List Nat} (hx : xs.length = 32) (hy : ys.length = 32) : ∀ i, i ≤ 32 → val 256 (outerQ xs ys i) = val 256 (xs.take i) * val 256 ys
  | 0, _ => by
    rw [List.take_zero, val, Nat.zero_mul]
    unfold outerQ
    rw [List.range_zero, List.foldl_nil, val_zeros]
  | i + 1, h => by
    rw [outerQ_succ, val_inner hy (by omega) (outerQ_len _ _ _) 32 (by omega), val_outer hx hy i (by omega), List.take_of_length_le (by omega : ys.length ≤ 32), val_take_succ (by omega), Nat.add_mul]
    congr 2
    rw [Nat.mul_comm]

/-- All are at most B. -/
def Le (B : Nat) (t : List Nat) : Prop := ∀ m, t.getD m 0 ≤ B
theorem Le.upd {B C v : Nat} {t : List Nat} (h : Le B t) (hv : v ≤ C) (m : Nat) : Le (B + C) (updN t m v) := by
  intro k
  have h1 := h k
  have h2 := h m
  unfold updN
  simp only [List.getD_eq_getElem?_getD] at h1 h2 ⊢
  rw [List.getElem?_set]
  split
  · split
    · simp; omega
    · simp
  · omega
theorem Le.mono {A B : Nat} {t : List Nat} (h : Le A t) (hAB : A ≤ B) : Le B t := fun m => Nat.le_trans (h m) hAB
theorem le_mul {x y : Nat} (hx : x ≤ 255) (hy : y ≤ 255) : x * y ≤ 65025 := Nat.mul_le_mul hx hy
theorem Le.inner {B : Nat} {xs ys t : List Nat} (hx : Le 255 xs) (hy : Le 255 ys) (h : Le B t) (i : Nat) : ∀ j : Nat, Le (B + j * 65025) (innerQ xs ys i j t)
  | 0 => by rw [innerQ_zero]; exact h.mono (by omega)
  | j + 1 => by
    rw [innerQ_succ]
    exact ((Le.inner hx hy h i j).upd (le_mul (hx i) (hy j)) (i + j)).mono (by omega)
theorem Le.outer {xs ys : List Nat} (hx : Le 255 xs) (hy : Le 255 ys) : ∀ i : Nat, Le (i * 2080800) (outerQ xs ys i)
  | 0 => by
    intro m
    unfold outerQ
    rw [List.range_zero, List.foldl_nil, List.getD_eq_getElem?_getD, List.getElem?_replicate]
    split <;> simp
  | i + 1 => by
    rw [outerQ_succ]
    exact (Le.inner hx hy (Le.outer hx hy i) i 32).mono (by omega)
theorem le_digs (k n : Nat) : Le 255 (digs 256 k n) := by
  intro m
  rw [List.getD_eq_getElem?_getD]
  cases h : (digs 256 k n)[m]? with
  | none => simp
  | some d => have := digs_lt 256 k n (by decide) d (List.mem_of_getElem? h); simp; omega

set_option maxHeartbeats 4000000 in
set_option maxRecDepth 100000 in
theorem rqMul_any (a b : Nat) (ha : a < 256 ^ 32) (hb : b < 256 ^ 32) (w : World) (kG : Arr w 0 (el (dgl 32 qN))) :
    Calls Tryd.prog 13 #[.agg (byts a).toArray, .agg (byts b).toArray] w fun e w' => e = .returned (.agg (byts (a * b % qN)).toArray) ∧ Below w.heap.size w w' := by
  have hG1 := kG.lt
  obtain ⟨xs, hxs⟩ : ∃ xs, digs 256 32 a = xs := ⟨_, rfl⟩
  obtain ⟨ys, hys⟩ : ∃ ys, digs 256 32 b = ys := ⟨_, rfl⟩
  have lx : xs.length = 32 := by rw [← hxs, digs_len]
  have ly : ys.length = 32 := by rw [← hys, digs_len]
  have bx : Le 255 xs := hxs ▸ le_digs 32 a
  have by' : Le 255 ys := hys ▸ le_digs 32 b
  have ho := Le.outer bx by'
  have hoi := fun i j => Le.inner bx by' (ho i) i j
  obtain ⟨T, hT⟩ : ∃ T, outerQ xs ys 32 = T := ⟨_, rfl⟩
  have hTl : T.length = 64 := by rw [← hT, outerQ_len]
  have hTb := ho 32
  rw [hT] at hTb
  have hTv := val_outer lx ly 32 (by omega)
  rw [hT, List.take_of_length_le (by omega : xs.length ≤ 32), ← hxs, ← hys, val_digs, val_digs, Nat.mod_eq_of_lt ha, Nat.mod_eq_of_lt hb] at hTv
  obtain ⟨P, hP⟩ : ∃ P, a * b = P := ⟨_, rfl⟩
  rw [hP] at hTv
  have hP64 : P < 256 ^ 64 := by rw [← hP, show (256 : Nat) ^ 64 = 256 ^ 32 * 256 ^ 32 by decide]; exact Nat.mul_lt_mul'' ha hb
  have hTd : ∀ k, k < 64 → (val 256 (T.take k) / 256 ^ k + T.getD k 0) % 256 = P / 256 ^ k % 256 ∧ val 256 (T.take (k + 1)) / 256 ^ (k + 1) = (val 256 (T.take k) / 256 ^ k + T.getD k 0) / 256 := by
    intro k hk
    have h1 := val_take_succ (b := 256) (ys := T) (j := k) (by omega)
    have h2 := val_split 256 T (k + 1) (by omega)
    have hp : 0 < 256 ^ k := Nat.pow_pos (by decide)
    have h3 : val 256 (T.take (k + 1)) / 256 ^ k = val 256 (T.take k) / 256 ^ k + T.getD k 0 := by rw [h1, Nat.add_mul_div_left _ _ hp]
    constructor
    · rw [← hTv, h2, Nat.pow_succ, Nat.mul_assoc, Nat.add_mul_div_left _ _ hp, Nat.add_mul_mod_self_left, h3]
    · rw [Nat.pow_succ, ← Nat.div_div_eq_div_mul, h3]
  have gX : byts a = (digs 256 32 a).map fun (x : Nat) => Value.int .u8 (x : Int) := rfl
  have gY : byts b = (digs 256 32 b).map fun (x : Nat) => Value.int .u8 (x : Int) := rfl
  rw [hxs] at gX
  rw [hys] at gY
  have hgx : ∀ i, i < 32 → (byts a)[i]? = some (.int .u8 ((xs.getD i 0 : Nat) : Int)) := by intro i hi; rw [gX, List.getElem?_map, getD_getN (by omega)]; rfl
  have hgy : ∀ i, i < 32 → (byts b)[i]? = some (.int .u8 ((ys.getD i 0 : Nat) : Int)) := by intro i hi; rw [gY, List.getElem?_map, getD_getN (by omega)]; rfl
  have hm0 := mixl_zero (bytn 64 P) (bytn 64 0)
  have hmx := bytn_mix (k := 64) hP64
  have c1 := fun g w h kG => rqReduceArr P hP64 g w h kG
  rw [hP]
  obtain ⟨R, hR⟩ : ∃ R, P % qN = R := ⟨_, rfl⟩
  rw [hR] at c1 ⊢
  have hT' : ∀ n, n = 32 → outerQ xs ys n = T := by rintro n rfl; exact hT
  clear hxs hys ha hb hP hR hT hTv hP64 gX gY ho
  replace lx := Lib.hid lx
  replace ly := Lib.hid ly
  replace bx := Lib.hid bx
  replace by' := Lib.hid by'
  replace hoi := Lib.hid hoi
  replace hTl := Lib.hid hTl
  replace hTb := Lib.hid hTb
  replace hTd := Lib.hid hTd
  replace hgx := Lib.hid hgx
  replace hgy := Lib.hid hgy
  replace hm0 := Lib.hid hm0
  replace hmx := Lib.hid hmx
  replace c1 := Lib.hid c1
  replace hT' := Lib.hid hT'
  go_enter Tryd.func13, Tryd.ntmps13
  go_upto_region 1 with fail
  refine wp_new3 (fun W hsz k1 k2 k4 kb => ?_)
  have k4 : Arr W (w.heap.size + 1 + 1) (byts 0) := k4
  have lt1 := k1.lt
  have lt2 := k2.lt
  have lt4 := k4.lt
  have kG : Arr W _ (el (dgl 32 qN)) := kG.below kb
  have ltG := kG.lt
  clear hsz
  go_upto_region 2 with fail
  refine wp_new1 (fun w9 hsz9 k5 hb9 => ?_)
  have k1 := k1.below hb9
  have k2 := k2.below hb9
  have k4 := k4.below hb9
  have kG := kG.below hb9
  have kb := bel kb hb9
  generalize W.heap.size = g at k5 lt1 lt2 lt4 ltG ⊢
  have k5 : Arr w9 g (ens (outerQ xs ys 0)) := k5
  clear hsz9 hb9
  go_wp2_with fail
  go_loopw [6] (fun iv wr => ∃ i : Nat, i ≤ 32 ∧ iv = .int .i64 i ∧ Arr wr w.heap.size (byts a) ∧ Arr wr (w.heap.size + 1) (byts b) ∧ Arr wr (w.heap.size + 1 + 1) (byts 0) ∧ Arr wr g (ens (outerQ xs ys i)) ∧ Arr wr 0 (el (dgl 32 qN)) ∧ Below w.heap.size w wr) (fun iv _ => 32 - (intOf iv).toNat)
  case atStart => exact ⟨0, by omega, rfl, k1, k2, k4, k5, kG, kb⟩
  case round =>
    clear k1 k2 k4 k5 kG kb
    obtain ⟨i, hi, rfl, k1, k2, k4, k5, kG, kb⟩ := hrel
    by_cases hlt : i < 32
    · rw [← innerQ_zero xs ys i (outerQ xs ys i)] at k5
      have tl := outerQ_len xs ys i
      obtain ⟨t0, ht0⟩ : ∃ t, outerQ xs ys i = t := ⟨_, rfl⟩
      have hoi := hoi.out i
      rw [ht0] at k5 tl hoi
      have hsucc := outerQ_succ xs ys i
      rw [ht0] at hsucc
      obtain ⟨x, hxi⟩ : ∃ x, xs.getD i 0 = x := ⟨_, rfl⟩
      have gx := hgx.out i hlt
      rw [hxi] at gx
      have hbx : x ≤ 255 := by have := bx.out i; omega
      replace gx := Lib.hid gx
      replace hxi := Lib.hid hxi
      replace hsucc := Lib.hid hsucc
      replace ht0 := Lib.hid ht0
      replace tl := Lib.hid tl
      replace hoi := Lib.hid hoi
      have iw7 : (i : Int) < 32 := by omega
      go_wp2_with fail
      go_loopw [7] (fun kv wr => ∃ j : Nat, j ≤ 32 ∧ kv = .int .i64 j ∧ Arr wr w.heap.size (byts a) ∧ Arr wr (w.heap.size + 1) (byts b) ∧ Arr wr (w.heap.size + 1 + 1) (byts 0) ∧ Arr wr g (ens (innerQ xs ys i j t0)) ∧ Arr wr 0 (el (dgl 32 qN)) ∧ Below w.heap.size w wr) (fun kv _ => 32 - (intOf kv).toNat)
      case atStart => exact ⟨0, by omega, rfl, k1, k2, k4, k5, kG, kb⟩
      case round =>
        clear k1 k2 k4 k5 kG kb
        obtain ⟨j, hj, rfl, k1, k2, k4, k5, kG, kb⟩ := hrel
        by_cases hltj : j < 32
        · obtain ⟨y, hyj⟩ : ∃ y, ys.getD j 0 = y := ⟨_, rfl⟩
          have gy := hgy.out j hltj
          have hby : y ≤ 255 := by have := by'.out j; omega
          have hst := innerQ_succ xs ys i j t0
          have hbt := hoi.out j
          have tl' := innerQ_len xs ys i t0 j
          rw [tl.out] at tl'
          obtain ⟨t, ht⟩ : ∃ t, innerQ xs ys i j t0 = t := ⟨_, rfl⟩
          rw [ht] at k5 hst hbt tl'
          rw [hyj] at gy hst
          rw [hxi.out] at hst
          obtain ⟨z, hz⟩ : ∃ z, t.getD (i + j) 0 = z := ⟨_, rfl⟩
          have gz := ens_get (getD_getN (xs := t) (i := i + j) (by rw [tl']; omega))
          have hbz : z ≤ 130000000 := by have := hbt (i + j); omega
          rw [hz] at gz
          have hxy := le_mul hbx hby
          obtain ⟨p, hp⟩ : ∃ p, x * y = p := ⟨_, rfl⟩
          rw [hp] at hxy
          have hst2 : t.set (i + j) (z + p) = innerQ xs ys i (j + 1) t0 := by rw [hst]; unfold updN; rw [hz, hp]
          have hpI : (x : Int) * (y : Int) = (p : Int) := by rw [← hp]; exact (Int.natCast_mul x y).symm
          have iwx : IntKind.i64.wrap (x : Int) = (x : Int) := i64_in (by omega)
          have iwy : IntKind.i64.wrap (y : Int) = (y : Int) := i64_in (by omega)
          have iw1 : IntKind.i64.wrap (p : Int) = (p : Int) := i64_in (by omega)
          have iw2 : IntKind.i64.wrap ((z : Int) + (p : Int)) = (z : Int) + (p : Int) := i64_in (by omega)
          have iw3 : IntKind.i64.wrap ((i : Int) + (j : Int)) = (i : Int) + (j : Int) := i64_in (by omega)
          have iw4 : ((i : Int) + (j : Int)).toNat = i + j := by omega
          have iw5 : (0 : Int) ≤ (i : Int) + (j : Int) := by omega
          have iw6 : (i : Int) + (j : Int) < 64 := by omega
          have iw8 : (j : Int) < 32 := by omega
          replace hp := Lib.hid hp
          replace hpI := Lib.hid hpI
          replace hz := Lib.hid hz
          replace hst2 := Lib.hid hst2
          replace gz := Lib.hid gz
          replace gy := Lib.hid gy
          replace hyj := Lib.hid hyj
          replace ht := Lib.hid ht
          clear hst hbt tl'
          go_upto_region 8 with (first | (refine wpList_load_arr2 rfl _ _ rfl _ rfl (by kernel_rfl) _ (by assumption) (by first | (rw [lims_len]; kernel_rfl) | (rw [el_rep]; kernel_rfl) | (rw [el_len]; kernel_rfl) | (rw [byts_len]; kernel_rfl) | (rw [us_len]; kernel_rfl) | kernel_rfl) ?_) | (refine wpList_store_arr rfl _ _ _ rfl _ _ rfl rfl _ (by first | assumption | exact Arr.new _ _ _) (by first | (rw [lims_len]; kernel_rfl) | (rw [el_rep]; kernel_rfl) | (rw [el_len]; kernel_rfl) | (rw [byts_len]; kernel_rfl) | (rw [us_len]; kernel_rfl) | kernel_rfl) (by first | (rw [lims_len, lims_len]) | (rw [el_rep, el_rep]) | (rw [el_rep, el_len]; rfl) | (rw [el_len, el_rep]; rfl) | (rw [el_len, el_len]; rfl) | (rw [byts_len, byts_len]) | (rw [lims_len]; rfl) | (rw [byts_len]; rfl) | (rw [us_len, us_len]; rfl) | rfl) (by first | exact lims_one _ _ | exact el_one _ | exact byts_one _ | exact us_one _ | (intro v hv; simp at hv; rcases hv with rfl | rfl | rfl | rfl <;> rfl)) ?_))
          refine Tx.start (fun w' => Below (wr).heap.size (wr) w') 19 20 rfl (by kernel_rfl) ?_
          have hS_1 : Below (wr).heap.size (wr) (World.drew wr) := (Below.refl _ _).drew
          refine Tx.seg (A := ?_) 1 524287 (by kernel_rfl) (by exact hS_1) [0, 1, 2, 3, 4, 5, 6, 7, 8, 9, 10, 11, 12, 13, 14, 15, 16, 17, 18] (by kernel_rfl) ?_ ?_
          rotate_left
          · intro w' hB
            have e0 := k1.below hB
            have e1 := k2.below hB
            have e2 := k4.below hB
            have e3 := k5.below hB
            have e4 := kG.below hB
            have c1 := (k1.below hB).cell gx.out
            have c2 := (k2.below hB).cell gy.out
            have c3 := (k5.below hB).cell gz.out
            have c4 := hpI.out
            iterate 19 (first | (refine rd_skip rfl rfl ?_; simp only [Act.put, List.setIfInBounds_toArray, List.set_cons_zero, List.set_cons_succ]) | (refine rd_load_arr rfl rfl _ _ rfl _ rfl (by kernel_rfl) _ (by assumption) (by first | (rw [lims_len]; kernel_rfl) | (rw [el_rep]; kernel_rfl) | (rw [el_len]; kernel_rfl) | (rw [byts_len]; kernel_rfl) | (rw [us_len]; kernel_rfl) | kernel_rfl) ?_; simp only [Act.put, List.setIfInBounds_toArray, List.set_cons_zero, List.set_cons_succ]) | (refine rd_take (v := ?_) rfl rfl ?_ ?_; rotate_left; (focus (go_simp; try (with_reducible rfl))); simp only [Act.put, List.setIfInBounds_toArray, List.set_cons_zero, List.set_cons_succ]))
            exact rd_nil
          have k1 := k1.below hS_1
          have k2 := k2.below hS_1
          have k4 := k4.below hS_1
          have k5 := k5.below hS_1
          have kG := kG.below hS_1
          have kb := bel kb hS_1
          have hcel := k5.cell gz.out
          have hfro := fun j => k5.frozen j
          refine Tx.bar 1048575 rfl (by decide +kernel) (fun K hK => ?_)
          go_simp
          refine hK (fun _ => True) 9999 _ _ ?_
          clear hK K
          try simp only [Act.put]
          try simp only [List.setIfInBounds_toArray, List.set_cons_zero, List.set_cons_succ]
          refine Tx.done (by kernel_rfl) ?_
          first | refine then_cellD k5 (fun w_2 k5 hoth hbel => ?_) | refine inb_cellD k5 (fun w_2 k5 hoth hbel => ?_)
          have k1 := hoth _ _ (by omega) k1
          have k2 := hoth _ _ (by omega) k2
          have k4 := hoth _ _ (by omega) k4
          have kG := hoth _ _ (by omega) kG
          have kb := hbel _ _ (by omega) kb
          clear hoth hbel
          clear hcel hfro
          have e9 : (z : Int) + (p : Int) = ((z + p : Nat) : Int) := (Int.natCast_add z p).symm
          rw [e9, ens_set, hst2.out] at k5
          clear iw1 iw2 iw3 iw4 iw5 iw6 iwx iwy e9
          go_wp2_with fail
          exact ⟨⟨j + 1, by omega, by go_num, k1, k2, k4, k5, kG, kb⟩, by simp [intOf]; omega⟩
        · obtain rfl : j = 32 := by omega
          rw [← hsucc.out] at k5
          go_wp2_with fail
          exact ⟨⟨i + 1, by omega, by go_num, k1, k2, k4, k5, kG, kb⟩, by simp [intOf]; omega⟩
    · have hi32 : i = 32 := by omega
      rw [hT'.out i hi32] at k5
      subst hi32
      have lt5 := k5.lt
      have ltG := kG.lt
      have lt4 := k4.lt
      clear hT' hoi bx by' lx ly hgx hgy
      go_upto_region 10 with fail
      refine wp_new1 (fun w9 hsz9 k8 hb9 => ?_)
      have k4 := k4.below hb9
      have k5 := k5.below hb9
      have kG := kG.below hb9
      have kb := bel kb hb9
      generalize wr.heap.size = h at k8 lt5 lt4 ltG ⊢
      have k8 : Arr w9 h (mixl 0 (bytn 64 P) (bytn 64 0)) := by rw [hm0.out]; exact k8
      clear hsz9 hb9 k1 k2
      go_wp2_with fail
      go_loopw [10, 9] (fun kv cv wr => ∃ k c : Nat, k ≤ 64 ∧ kv = .int .i64 k ∧ cv = .int .i64 c ∧ val 256 (T.take k) / 256 ^ k = c ∧ c ≤ 67000000 ∧ Arr wr (w.heap.size + 1 + 1) (byts 0) ∧ Arr wr g (ens T) ∧ Arr wr h (mixl k (bytn 64 P) (bytn 64 0)) ∧ Arr wr 0 (el (dgl 32 qN)) ∧ Below w.heap.size w wr) (fun kv _ _ => 64 - (intOf kv).toNat)
      case atStart => exact ⟨0, 0, by omega, rfl, rfl, by simp [val], by omega, k4, k5, k8, kG, kb⟩
      case round =>
        clear k4 k5 k8 kG kb
        obtain ⟨k, c, hk, rfl, rfl, hc, hcb, k4, k5, k8, kG, kb⟩ := hrel
        by_cases hlt : k < 64
        · obtain ⟨x, hx⟩ : ∃ x, T.getD k 0 = x := ⟨_, rfl⟩
          have hbx : x ≤ 66585600 := by have := hTb.out k; omega
          obtain ⟨hd, hs⟩ := hTd.out k hlt
          rw [hc, hx] at hd hs
          have gx := ens_get (getD_getN (xs := T) (i := k) (by rw [hTl.out]; exact hlt))
          rw [hx] at gx
          have hll : (bytn 64 P).length = (bytn 64 0).length := by rw [bytn_len, bytn_len]
          have g8 : (mixl k (bytn 64 P) (bytn 64 0))[k]? = some (.int .u8 0) := by
            rw [mixl_get hll (by rw [bytn_len]; omega), if_neg (Nat.lt_irrefl k), bytn_get 64 0 k (by omega), Nat.zero_div]; rfl
          have gP := bytn_get 64 P k (by omega)
          rw [← hd] at gP
          have hset := mixl_set hll gP
          have hcel := k8.cell g8
          have hfro := k8.frozen k
          have hcelx := k5.cell gx
          have hand := and_255 ((c : Int) + (x : Int))
          have iw1 : IntKind.i64.wrap ((c : Int) + (x : Int)) = (c : Int) + (x : Int) := i64_in (by omega)
          have e9 : ((c : Int) + x) % 256 = (((c + x) % 256 : Nat) : Int) := by omega
          replace e9 := Lib.hid e9
          replace gx := Lib.hid gx
          replace g8 := Lib.hid g8
          replace gP := Lib.hid gP
          replace hset := Lib.hid hset
          replace hd := Lib.hid hd
          replace hs := Lib.hid hs
          replace hc := Lib.hid hc
          replace hx := Lib.hid hx
          go_wp2_with fail
          refine ⟨⟨k + 1, (c + x) / 256, by omega, by go_num, by rw [show ((c : Int) + x) / 256 = (((c + x) / 256 : Nat) : Int) by omega], hs.out, by omega, k4.other (by simp; omega) _, k5.other (by simp; omega) _, ?_, kG.other (by simp; omega) _, kb.setCell (by simp; omega) _⟩, by simp [intOf]; omega⟩
          have := k8.set k (.int .u8 (((c : Int) + x) % 256))
          rw [e9.out, hset.out] at this
          rw [e9.out]
          exact this
        · obtain rfl : k = 64 := by omega
          rw [hmx.out] at k8
          go_wp2_with fail
          refine (c1.out _ _ k8 kG).mono ?_
          rintro e w_3 ⟨rfl, hb_3⟩
          have k4 := k4.below hb_3
          have kb := bel kb hb_3
          clear hb_3
          go_wp2_with (refine wpList_store_arr rfl _ _ _ rfl _ _ rfl rfl _ (by first | assumption | exact Arr.new _ _ _) (by first | (rw [lims_len]; kernel_rfl) | (rw [el_rep]; kernel_rfl) | (rw [el_len]; kernel_rfl) | (rw [byts_len]; kernel_rfl) | (rw [us_len]; kernel_rfl) | kernel_rfl) (by first | (rw [lims_len, lims_len]) | (rw [el_rep, el_rep]) | (rw [el_rep, el_len]; rfl) | (rw [el_len, el_rep]; rfl) | (rw [el_len, el_len]; rfl) | (rw [byts_len, byts_len]) | (rw [lims_len]; rfl) | (rw [byts_len]; rfl) | (rw [us_len, us_len]; rfl) | rfl) (by first | exact lims_one _ _ | exact el_one _ | exact byts_one _ | exact us_one _ | (intro v hv; simp at hv; rcases hv with rfl | rfl | rfl | rfl <;> rfl)) ?_)
          exact bodyPost_ret (results_arr2 Tryd.results13 _ _ _ rfl (by kernel_rfl) _ (by first | assumption | exact Arr.setRow (by assumption) _) (by first | (rw [lims_len]; kernel_rfl) | (rw [el_rep]; kernel_rfl) | (rw [el_len]; kernel_rfl) | (rw [byts_len]; kernel_rfl) | (rw [us_len]; kernel_rfl) | kernel_rfl)) rfl ⟨rfl, below_setRow kb (by omega) _⟩

end Go.Proofs.YtdcbpilibaigmaaDoor
