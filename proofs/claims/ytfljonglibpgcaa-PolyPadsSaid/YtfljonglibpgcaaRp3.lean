/- Reference of poly: Poly. -/
import Derived.Test.YtfljonglibpgcaaRp2
import Derived.Test.YtfljonglibpgcaaPo3
namespace Go.Proofs.Ytfljonglibpgcaa
open Go.RowKit

theorem and_15 : ∀ x : Nat, x < 256 → bits .and .i64 (x : Int) 15 = ((x &&& 15 : Nat) : Int) := by decide +kernel
theorem and_252 : ∀ x : Nat, x < 256 → bits .and .i64 (x : Int) 252 = ((x &&& 252 : Nat) : Int) := by decide +kernel

/-- 17 numbers. -/
def rl (f : Nat → Nat) : List Nat := (List.range 17).map f
theorem rl_len (f : Nat → Nat) : (rl f).length = 17 := by simp [rl]
theorem rl_get (f : Nat → Nat) {i : Nat} (h : i < 17) : (rl f)[i]? = some (f i) := by rw [rl, List.getElem?_map, List.getElem?_range h]; rfl
theorem rl_set (f g : Nat → Nat) {i v : Nat} (h : ∀ j, j < 17 → g j = if j = i then v else f j) : (rl f).set i v = rl g := by
  apply List.ext_getElem?
  intro j
  by_cases hj : j < 17
  · rw [List.getElem?_set, rl_get _ hj, rl_get _ hj, rl_len, h j hj]
    by_cases e : i = j
    · subst e; rw [if_pos rfl, if_pos hj, if_pos rfl]
    · rw [if_neg e, if_neg (fun h => e h.symm)]
  · rw [List.getElem?_eq_none (by rw [List.length_set, rl_len]; omega), List.getElem?_eq_none (by rw [rl_len]; omega)]
theorem rl_congr {f g : Nat → Nat} (h : ∀ j, j < 17 → f j = g j) : rl f = rl g := by
  unfold rl
  exact List.map_congr_left (fun j hj => h j (List.mem_range.1 hj))
theorem rl_zero : rl (fun _ => 0) = List.replicate 17 0 := rfl

def r1 (K i j : Nat) : Nat := if j < i then K / 256 ^ j % 256 else 0
def r2 (K i j : Nat) : Nat := if j % 4 = 3 ∧ j < i then K / 256 ^ j % 256 &&& 15 else if j < 16 then K / 256 ^ j % 256 else 0
def r3 (K i j : Nat) : Nat := if j % 4 = 0 ∧ 4 ≤ j ∧ j < i ∧ j < 16 then K / 256 ^ j % 256 &&& 252 else r2 K 19 j
theorem r3_end (K : Nat) : rl (r3 K 16) = digs 256 17 (polyR K) := by
  apply List.ext_getElem?
  intro j
  by_cases hj : j < 17
  · rw [rl_get _ hj, digs_get _ _ _ _ hj]
    by_cases h16 : j < 16
    · rw [polyR_digit K j h16, r3, r2]
      have hx : K / 256 ^ j % 256 < 256 := Nat.mod_lt _ (by decide)
      generalize K / 256 ^ j % 256 = x at hx
      have h255 : x &&& 255 = x := by
        have := Nat.and_two_pow_sub_one_eq_mod x 8
        rw [show (2 : Nat) ^ 8 - 1 = 255 by decide] at this
        omega
      have hcase : j = 0 ∨ j = 1 ∨ j = 2 ∨ j = 3 ∨ j = 4 ∨ j = 5 ∨ j = 6 ∨ j = 7 ∨ j = 8 ∨ j = 9 ∨ j = 10 ∨ j = 11 ∨ j = 12 ∨ j = 13 ∨ j = 14 ∨ j = 15 := by omega
      rcases hcase with rfl | rfl | rfl | rfl | rfl | rfl | rfl | rfl | rfl | rfl | rfl | rfl | rfl | rfl | rfl | rfl <;> simp [maskL, h255]
    · obtain rfl : j = 16 := by omega
      rw [Nat.div_eq_of_lt (Nat.lt_trans (polyR_lt K) (by decide)), Nat.zero_mod]
      rfl
  · rw [List.getElem?_eq_none (by rw [rl_len]; omega), List.getElem?_eq_none (by rw [digs_len]; omega)]

theorem rfuns (K : Nat) : ∃ A1 A2 A3 : Nat → List Nat, A1 0 = List.replicate 17 0 ∧ (∀ i, i < 16 → (A1 i)[i]? = some 0) ∧ (∀ i, i < 16 → (A1 i).set i (K / 256 ^ i % 256) = A1 (i + 1)) ∧ A1 16 = A2 3 ∧
    (∀ i, i % 4 = 3 → i < 16 → (A2 i)[i]? = some (K / 256 ^ i % 256)) ∧ (∀ i, i % 4 = 3 → i < 16 → (A2 i).set i (K / 256 ^ i % 256 &&& 15) = A2 (i + 4)) ∧ A2 19 = A3 4 ∧
    (∀ i, i % 4 = 0 → 4 ≤ i → i < 16 → (A3 i)[i]? = some (K / 256 ^ i % 256)) ∧ (∀ i, i % 4 = 0 → 4 ≤ i → i < 16 → (A3 i).set i (K / 256 ^ i % 256 &&& 252) = A3 (i + 4)) ∧ A3 16 = digs 256 17 (polyR K) := by
  refine ⟨fun i => rl (r1 K i), fun i => rl (r2 K i), fun i => rl (r3 K i), ?_, ?_, ?_, ?_, ?_, ?_, ?_, ?_, ?_, r3_end K⟩
  · rw [← rl_zero]; exact rl_congr (fun j _ => by unfold r1; rw [if_neg (by omega)])
  · intro i hi
    rw [rl_get _ (by omega), r1, if_neg (by omega)]
  · intro i hi
    refine rl_set _ _ (fun j _ => ?_)
    unfold r1
    by_cases h : j = i
    · subst h; rw [if_pos (by omega), if_pos rfl]
    · rw [if_neg h]
      by_cases h2 : j < i
      · rw [if_pos h2, if_pos (by omega)]
      · rw [if_neg h2, if_neg (by omega)]
  · refine rl_congr (fun j hj => ?_)
    unfold r1 r2
    by_cases h : j % 4 = 3 ∧ j < 3
    · omega
    · rw [if_neg h]
  · intro i h3 hi
    rw [rl_get _ (by omega), r2, if_neg (by omega), if_pos hi]
  · intro i h3 hi
    refine rl_set _ _ (fun j hj => ?_)
    unfold r2
    by_cases h : j = i
    · subst h; rw [if_pos rfl, if_pos ⟨h3, by omega⟩]
    · rw [if_neg h]
      by_cases h2 : j % 4 = 3 ∧ j < i
      · rw [if_pos h2, if_pos ⟨h2.1, by omega⟩]
      · rw [if_neg h2, if_neg (by omega)]
  · exact rl_congr (fun j hj => by unfold r3; rw [if_neg (by omega)])
  · intro i h0 h4 hi
    rw [rl_get _ (by omega), r3, if_neg (by omega), r2, if_neg (by omega), if_pos hi]
  · intro i h0 h4 hi
    refine rl_set _ _ (fun j hj => ?_)
    unfold r3
    by_cases h : j = i
    · subst h; rw [if_pos rfl, if_pos ⟨h0, h4, by omega, hi⟩]
    · rw [if_neg h]
      by_cases h2 : j % 4 = 0 ∧ 4 ≤ j ∧ j < i ∧ j < 16
      · rw [if_pos h2, if_pos ⟨h2.1, h2.2.1, by omega, h2.2.2.2⟩]
      · rw [if_neg h2, if_neg (by omega)]

/-- A block's digits. -/
def cL (bs : List UInt8) : List Nat := (bs.map (fun (x : UInt8) => x.toNat) ++ List.replicate (17 - bs.length) 0).set bs.length 1
theorem cL_len {bs : List UInt8} (h : bs.length ≤ 16) : (cL bs).length = 17 := by simp [cL]; omega
theorem cL_val {bs : List UInt8} (h : bs.length ≤ 16) : val 256 (cL bs) = blkV bs := by
  have e : cL bs = bs.map (fun (x : UInt8) => x.toNat) ++ 1 :: List.replicate (16 - bs.length) 0 := by
    rw [cL, show 17 - bs.length = (16 - bs.length) + 1 by omega, List.replicate_succ, List.set_append_right _ _ (by rw [List.length_map]; exact Nat.le_refl _), List.length_map, Nat.sub_self, List.set_cons_zero]
  rw [e, val_append, val, val_zeros, List.length_map, Nat.mul_zero, Nat.add_zero, Nat.mul_one]
  rfl
theorem cL_le {bs : List UInt8} : Le 255 (cL bs) := by
  intro m
  rw [List.getD_eq_getElem?_getD]
  cases h : (cL bs)[m]? with
  | none => simp
  | some d =>
    rcases List.mem_or_eq_of_mem_set (List.mem_of_getElem? h) with hd | rfl
    · rcases List.mem_append.1 hd with hd | hd
      · simp only [List.mem_map] at hd; obtain ⟨y, -, rfl⟩ := hd; have := y.toNat_lt; simp; omega
      · rw [List.mem_replicate] at hd; simp; omega
    · simp
/-- A sum digit by digit. -/
def zadd (xs ys : List Nat) : List Nat := List.zipWith (· + ·) xs ys
theorem zadd_len {xs ys : List Nat} (hx : xs.length = 17) (hy : ys.length = 17) : (zadd xs ys).length = 17 := by rw [zadd, List.length_zipWith, hx, hy]; rfl
theorem zadd_get {xs ys : List Nat} (hx : xs.length = 17) (hy : ys.length = 17) {i : Nat} (hi : i < 17) : (zadd xs ys)[i]? = some (xs.getD i 0 + ys.getD i 0) := by
  rw [zadd, List.getElem?_zipWith, getD_getN (by omega), getD_getN (by omega)]
theorem zadd_val : ∀ (xs ys : List Nat), xs.length = ys.length → val 256 (zadd xs ys) = val 256 xs + val 256 ys
  | [], [], _ => rfl
  | x :: xs, y :: ys, h => by
    have ih := zadd_val xs ys (by simpa using h)
    unfold zadd at *
    rw [List.zipWith_cons_cons, val, val, val, ih]; omega
theorem zadd_le {xs ys : List Nat} (hx : xs.length = 17) (hy : ys.length = 17) (bx : Le 255 xs) (by' : Le 255 ys) : Le 600 (zadd xs ys) := by
  intro m
  rw [List.getD_eq_getElem?_getD]
  by_cases h : m < 17
  · rw [zadd_get hx hy h, Option.getD_some]
    have := bx m; have := by' m
    omega
  · rw [List.getElem?_eq_none (by rw [zadd_len hx hy]; omega)]; simp

theorem blk_copy {l : List UInt8} {j : Nat} (h : j < l.length) (k : Nat) : ((l.take j).map (fun (x : UInt8) => x.toNat) ++ List.replicate (k + 1) 0).set j l[j].toNat = (l.take (j + 1)).map (fun (x : UInt8) => x.toNat) ++ List.replicate k 0 := by
  rw [List.set_append_right _ _ (by simp; omega), List.length_map, List.length_take, Nat.min_eq_left (by omega), Nat.sub_self, List.replicate_succ, List.set_cons_zero, List.take_succ_eq_append_getElem h, List.map_append, List.append_assoc]
  rfl


set_option maxHeartbeats 8000000 in
set_option maxRecDepth 100000 in
theorem rpoly_any (K : Nat) (hK : K < 256 ^ 32) (d : Option Addr) (cap : Nat) (L : List UInt8) (hL : L.length < 2 ^ 60) (w : World) (hs : Sl w (.slice d L.length cap) (u8s L)) :
    Calls Try.prog 11 #[.agg (byts K).toArray, .slice d L.length cap] w fun e w' => e = .returned (.agg (bytn 16 (polyT (polyR K) (K / 2 ^ 128) L)).toArray) ∧ Below w.heap.size w w' := by
  have hlen := hs.len
  rw [u8s_len] at hlen
  obtain ⟨-, hlc, hcm⟩ := hlen
  unfold maxLen at hcm
  obtain ⟨A1, A2, A3, a10, a1g, a1s, a1e, a2g, a2s, a2e, a3g, a3s, a3e⟩ := rfuns K
  have hRl := polyR_lt K
  obtain ⟨R, hR⟩ : ∃ R, polyR K = R := ⟨_, rfl⟩
  rw [hR] at a3e hRl ⊢
  obtain ⟨X, hX⟩ : ∃ X, Ending.returned (.agg (bytn 16 (polyT R (K / 2 ^ 128) L)).toArray) = X := ⟨_, rfl⟩
  rw [hX]
  have hRv : val 256 (digs 256 17 R) = R := by rw [val_digs, Nat.mod_eq_of_lt (Nat.lt_trans hRl (by decide))]
  have hDl := digs_len 256 17 R
  have hDb := le_digs 17 R
  obtain ⟨DR, hDR⟩ : ∃ l, digs 256 17 R = l := ⟨_, rfl⟩
  rw [hDR] at a3e hRv hDl hDb
  have hstep : ∀ k W (bs : List UInt8), 16 * k < L.length → W < 2 ^ 130 → W % p13 = polyK R L k → (L.drop (16 * k)).take 16 = bs → bs.length ≤ 16 → ∃ V, V < 2 ^ 130 ∧ V % p13 = polyK R L (k + 1) ∧
      ∀ w, Calls Try.prog 13 #[.agg (ens (zadd (digs 256 17 W) (cL bs))).toArray, .agg (ens DR).toArray] w fun e w' => e = .returned (.agg (ens (digs 256 17 V)).toArray) ∧ Below w.heap.size w w' := by
    intro k W bs _ hW hWk hbs hbl
    have hcl := cL_len hbl
    have hz := zadd_len (digs_len 256 17 W) hcl
    have hzb := zadd_le (digs_len 256 17 W) hcl (le_digs 17 W) cL_le
    have htl := val_le (timesL_le hzb hDb)
    rw [timesL_len] at htl
    refine ⟨_, fold13_two (Nat.lt_of_le_of_lt htl (by decide)), ?_, fun w => rtimes_any _ _ hz hDl hzb hDb w⟩
    rw [fold13_mod, fold13_mod, timesL_mod hz hDl, hRv, zadd_val _ _ (by rw [digs_len, hcl]), cL_val hbl, val_digs, Nat.mod_eq_of_lt (Nat.lt_trans hW (by decide)), polyK, hbs, ← hWk]
    have := turn_mod (r := R) (h := W) (b := blkV bs) rfl
    rwa [fold13_mod] at this
  have hend : ∀ k W, ¬ 16 * k < L.length → 16 * k ≤ L.length + 15 → W < 2 ^ 130 → W % p13 = polyK R L k → W % p13 = polyK R L ((L.length + 15) / 16) := by
    intro k W h1 h2 _ h3
    rw [h3, show (L.length + 15) / 16 = k by omega]
  replace hs := Lib.hid hs
  replace hX := Lib.hid hX
  replace hRl := Lib.hid hRl
  have hDl_ := Lib.hid hDl
  clear hDl
  replace hstep := Lib.hid hstep
  replace hend := Lib.hid hend
  replace a10 := Lib.hid a10
  replace a1g := Lib.hid a1g
  replace a1s := Lib.hid a1s
  replace a1e := Lib.hid a1e
  replace a2g := Lib.hid a2g
  replace a2s := Lib.hid a2s
  replace a2e := Lib.hid a2e
  replace a3g := Lib.hid a3g
  replace a3s := Lib.hid a3s
  replace a3e := Lib.hid a3e
  replace hK := Lib.hid hK
  clear hR hDR hRv hDb
  go_enter Try.func11, Try.ntmps11
  go_upto_region 1 with fail
  refine wp_new2 (fun W hsz k2 k4 kb => ?_)
  have k4 : Arr W (w.heap.size + 1) (bytn 16 0) := k4
  have lt2 := k2.lt
  have lt4 := k4.lt
  clear hsz
  go_upto_region 3 with fail
  refine wp_new2 (fun w9 hsz9 k5 k6 hb9 => ?_)
  have k2 := k2.below hb9
  have k4 := k4.below hb9
  have kb := bel kb hb9
  generalize W.heap.size = g5 at k5 k6 lt2 lt4 ⊢
  have k5 : Arr w9 g5 (ens (A1 0)) := by rw [a10.out]; exact k5
  have k6 : Arr w9 (g5 + 1) (ens (digs 256 17 0)) := k6
  clear hsz9 hb9
  go_wp2_with fail
  go_loopw [7] (fun iv wr => ∃ i : Nat, i ≤ 16 ∧ iv = .int .i64 i ∧ Arr wr w.heap.size (byts K) ∧ Arr wr (w.heap.size + 1) (bytn 16 0) ∧ Arr wr g5 (ens (A1 i)) ∧ Arr wr (g5 + 1) (ens (digs 256 17 0)) ∧ Below w.heap.size w wr) (fun iv _ => 16 - (intOf iv).toNat)
  case atStart => exact ⟨0, by omega, rfl, k2, k4, k5, k6, kb⟩
  case round =>
    clear k2 k4 k5 k6 kb
    obtain ⟨i, hi, rfl, k2, k4, k5, k6, kb⟩ := hrel
    by_cases hlt : i < 16
    · have gx := byts_get K i (by omega)
      have ga := a1g.out i hlt
      have hset := a1s.out i hlt
      obtain ⟨x, hx⟩ : ∃ x, K / 256 ^ i % 256 = x := ⟨_, rfl⟩
      have hxl : x < 256 := hx ▸ Nat.mod_lt _ (by decide)
      rw [hx] at gx hset
      have ga := ens_get ga
      have hcel := k5.cell ga
      have hfro := k5.frozen i
      have hcel2 := k2.cell gx
      replace hset := Lib.hid hset
      replace gx := Lib.hid gx
      replace ga := Lib.hid ga
      replace hx := Lib.hid hx
      go_wp2_with fail
      refine ⟨⟨i + 1, by omega, by go_num, k2.other (by simp; omega) _, k4.other (by simp; omega) _, ?_, k6.other (by simp) _, kb.setCell (by simp; omega) _⟩, by simp [intOf]; omega⟩
      have := k5.set i (.int .i64 (x : Int))
      rw [ens_set, hset.out] at this
      exact this
    · have hi16 : i = 16 := by omega
      rw [hi16, a1e.out] at k5
      clear a10 a1g a1s a1e
      go_wp2_with fail
      clear hi hlt hi16
      go_loopw [8] (fun iv wr => ∃ i : Nat, i % 4 = 3 ∧ i ≤ 19 ∧ iv = .int .i64 i ∧ Arr wr w.heap.size (byts K) ∧ Arr wr (w.heap.size + 1) (bytn 16 0) ∧ Arr wr g5 (ens (A2 i)) ∧ Arr wr (g5 + 1) (ens (digs 256 17 0)) ∧ Below w.heap.size w wr) (fun iv _ => 19 - (intOf iv).toNat)
      case atStart => exact ⟨3, by omega, by omega, rfl, k2, k4, k5, k6, kb⟩
      case round =>
        clear k2 k4 k5 k6 kb
        obtain ⟨i, hi4, hi, rfl, k2, k4, k5, k6, kb⟩ := hrel
        by_cases hlt : i < 16
        · have ga := a2g.out i hi4 hlt
          have hset := a2s.out i hi4 hlt
          obtain ⟨x, hx⟩ : ∃ x, K / 256 ^ i % 256 = x := ⟨_, rfl⟩
          have hxl : x < 256 := hx ▸ Nat.mod_lt _ (by decide)
          rw [hx] at ga hset
          have hand := and_15 x hxl
          obtain ⟨y, hy⟩ : ∃ y, x &&& 15 = y := ⟨_, rfl⟩
          rw [hy] at hset hand
          have ga := ens_get ga
          have hcel := k5.cell ga
          have hfro := k5.frozen i
          replace hset := Lib.hid hset
          replace ga := Lib.hid ga
          replace hx := Lib.hid hx
          replace hy := Lib.hid hy
          have iw1 : IntKind.i64.wrap ((i : Int) + 4) = (i : Int) + 4 := i64_in (by omega)
          go_wp2_with fail
          refine ⟨⟨i + 4, by omega, by omega, by go_num, k2.other (by simp; omega) _, k4.other (by simp; omega) _, ?_, k6.other (by simp) _, kb.setCell (by simp; omega) _⟩, by simp [intOf]; omega⟩
          have := k5.set i (.int .i64 (y : Int))
          rw [ens_set, hset.out] at this
          exact this
        · have hi19 : i = 19 := by omega
          rw [hi19, a2e.out] at k5
          clear a2g a2s a2e
          go_wp2_with fail
          clear hi hlt hi4 hi19
          go_loopw [9] (fun iv wr => ∃ i : Nat, i % 4 = 0 ∧ 4 ≤ i ∧ i ≤ 16 ∧ iv = .int .i64 i ∧ Arr wr w.heap.size (byts K) ∧ Arr wr (w.heap.size + 1) (bytn 16 0) ∧ Arr wr g5 (ens (A3 i)) ∧ Arr wr (g5 + 1) (ens (digs 256 17 0)) ∧ Below w.heap.size w wr) (fun iv _ => 16 - (intOf iv).toNat)
          case atStart => exact ⟨4, by omega, by omega, by omega, rfl, k2, k4, k5, k6, kb⟩
          case round =>
            clear k2 k4 k5 k6 kb
            obtain ⟨i, hi4, hi0, hi, rfl, k2, k4, k5, k6, kb⟩ := hrel
            by_cases hlt : i < 16
            · have ga := a3g.out i hi4 hi0 hlt
              have hset := a3s.out i hi4 hi0 hlt
              obtain ⟨x, hx⟩ : ∃ x, K / 256 ^ i % 256 = x := ⟨_, rfl⟩
              have hxl : x < 256 := hx ▸ Nat.mod_lt _ (by decide)
              rw [hx] at ga hset
              have hand := and_252 x hxl
              obtain ⟨y, hy⟩ : ∃ y, x &&& 252 = y := ⟨_, rfl⟩
              rw [hy] at hset hand
              have ga := ens_get ga
              have hcel := k5.cell ga
              have hfro := k5.frozen i
              replace hset := Lib.hid hset
              replace ga := Lib.hid ga
              replace hx := Lib.hid hx
              replace hy := Lib.hid hy
              have iw1 : IntKind.i64.wrap ((i : Int) + 4) = (i : Int) + 4 := i64_in (by omega)
              go_wp2_with fail
              refine ⟨⟨i + 4, by omega, by omega, by omega, by go_num, k2.other (by simp; omega) _, k4.other (by simp; omega) _, ?_, k6.other (by simp) _, kb.setCell (by simp; omega) _⟩, by simp [intOf]; omega⟩
              have := k5.set i (.int .i64 (y : Int))
              rw [ens_set, hset.out] at this
              exact this
            · have hi16 : i = 16 := by omega
              rw [hi16, a3e.out] at k5
              clear a3g a3s a3e
              have z0 : 0 < 2 ^ 130 ∧ 0 % p13 = polyK R L 0 := ⟨by decide, rfl⟩
              replace z0 := Lib.hid z0
              go_wp2_with fail
              clear hi hlt hi4 hi0 hi16
              go_loopw [10] (fun iv wr => ∃ k W : Nat, 16 * k ≤ L.length + 15 ∧ iv = .int .i64 (16 * (k : Int)) ∧ (W < 2 ^ 130 ∧ W % p13 = polyK R L k) ∧ Arr wr w.heap.size (byts K) ∧ Arr wr (w.heap.size + 1) (bytn 16 0) ∧ Arr wr g5 (ens DR) ∧ Arr wr (g5 + 1) (ens (digs 256 17 W)) ∧ Below w.heap.size w wr) (fun iv _ => L.length + 16 - (intOf iv).toNat)
              case atStart => exact ⟨0, 0, by omega, rfl, z0.out, k2, k4, k5, k6, kb⟩
              case round =>
                clear k2 k4 k5 k6 kb z0
                obtain ⟨k, W, hk, rfl, hW, k2, k4, k5, k6, kb⟩ := hrel
                by_cases hlt : 16 * k < L.length
                · obtain ⟨bs, hbs⟩ : ∃ bs, (L.drop (16 * k)).take 16 = bs := ⟨_, rfl⟩
                  have hbl : bs.length = min 16 (L.length - 16 * k) := by rw [← hbs, List.length_take, List.length_drop]
                  obtain ⟨V, hV, hVk, c1⟩ := hstep.out k W bs hlt hW.1 hW.2 hbs (by omega)
                  have hbget : ∀ j y, j < min 16 (L.length - 16 * k) → bs[j]? = some y → L[16 * k + j]? = some y := by
                    intro j y hj hy
                    rw [← hbs, List.getElem?_take, if_pos (by omega), List.getElem?_drop] at hy
                    exact hy
                  obtain ⟨n, hn⟩ : ∃ n, min 16 (L.length - 16 * k) = n := ⟨_, rfl⟩
                  rw [hn] at hbl hbget
                  have hn16 : n ≤ 16 := by omega
                  have hnL : 16 * k + n ≤ L.length := by omega
                  have hkn : n = 16 ∧ 16 < L.length - 16 * k ∨ n = L.length - 16 * k ∧ L.length - 16 * k ≤ 16 := by omega
                  have hVV := Lib.hid (And.intro hV hVk)
                  clear hV hVk hW hbs hn hstep
                  replace c1 := Lib.hid c1
                  replace hbl := Lib.hid hbl
                  replace hbget := Lib.hid hbget
                  have iw0 : 16 * (k : Int) < (L.length : Int) := by omega
                  have iwd : IntKind.i64.wrap ((L.length : Int) - 16 * (k : Int)) = (L.length : Int) - 16 * (k : Int) := i64_in (by omega)
                  have lt2 := k2.lt
                  have lt4 := k4.lt
                  have lt5 := k5.lt
                  have lt6 := k6.lt
                  go_upto_region 19 with fail
                  refine wp_new1 (fun w11 hsz11 k11 hb11 => ?_)
                  have k2 := k2.below hb11
                  have k4 := k4.below hb11
                  have k5 := k5.below hb11
                  have k6 := k6.below hb11
                  have kb := bel kb hb11
                  generalize wr.heap.size = gc at k11 lt2 lt4 lt5 lt6 ⊢
                  have k11 : Arr w11 gc (ens ((bs.take 0).map (fun (x : UInt8) => x.toNat) ++ List.replicate (17 - 0) 0)) := k11
                  clear hsz11 hb11
                  rcases hkn with ⟨hnn, hkn⟩ | ⟨hnn, hkn⟩
                  · have iw5 : (16 : Int) < (L.length : Int) - 16 * (k : Int) := by omega
                    replace hnn := Lib.hid hnn
                    go_upto_region 22 with fail
                    rw [show Value.int IntKind.i64 16 = Value.int IntKind.i64 ((n : Nat) : Int) by rw [hnn.out]; rfl]
                    clear iw5 iwd
                    go_wp2_with fail
                    go_loopw [13] (fun jv wr => ∃ j : Nat, j ≤ n ∧ jv = .int .i64 j ∧ Arr wr w.heap.size (byts K) ∧ Arr wr (w.heap.size + 1) (bytn 16 0) ∧ Arr wr g5 (ens DR) ∧ Arr wr (g5 + 1) (ens (digs 256 17 W)) ∧ Arr wr gc (ens ((bs.take j).map (fun (x : UInt8) => x.toNat) ++ List.replicate (17 - j) 0)) ∧ Below w.heap.size w wr) (fun jv _ => n - (intOf jv).toNat)
                    case atStart => exact ⟨0, by omega, rfl, k2, k4, k5, k6, k11, kb⟩
                    case round =>
                      clear k2 k4 k5 k6 k11 kb
                      obtain ⟨j, hj, rfl, k2, k4, k5, k6, k11, kb⟩ := hrel
                      by_cases hltj : j < n
                      · obtain ⟨y, hy⟩ : ∃ y, bs[j]? = some y := ⟨_, List.getElem?_eq_getElem (by rw [hbl.out]; exact hltj)⟩
                        have hyL := hbget.out j y hltj hy
                        obtain ⟨b2, o2, hdd, -, -, -, hcc⟩ := hs.out.at (by rw [u8s_len]; omega)
                        first | subst hdd | (simp only [Option.some.injEq, Addr.mk.injEq, and_true] at hdd; obtain ⟨rfl, rfl⟩ := hdd)
                        have hcel0 := hcc (16 * k + j) (.int .u8 (y.toNat : Int)) (by simp [u8s, hyL])
                        have hcelb : wr.cell? ⟨b2, o2 + (16 * k + j), none⟩ = some (.int .u8 (y.toNat : Int)) := by rw [kb.cell (World.block_lt_of_cell? w _ hcel0)]; exact hcel0
                        have hyl : y.toNat < 256 := y.toNat_lt
                        have hset : ((bs.take j).map (fun (x : UInt8) => x.toNat) ++ List.replicate (17 - j) 0).set j y.toNat = (bs.take (j + 1)).map (fun (x : UInt8) => x.toNat) ++ List.replicate (17 - (j + 1)) 0 := by
                          have hjl : j < bs.length := by rw [hbl.out]; exact hltj
                          have := blk_copy hjl (16 - j)
                          rw [show bs[j] = y from by rw [List.getElem?_eq_getElem hjl] at hy; exact Option.some.inj hy, show 16 - j + 1 = 17 - j by omega] at this
                          rw [show 17 - (j + 1) = 16 - j by omega]
                          exact this
                        have gc0 : ((bs.take j).map (fun (x : UInt8) => x.toNat) ++ List.replicate (17 - j) 0)[j]? = some 0 := by
                          rw [List.getElem?_append_right (by simp; omega), List.length_map, List.length_take, hbl.out, Nat.min_eq_left (by omega), Nat.sub_self, List.getElem?_replicate, if_pos (by omega)]
                        have gc0 := ens_get gc0
                        have hcel := k11.cell gc0
                        have hfro := k11.frozen j
                        obtain ⟨v, hv⟩ : ∃ v, y.toNat = v := ⟨_, rfl⟩
                        rw [hv] at hcelb hset hyl
                        have iw1 : IntKind.i64.wrap (16 * (k : Int) + (j : Int)) = 16 * (k : Int) + (j : Int) := i64_in (by omega)
                        have iw2 : (16 * (k : Int) + (j : Int)).toNat = 16 * k + j := by omega
                        have iw3 : (0 : Int) ≤ 16 * (k : Int) + (j : Int) := by omega
                        have iw4 : 16 * (k : Int) + (j : Int) < (L.length : Int) := by omega
                        clear hcc hcel0 hy hyL
                        replace hset := Lib.hid hset
                        replace gc0 := Lib.hid gc0
                        replace hv := Lib.hid hv
                        go_wp2_with fail
                        refine ⟨⟨j + 1, by omega, by go_num, k2.other (by simp; omega) _, k4.other (by simp; omega) _, k5.other (by simp; omega) _, k6.other (by simp; omega) _, ?_, kb.setCell (by simp; omega) _⟩, by simp [intOf]; omega⟩
                        have := k11.set j (.int .i64 (v : Int))
                        rw [ens_set, hset.out] at this
                        exact this
                      · obtain rfl : n = j := by omega
                        have hcs : ((bs.take n).map (fun (x : UInt8) => x.toNat) ++ List.replicate (17 - n) 0).set n 1 = cL bs := by
                          rw [cL, hbl.out, List.take_of_length_le (by rw [hbl.out]; exact Nat.le_refl _)]
                        have gc0 : ((bs.take n).map (fun (x : UInt8) => x.toNat) ++ List.replicate (17 - n) 0)[n]? = some 0 := by
                          rw [List.getElem?_append_right (by simp; omega), List.length_map, List.length_take, hbl.out, Nat.min_self, Nat.sub_self, List.getElem?_replicate, if_pos (by omega)]
                        have hCl := cL_len (bs := bs) (by rw [hbl.out]; exact hn16)
                        have hCb := cL_le (bs := bs)
                        have gc0 := ens_get gc0
                        have hcel := k11.cell gc0
                        have hfro := k11.frozen n
                        replace hcs := Lib.hid hcs
                        replace gc0 := Lib.hid gc0
                        replace hCl := Lib.hid hCl
                        replace hCb := Lib.hid hCb
                        have iw5 : (n : Int) < 17 := by omega
                        go_upto_region 27 with fail
                        clear hcel hfro iw5
                        have k11 : Arr (wr.setCell ⟨gc, n, none⟩ (.int .i64 1)) gc (ens (cL bs)) := by
                          have := k11.set n (.int .i64 ((1 : Nat) : Int))
                          rw [ens_set, hcs.out] at this
                          exact this
                        have k2 := k2.other (a := ⟨gc, n, none⟩) (by simp; omega) (.int .i64 1)
                        have k4 := k4.other (a := ⟨gc, n, none⟩) (by simp; omega) (.int .i64 1)
                        have k5 := k5.other (a := ⟨gc, n, none⟩) (by simp; omega) (.int .i64 1)
                        have k6 := k6.other (a := ⟨gc, n, none⟩) (by simp; omega) (.int .i64 1)
                        have kb := kb.setCell (p := ⟨gc, n, none⟩) (by simp; omega) (.int .i64 1)
                        generalize wr.setCell ⟨gc, n, none⟩ (.int .i64 1) = w12 at *
                        have hDl := digs_len 256 17 W
                        have hDb := le_digs 17 W
                        obtain ⟨D, hD⟩ : ∃ D, digs 256 17 W = D := ⟨_, rfl⟩
                        have c1' := c1.out
                        rw [hD] at k6 hDl hDb c1'
                        have hzl := zadd_len hDl hCl.out
                        have hzg := fun i (hi : i < 17) => zadd_get hDl hCl.out hi
                        have hm0 := mixl_zero (zadd D (cL bs)) D
                        have hll : (zadd D (cL bs)).length = D.length := by rw [hzl, hDl]
                        have hall := mixl_all hll
                        rw [hDl] at hall
                        have hzlen : (ens (zadd D (cL bs))).length = 17 := by rw [ens_len, hzl]
                        have hDRl : (ens DR).length = 17 := by rw [ens_len, hDl_.out]
                        rw [← hm0] at k6
                        generalize hCC : cL bs = C at *
                        clear hm0 hD hCC hcs gc0 c1
                        replace hDl := Lib.hid hDl
                        replace hDb := Lib.hid hDb
                        replace c1' := Lib.hid c1'
                        replace hzl := Lib.hid hzl
                        replace hzg := Lib.hid hzg
                        replace hll := Lib.hid hll
                        replace hall := Lib.hid hall
                        replace hzlen := Lib.hid hzlen
                        replace hDRl := Lib.hid hDRl
                        go_wp2_with fail
                        go_loopw [14] (fun iv wr => ∃ i : Nat, i ≤ 17 ∧ iv = .int .i64 i ∧ Arr wr w.heap.size (byts K) ∧ Arr wr (w.heap.size + 1) (bytn 16 0) ∧ Arr wr g5 (ens DR) ∧ Arr wr (g5 + 1) (ens (mixl i (zadd D C) D)) ∧ Arr wr gc (ens C) ∧ Below w.heap.size w wr) (fun iv _ => 17 - (intOf iv).toNat)
                        case atStart => exact ⟨0, by omega, rfl, k2, k4, k5, k6, k11, kb⟩
                        case round =>
                          clear k2 k4 k5 k6 k11 kb
                          obtain ⟨i, hi, rfl, k2, k4, k5, k6, k11, kb⟩ := hrel
                          by_cases hlti : i < 17
                          · obtain ⟨x, hx⟩ : ∃ x, D.getD i 0 = x := ⟨_, rfl⟩
                            obtain ⟨y, hy⟩ : ∃ y, C.getD i 0 = y := ⟨_, rfl⟩
                            have hbx : x ≤ 255 := by have := hDb.out i; omega
                            have hby : y ≤ 255 := by have := hCb.out i; omega
                            have gz := hzg.out i hlti
                            rw [hx, hy] at gz
                            have hset := mixl_set hll.out gz
                            have gx : (mixl i (zadd D C) D)[i]? = some x := by
                              rw [mixl_get hll.out (by rw [hDl.out]; exact hlti), if_neg (Nat.lt_irrefl i), getD_getN (by rw [hDl.out]; exact hlti), hx]
                            have gy := getD_getN (xs := C) (i := i) (by rw [hCl.out]; exact hlti)
                            rw [hy] at gy
                            have gx := Lib.hid (ens_get gx)
                            have gy := Lib.hid (ens_get gy)
                            have iw1 : IntKind.i64.wrap ((x : Int) + (y : Int)) = (x : Int) + (y : Int) := i64_in (by omega)
                            have iw7 : (i : Int) < 17 := by omega
                            replace hset := Lib.hid hset
                            clear gz
                            replace hx := Lib.hid hx
                            replace hy := Lib.hid hy
                            go_upto_region 30 with (first | (refine wpList_load_arr2 rfl _ _ rfl _ rfl (by kernel_rfl) _ (by assumption) (by first | (rw [lims_len]; kernel_rfl) | (rw [el_rep]; kernel_rfl) | (rw [el_len]; kernel_rfl) | (rw [byts_len]; kernel_rfl) | (rw [us_len]; kernel_rfl) | (rw [bytn_len]; kernel_rfl) | (rw [ens_len, digs_len]; kernel_rfl) | kernel_rfl) ?_) | (refine wpList_store_arr rfl _ _ _ rfl _ _ rfl rfl _ (by first | assumption | exact Arr.new _ _ _) (by first | (rw [lims_len]; kernel_rfl) | (rw [el_rep]; kernel_rfl) | (rw [el_len]; kernel_rfl) | (rw [byts_len]; kernel_rfl) | (rw [us_len]; kernel_rfl) | (rw [bytn_len]; kernel_rfl) | (rw [ens_len, digs_len]; kernel_rfl) | kernel_rfl) (by first | (rw [lims_len, lims_len]) | (rw [el_rep, el_rep]) | (rw [el_rep, el_len]; rfl) | (rw [el_len, el_rep]; rfl) | (rw [el_len, el_len]; rfl) | (rw [byts_len, byts_len]) | (rw [lims_len]; rfl) | (rw [byts_len]; rfl) | (rw [us_len, us_len]; rfl) | (rw [bytn_len, bytn_len]) | (rw [bytn_len]; rfl) | (rw [ens_len, ens_len, digs_len, digs_len]) | rfl) (by first | exact lims_one _ _ | exact el_one _ | exact byts_one _ | exact us_one _ | exact bytn_one _ _ | exact ens_one _ | (intro v hv; simp at hv; rcases hv with rfl | rfl | rfl | rfl <;> rfl)) ?_))
                            refine Tx.start (fun w' => Below (wr).heap.size (wr) w') 9 10 rfl (by kernel_rfl) ?_
                            have hS_1 : Below (wr).heap.size (wr) (World.drew wr) := (Below.refl _ _).drew
                            refine Tx.seg (A := ?_) 1 511 (by kernel_rfl) (by exact hS_1) [0, 1, 2, 3, 4, 5, 6, 7, 8] (by kernel_rfl) ?_ ?_
                            rotate_left
                            · intro w' hB
                              have e0 := k2.below hB
                              have e1 := k4.below hB
                              have e2 := k5.below hB
                              have e3 := k6.below hB
                              have e4 := k11.below hB
                              have c1 := (k6.below hB).cell gx.out
                              have c2 := (k11.below hB).cell gy.out
                              iterate 9 (first | (refine rd_skip rfl rfl ?_; simp only [Act.put, List.setIfInBounds_toArray, List.set_cons_zero, List.set_cons_succ]) | (refine rd_load_arr rfl rfl _ _ rfl _ rfl (by kernel_rfl) _ (by assumption) (by first | (rw [lims_len]; kernel_rfl) | (rw [el_rep]; kernel_rfl) | (rw [el_len]; kernel_rfl) | (rw [byts_len]; kernel_rfl) | (rw [us_len]; kernel_rfl) | (rw [bytn_len]; kernel_rfl) | (rw [ens_len, digs_len]; kernel_rfl) | kernel_rfl) ?_; simp only [Act.put, List.setIfInBounds_toArray, List.set_cons_zero, List.set_cons_succ]) | (refine rd_take (v := ?_) rfl rfl ?_ ?_; rotate_left; (focus (go_simp; try (with_reducible rfl))); simp only [Act.put, List.setIfInBounds_toArray, List.set_cons_zero, List.set_cons_succ]))
                              exact rd_nil
                            have k2 := k2.below hS_1
                            have k4 := k4.below hS_1
                            have k5 := k5.below hS_1
                            have k6 := k6.below hS_1
                            have k11 := k11.below hS_1
                            have kb := bel kb hS_1
                            have hcel := k6.cell gx.out
                            have hfro := fun j => k6.frozen j
                            refine Tx.bar 1023 rfl (by decide +kernel) (fun K hK => ?_)
                            go_simp
                            refine hK (fun _ => True) 9999 _ _ ?_
                            clear hK K
                            try simp only [Act.put]
                            try simp only [List.setIfInBounds_toArray, List.set_cons_zero, List.set_cons_succ]
                            refine Tx.done (by kernel_rfl) ?_
                            first | refine then_cellD k6 (fun w_2 k6 hoth hbel => ?_) | refine inb_cellD k6 (fun w_2 k6 hoth hbel => ?_)
                            have k2 := hoth _ _ (by omega) k2
                            have k4 := hoth _ _ (by omega) k4
                            have k5 := hoth _ _ (by omega) k5
                            have k11 := hoth _ _ (by omega) k11
                            have kb := hbel _ _ (by omega) kb
                            clear hoth hbel
                            clear hcel hfro
                            have e9 : (x : Int) + (y : Int) = ((x + y : Nat) : Int) := (Int.natCast_add x y).symm
                            rw [e9, ens_set, hset.out] at k6
                            clear iw1 e9
                            go_wp2_with fail
                            exact ⟨⟨i + 1, by omega, by go_num, k2, k4, k5, k6, k11, kb⟩, by simp [intOf]; omega⟩
                          · obtain rfl : i = 17 := by omega
                            rw [hall.out] at k6
                            have iwk : IntKind.i64.wrap (16 * (k : Int) + 16) = 16 * (k : Int) + 16 := i64_in (by omega)
                            go_wp2_with (first | (refine wpList_load_arr2 rfl _ _ rfl _ rfl (by kernel_rfl) _ k6 (by rw [hzlen.out]; kernel_rfl) ?_) | (refine wpList_load_arr2 rfl _ _ rfl _ rfl (by kernel_rfl) _ k5 (by rw [hDRl.out]; kernel_rfl) ?_))
                            refine (c1'.out _).mono ?_
                            rintro e w_3 ⟨rfl, hb_3⟩
                            have k2 := k2.below hb_3
                            have k4 := k4.below hb_3
                            have k5 := k5.below hb_3
                            have k6 := k6.below hb_3
                            have kb := bel kb hb_3
                            clear hb_3
                            go_wp2_with (refine wpList_store_arr rfl _ _ _ rfl _ _ rfl rfl _ k6 (by rw [ens_digs_len]; kernel_rfl) (by rw [ens_digs_len]; exact hzlen.out) (ens_one _) ?_)
                            refine ⟨⟨k + 1, V, by omega, by rw [show 16 * (k : Int) + 16 = 16 * ((k + 1 : Nat) : Int) by omega], hVV.out, k2.row_other (by omega) _, k4.row_other (by omega) _, k5.row_other (by omega) _, k6.setRow _, below_setRow kb (by omega) _⟩, by simp [intOf]; omega⟩
                  · have iw5 : ¬ (16 : Int) < (L.length : Int) - 16 * (k : Int) := by omega
                    have hnI : (L.length : Int) - 16 * (k : Int) = (n : Int) := by omega
                    replace hnn := Lib.hid hnn
                    replace hnI := Lib.hid hnI
                    go_upto_region 22 with fail
                    rw [hnI.out]
                    clear iw5 iwd
                    go_wp2_with fail
                    go_loopw [13] (fun jv wr => ∃ j : Nat, j ≤ n ∧ jv = .int .i64 j ∧ Arr wr w.heap.size (byts K) ∧ Arr wr (w.heap.size + 1) (bytn 16 0) ∧ Arr wr g5 (ens DR) ∧ Arr wr (g5 + 1) (ens (digs 256 17 W)) ∧ Arr wr gc (ens ((bs.take j).map (fun (x : UInt8) => x.toNat) ++ List.replicate (17 - j) 0)) ∧ Below w.heap.size w wr) (fun jv _ => n - (intOf jv).toNat)
                    case atStart => exact ⟨0, by omega, rfl, k2, k4, k5, k6, k11, kb⟩
                    case round =>
                      clear k2 k4 k5 k6 k11 kb
                      obtain ⟨j, hj, rfl, k2, k4, k5, k6, k11, kb⟩ := hrel
                      by_cases hltj : j < n
                      · obtain ⟨y, hy⟩ : ∃ y, bs[j]? = some y := ⟨_, List.getElem?_eq_getElem (by rw [hbl.out]; exact hltj)⟩
                        have hyL := hbget.out j y hltj hy
                        obtain ⟨b2, o2, hdd, -, -, -, hcc⟩ := hs.out.at (by rw [u8s_len]; omega)
                        first | subst hdd | (simp only [Option.some.injEq, Addr.mk.injEq, and_true] at hdd; obtain ⟨rfl, rfl⟩ := hdd)
                        have hcel0 := hcc (16 * k + j) (.int .u8 (y.toNat : Int)) (by simp [u8s, hyL])
                        have hcelb : wr.cell? ⟨b2, o2 + (16 * k + j), none⟩ = some (.int .u8 (y.toNat : Int)) := by rw [kb.cell (World.block_lt_of_cell? w _ hcel0)]; exact hcel0
                        have hyl : y.toNat < 256 := y.toNat_lt
                        have hset : ((bs.take j).map (fun (x : UInt8) => x.toNat) ++ List.replicate (17 - j) 0).set j y.toNat = (bs.take (j + 1)).map (fun (x : UInt8) => x.toNat) ++ List.replicate (17 - (j + 1)) 0 := by
                          have hjl : j < bs.length := by rw [hbl.out]; exact hltj
                          have := blk_copy hjl (16 - j)
                          rw [show bs[j] = y from by rw [List.getElem?_eq_getElem hjl] at hy; exact Option.some.inj hy, show 16 - j + 1 = 17 - j by omega] at this
                          rw [show 17 - (j + 1) = 16 - j by omega]
                          exact this
                        have gc0 : ((bs.take j).map (fun (x : UInt8) => x.toNat) ++ List.replicate (17 - j) 0)[j]? = some 0 := by
                          rw [List.getElem?_append_right (by simp; omega), List.length_map, List.length_take, hbl.out, Nat.min_eq_left (by omega), Nat.sub_self, List.getElem?_replicate, if_pos (by omega)]
                        have gc0 := ens_get gc0
                        have hcel := k11.cell gc0
                        have hfro := k11.frozen j
                        obtain ⟨v, hv⟩ : ∃ v, y.toNat = v := ⟨_, rfl⟩
                        rw [hv] at hcelb hset hyl
                        have iw1 : IntKind.i64.wrap (16 * (k : Int) + (j : Int)) = 16 * (k : Int) + (j : Int) := i64_in (by omega)
                        have iw2 : (16 * (k : Int) + (j : Int)).toNat = 16 * k + j := by omega
                        have iw3 : (0 : Int) ≤ 16 * (k : Int) + (j : Int) := by omega
                        have iw4 : 16 * (k : Int) + (j : Int) < (L.length : Int) := by omega
                        clear hcc hcel0 hy hyL
                        replace hset := Lib.hid hset
                        replace gc0 := Lib.hid gc0
                        replace hv := Lib.hid hv
                        go_wp2_with fail
                        refine ⟨⟨j + 1, by omega, by go_num, k2.other (by simp; omega) _, k4.other (by simp; omega) _, k5.other (by simp; omega) _, k6.other (by simp; omega) _, ?_, kb.setCell (by simp; omega) _⟩, by simp [intOf]; omega⟩
                        have := k11.set j (.int .i64 (v : Int))
                        rw [ens_set, hset.out] at this
                        exact this
                      · obtain rfl : n = j := by omega
                        have hcs : ((bs.take n).map (fun (x : UInt8) => x.toNat) ++ List.replicate (17 - n) 0).set n 1 = cL bs := by
                          rw [cL, hbl.out, List.take_of_length_le (by rw [hbl.out]; exact Nat.le_refl _)]
                        have gc0 : ((bs.take n).map (fun (x : UInt8) => x.toNat) ++ List.replicate (17 - n) 0)[n]? = some 0 := by
                          rw [List.getElem?_append_right (by simp; omega), List.length_map, List.length_take, hbl.out, Nat.min_self, Nat.sub_self, List.getElem?_replicate, if_pos (by omega)]
                        have hCl := cL_len (bs := bs) (by rw [hbl.out]; exact hn16)
                        have hCb := cL_le (bs := bs)
                        have gc0 := ens_get gc0
                        have hcel := k11.cell gc0
                        have hfro := k11.frozen n
                        replace hcs := Lib.hid hcs
                        replace gc0 := Lib.hid gc0
                        replace hCl := Lib.hid hCl
                        replace hCb := Lib.hid hCb
                        have iw5 : (n : Int) < 17 := by omega
                        go_upto_region 27 with fail
                        clear hcel hfro iw5
                        have k11 : Arr (wr.setCell ⟨gc, n, none⟩ (.int .i64 1)) gc (ens (cL bs)) := by
                          have := k11.set n (.int .i64 ((1 : Nat) : Int))
                          rw [ens_set, hcs.out] at this
                          exact this
                        have k2 := k2.other (a := ⟨gc, n, none⟩) (by simp; omega) (.int .i64 1)
                        have k4 := k4.other (a := ⟨gc, n, none⟩) (by simp; omega) (.int .i64 1)
                        have k5 := k5.other (a := ⟨gc, n, none⟩) (by simp; omega) (.int .i64 1)
                        have k6 := k6.other (a := ⟨gc, n, none⟩) (by simp; omega) (.int .i64 1)
                        have kb := kb.setCell (p := ⟨gc, n, none⟩) (by simp; omega) (.int .i64 1)
                        generalize wr.setCell ⟨gc, n, none⟩ (.int .i64 1) = w12 at *
                        have hDl := digs_len 256 17 W
                        have hDb := le_digs 17 W
                        obtain ⟨D, hD⟩ : ∃ D, digs 256 17 W = D := ⟨_, rfl⟩
                        have c1' := c1.out
                        rw [hD] at k6 hDl hDb c1'
                        have hzl := zadd_len hDl hCl.out
                        have hzg := fun i (hi : i < 17) => zadd_get hDl hCl.out hi
                        have hm0 := mixl_zero (zadd D (cL bs)) D
                        have hll : (zadd D (cL bs)).length = D.length := by rw [hzl, hDl]
                        have hall := mixl_all hll
                        rw [hDl] at hall
                        have hzlen : (ens (zadd D (cL bs))).length = 17 := by rw [ens_len, hzl]
                        have hDRl : (ens DR).length = 17 := by rw [ens_len, hDl_.out]
                        rw [← hm0] at k6
                        generalize hCC : cL bs = C at *
                        clear hm0 hD hCC hcs gc0 c1
                        replace hDl := Lib.hid hDl
                        replace hDb := Lib.hid hDb
                        replace c1' := Lib.hid c1'
                        replace hzl := Lib.hid hzl
                        replace hzg := Lib.hid hzg
                        replace hll := Lib.hid hll
                        replace hall := Lib.hid hall
                        replace hzlen := Lib.hid hzlen
                        replace hDRl := Lib.hid hDRl
                        go_wp2_with fail
                        go_loopw [14] (fun iv wr => ∃ i : Nat, i ≤ 17 ∧ iv = .int .i64 i ∧ Arr wr w.heap.size (byts K) ∧ Arr wr (w.heap.size + 1) (bytn 16 0) ∧ Arr wr g5 (ens DR) ∧ Arr wr (g5 + 1) (ens (mixl i (zadd D C) D)) ∧ Arr wr gc (ens C) ∧ Below w.heap.size w wr) (fun iv _ => 17 - (intOf iv).toNat)
                        case atStart => exact ⟨0, by omega, rfl, k2, k4, k5, k6, k11, kb⟩
                        case round =>
                          clear k2 k4 k5 k6 k11 kb
                          obtain ⟨i, hi, rfl, k2, k4, k5, k6, k11, kb⟩ := hrel
                          by_cases hlti : i < 17
                          · obtain ⟨x, hx⟩ : ∃ x, D.getD i 0 = x := ⟨_, rfl⟩
                            obtain ⟨y, hy⟩ : ∃ y, C.getD i 0 = y := ⟨_, rfl⟩
                            have hbx : x ≤ 255 := by have := hDb.out i; omega
                            have hby : y ≤ 255 := by have := hCb.out i; omega
                            have gz := hzg.out i hlti
                            rw [hx, hy] at gz
                            have hset := mixl_set hll.out gz
                            have gx : (mixl i (zadd D C) D)[i]? = some x := by
                              rw [mixl_get hll.out (by rw [hDl.out]; exact hlti), if_neg (Nat.lt_irrefl i), getD_getN (by rw [hDl.out]; exact hlti), hx]
                            have gy := getD_getN (xs := C) (i := i) (by rw [hCl.out]; exact hlti)
                            rw [hy] at gy
                            have gx := Lib.hid (ens_get gx)
                            have gy := Lib.hid (ens_get gy)
                            have iw1 : IntKind.i64.wrap ((x : Int) + (y : Int)) = (x : Int) + (y : Int) := i64_in (by omega)
                            have iw7 : (i : Int) < 17 := by omega
                            replace hset := Lib.hid hset
                            clear gz
                            replace hx := Lib.hid hx
                            replace hy := Lib.hid hy
                            go_upto_region 30 with (first | (refine wpList_load_arr2 rfl _ _ rfl _ rfl (by kernel_rfl) _ (by assumption) (by first | (rw [lims_len]; kernel_rfl) | (rw [el_rep]; kernel_rfl) | (rw [el_len]; kernel_rfl) | (rw [byts_len]; kernel_rfl) | (rw [us_len]; kernel_rfl) | (rw [bytn_len]; kernel_rfl) | (rw [ens_len, digs_len]; kernel_rfl) | kernel_rfl) ?_) | (refine wpList_store_arr rfl _ _ _ rfl _ _ rfl rfl _ (by first | assumption | exact Arr.new _ _ _) (by first | (rw [lims_len]; kernel_rfl) | (rw [el_rep]; kernel_rfl) | (rw [el_len]; kernel_rfl) | (rw [byts_len]; kernel_rfl) | (rw [us_len]; kernel_rfl) | (rw [bytn_len]; kernel_rfl) | (rw [ens_len, digs_len]; kernel_rfl) | kernel_rfl) (by first | (rw [lims_len, lims_len]) | (rw [el_rep, el_rep]) | (rw [el_rep, el_len]; rfl) | (rw [el_len, el_rep]; rfl) | (rw [el_len, el_len]; rfl) | (rw [byts_len, byts_len]) | (rw [lims_len]; rfl) | (rw [byts_len]; rfl) | (rw [us_len, us_len]; rfl) | (rw [bytn_len, bytn_len]) | (rw [bytn_len]; rfl) | (rw [ens_len, ens_len, digs_len, digs_len]) | rfl) (by first | exact lims_one _ _ | exact el_one _ | exact byts_one _ | exact us_one _ | exact bytn_one _ _ | exact ens_one _ | (intro v hv; simp at hv; rcases hv with rfl | rfl | rfl | rfl <;> rfl)) ?_))
                            refine Tx.start (fun w' => Below (wr).heap.size (wr) w') 9 10 rfl (by kernel_rfl) ?_
                            have hS_4 : Below (wr).heap.size (wr) (World.drew wr) := (Below.refl _ _).drew
                            refine Tx.seg (A := ?_) 1 511 (by kernel_rfl) (by exact hS_4) [0, 1, 2, 3, 4, 5, 6, 7, 8] (by kernel_rfl) ?_ ?_
                            rotate_left
                            · intro w' hB
                              have e0 := k2.below hB
                              have e1 := k4.below hB
                              have e2 := k5.below hB
                              have e3 := k6.below hB
                              have e4 := k11.below hB
                              have c1 := (k6.below hB).cell gx.out
                              have c2 := (k11.below hB).cell gy.out
                              iterate 9 (first | (refine rd_skip rfl rfl ?_; simp only [Act.put, List.setIfInBounds_toArray, List.set_cons_zero, List.set_cons_succ]) | (refine rd_load_arr rfl rfl _ _ rfl _ rfl (by kernel_rfl) _ (by assumption) (by first | (rw [lims_len]; kernel_rfl) | (rw [el_rep]; kernel_rfl) | (rw [el_len]; kernel_rfl) | (rw [byts_len]; kernel_rfl) | (rw [us_len]; kernel_rfl) | (rw [bytn_len]; kernel_rfl) | (rw [ens_len, digs_len]; kernel_rfl) | kernel_rfl) ?_; simp only [Act.put, List.setIfInBounds_toArray, List.set_cons_zero, List.set_cons_succ]) | (refine rd_take (v := ?_) rfl rfl ?_ ?_; rotate_left; (focus (go_simp; try (with_reducible rfl))); simp only [Act.put, List.setIfInBounds_toArray, List.set_cons_zero, List.set_cons_succ]))
                              exact rd_nil
                            have k2 := k2.below hS_4
                            have k4 := k4.below hS_4
                            have k5 := k5.below hS_4
                            have k6 := k6.below hS_4
                            have k11 := k11.below hS_4
                            have kb := bel kb hS_4
                            have hcel := k6.cell gx.out
                            have hfro := fun j => k6.frozen j
                            refine Tx.bar 1023 rfl (by decide +kernel) (fun K hK => ?_)
                            go_simp
                            refine hK (fun _ => True) 9999 _ _ ?_
                            clear hK K
                            try simp only [Act.put]
                            try simp only [List.setIfInBounds_toArray, List.set_cons_zero, List.set_cons_succ]
                            refine Tx.done (by kernel_rfl) ?_
                            first | refine then_cellD k6 (fun w_5 k6 hoth hbel => ?_) | refine inb_cellD k6 (fun w_5 k6 hoth hbel => ?_)
                            have k2 := hoth _ _ (by omega) k2
                            have k4 := hoth _ _ (by omega) k4
                            have k5 := hoth _ _ (by omega) k5
                            have k11 := hoth _ _ (by omega) k11
                            have kb := hbel _ _ (by omega) kb
                            clear hoth hbel
                            clear hcel hfro
                            have e9 : (x : Int) + (y : Int) = ((x + y : Nat) : Int) := (Int.natCast_add x y).symm
                            rw [e9, ens_set, hset.out] at k6
                            clear iw1 e9
                            go_wp2_with fail
                            exact ⟨⟨i + 1, by omega, by go_num, k2, k4, k5, k6, k11, kb⟩, by simp [intOf]; omega⟩
                          · obtain rfl : i = 17 := by omega
                            rw [hall.out] at k6
                            have iwk : IntKind.i64.wrap (16 * (k : Int) + 16) = 16 * (k : Int) + 16 := i64_in (by omega)
                            go_wp2_with (first | (refine wpList_load_arr2 rfl _ _ rfl _ rfl (by kernel_rfl) _ k6 (by rw [hzlen.out]; kernel_rfl) ?_) | (refine wpList_load_arr2 rfl _ _ rfl _ rfl (by kernel_rfl) _ k5 (by rw [hDRl.out]; kernel_rfl) ?_))
                            refine (c1'.out _).mono ?_
                            rintro e w_6 ⟨rfl, hb_6⟩
                            have k2 := k2.below hb_6
                            have k4 := k4.below hb_6
                            have k5 := k5.below hb_6
                            have k6 := k6.below hb_6
                            have kb := bel kb hb_6
                            clear hb_6
                            go_wp2_with (refine wpList_store_arr rfl _ _ _ rfl _ _ rfl rfl _ k6 (by rw [ens_digs_len]; kernel_rfl) (by rw [ens_digs_len]; exact hzlen.out) (ens_one _) ?_)
                            refine ⟨⟨k + 1, V, by omega, by rw [show 16 * (k : Int) + 16 = 16 * ((k + 1 : Nat) : Int) by omega], hVV.out, k2.row_other (by omega) _, k4.row_other (by omega) _, k5.row_other (by omega) _, k6.setRow _, below_setRow kb (by omega) _⟩, by simp [intOf]; omega⟩
                · have hkk := hend.out k W hlt hk hW.1 hW.2
                  obtain ⟨kk, hkk'⟩ : ∃ kk, polyK R L ((L.length + 15) / 16) = kk := ⟨_, rfl⟩
                  obtain ⟨S, hS⟩ : ∃ S, K / 2 ^ 128 = S := ⟨_, rfl⟩
                  have hXX : Ending.returned (.agg (bytn 16 (kk + S)).toArray) = X := by
                    rw [bytn_low, ← hkk', ← hS]; exact hX.out
                  have c2 := fun w => rwhole_any W hW.1 w
                  rw [hkk, hkk'] at c2
                  have hsd : ∀ i, K / 256 ^ (16 + i) % 256 = S / 256 ^ i % 256 := fun i => by
                    rw [← hS, Nat.pow_add, ← Nat.div_div_eq_div_mul, show (256 : Nat) ^ 16 = 2 ^ 128 by decide]
                  have hdig := fun i => carry_digit 256 i kk S (by decide)
                  have hcs := fun i => carry_step 256 i kk S (by decide)
                  have hc0 := carry_zero 256 kk S
                  have hcl := fun i => carry_le 256 i kk S (by decide)
                  have hll : (bytn 16 (kk + S)).length = (bytn 16 0).length := by rw [bytn_len, bytn_len]
                  have hall := mixl_all hll
                  rw [bytn_len] at hall
                  have hm0 := mixl_zero (bytn 16 (kk + S)) (bytn 16 0)
                  have iw0 : ¬ 16 * (k : Int) < (L.length : Int) := by omega
                  clear hstep hend hs hlt hk hW hX hkk hkk' hS
                  obtain ⟨N, hN⟩ : ∃ N, kk + S = N := ⟨_, rfl⟩
                  rw [hN] at hXX hdig hall hm0 hll
                  clear hN
                  replace hXX := Lib.hid hXX
                  replace c2 := Lib.hid c2
                  replace hsd := Lib.hid hsd
                  replace hdig := Lib.hid hdig
                  replace hcs := Lib.hid hcs
                  replace hc0 := Lib.hid hc0
                  replace hcl := Lib.hid hcl
                  replace hll := Lib.hid hll
                  replace hall := Lib.hid hall
                  replace hm0 := Lib.hid hm0
                  have lt2 := k2.lt
                  have lt4 := k4.lt
                  have lt5 := k5.lt
                  have lt6 := k6.lt
                  go_wp2_with (first | (refine wpList_load_arr2 rfl _ _ rfl _ rfl (by kernel_rfl) _ k6 (by rw [ens_digs_len]; kernel_rfl) ?_))
                  refine (c2.out _).mono ?_
                  rintro e w_7 ⟨rfl, hb_7⟩
                  have k2 := k2.below hb_7
                  have k4 := k4.below hb_7
                  have k6 := k6.below hb_7
                  have kb := bel kb hb_7
                  clear hb_7
                  go_upto_region 33 with (refine wpList_store_arr rfl _ _ _ rfl _ _ rfl rfl _ (by first | assumption | exact Arr.new _ _ _) (by first | (rw [lims_len]; kernel_rfl) | (rw [el_rep]; kernel_rfl) | (rw [el_len]; kernel_rfl) | (rw [byts_len]; kernel_rfl) | (rw [us_len]; kernel_rfl) | (rw [bytn_len]; kernel_rfl) | (rw [ens_len, digs_len]; kernel_rfl) | kernel_rfl) (by first | (rw [lims_len, lims_len]) | (rw [el_rep, el_rep]) | (rw [el_rep, el_len]; rfl) | (rw [el_len, el_rep]; rfl) | (rw [el_len, el_len]; rfl) | (rw [byts_len, byts_len]) | (rw [lims_len]; rfl) | (rw [byts_len]; rfl) | (rw [us_len, us_len]; rfl) | (rw [bytn_len, bytn_len]) | (rw [bytn_len]; rfl) | (rw [ens_len, ens_len, digs_len, digs_len]) | rfl) (by first | exact lims_one _ _ | exact el_one _ | exact byts_one _ | exact us_one _ | exact bytn_one _ _ | exact ens_one _ | (intro v hv; simp at hv; rcases hv with rfl | rfl | rfl | rfl <;> rfl)) ?_)
                  refine code_row k6 (fun w_8 k6 hoth hbel => ?_)
                  have k2 := hoth _ _ (by omega) k2
                  have k4 := hoth _ _ (by omega) k4
                  have kb := hbel _ _ (by omega) kb
                  clear hoth hbel
                  go_upto_region 34 with fail
                  have lt2 := k2.lt
                  have lt4 := k4.lt
                  have lt6 := k6.lt
                  refine wp_new1 (fun w13 hsz13 k7 hb13 => ?_)
                  have k2 := k2.below hb13
                  have k4 := k4.below hb13
                  have k6 := k6.below hb13
                  have kb := bel kb hb13
                  generalize (w_8).heap.size = g_k7 at k7 lt2 lt4 lt6 ⊢
                  have k7 : Arr w13 g_k7 (mixl 0 (bytn 16 N) (bytn 16 0)) := by rw [hm0.out]; exact k7
                  clear hsz13 hb13
                  clear c2 hm0
                  go_wp2_with fail
                  go_loopw [17, 16] (fun iv uv wr => ∃ i c : Nat, i ≤ 16 ∧ iv = .int .i64 i ∧ uv = .int .i64 c ∧ carry 256 i kk S = c ∧ Arr wr w.heap.size (byts K) ∧ Arr wr (w.heap.size + 1) (bytn 16 0) ∧ Arr wr (g5 + 1) (ens (digs 256 17 kk)) ∧ Arr wr g_k7 (mixl i (bytn 16 N) (bytn 16 0)) ∧ Below w.heap.size w wr) (fun iv _ _ => 16 - (intOf iv).toNat)
                  case atStart => exact ⟨0, 0, by omega, rfl, rfl, hc0.out, k2, k4, k6, k7, kb⟩
                  case round =>
                    clear k2 k4 k6 k7 kb
                    obtain ⟨i, c, hi, rfl, rfl, hc, k2, k4, k6, k7, kb⟩ := hrel
                    have hc1 : c ≤ 1 := by have := hcl.out i; omega
                    by_cases hlt : i < 16
                    · obtain ⟨x, hx⟩ : ∃ x, kk / 256 ^ i % 256 = x := ⟨_, rfl⟩
                      obtain ⟨y, hy⟩ : ∃ y, S / 256 ^ i % 256 = y := ⟨_, rfl⟩
                      have hxl : x < 256 := hx ▸ Nat.mod_lt _ (by decide)
                      have hyl : y < 256 := hy ▸ Nat.mod_lt _ (by decide)
                      have hd := hdig.out i
                      have hs := hcs.out i
                      rw [hx, hy, hc] at hd hs
                      have g7 : (mixl i (bytn 16 N) (bytn 16 0))[i]? = some (.int .u8 0) := by
                        rw [mixl_get hll.out (by rw [bytn_len]; exact hlt), if_neg (Nat.lt_irrefl i), bytn_get 16 0 i hlt, Nat.zero_div]; rfl
                      have gN := bytn_get 16 N i hlt
                      rw [hd] at gN
                      have hset := mixl_set hll.out gN
                      have gx := digs_get 256 17 kk i (by omega)
                      rw [hx] at gx
                      have gx := ens_get gx
                      have gy := byts_get K (16 + i) (by omega)
                      rw [hsd.out, hy] at gy
                      replace g7 := Lib.hid g7
                      replace gN := Lib.hid gN
                      replace hset := Lib.hid hset
                      replace hd := Lib.hid hd
                      replace hs := Lib.hid hs
                      replace hc := Lib.hid hc
                      replace gx := Lib.hid gx
                      replace gy := Lib.hid gy
                      replace hx := Lib.hid hx
                      replace hy := Lib.hid hy
                      have iw1 : IntKind.i64.wrap ((c : Int) + (x : Int)) = (c : Int) + (x : Int) := i64_in (by omega)
                      have iw2 : IntKind.i64.wrap ((c : Int) + (x : Int) + (y : Int)) = (c : Int) + (x : Int) + (y : Int) := i64_in (by omega)
                      have iw3 : (i : Int) < 17 := by omega
                      have iw4 : IntKind.i64.wrap (16 + (i : Int)) = 16 + (i : Int) := i64_in (by omega)
                      have iw5 : (0 : Int) ≤ 16 + (i : Int) := by omega
                      have iw6 : 16 + (i : Int) < 32 := by omega
                      have iw7 : (16 + (i : Int)).toNat = 16 + i := by omega
                      go_upto_region 38 with (first | (refine wpList_load_arr2 rfl _ _ rfl _ rfl (by kernel_rfl) _ (by assumption) (by first | (rw [lims_len]; kernel_rfl) | (rw [el_rep]; kernel_rfl) | (rw [el_len]; kernel_rfl) | (rw [byts_len]; kernel_rfl) | (rw [us_len]; kernel_rfl) | (rw [bytn_len]; kernel_rfl) | (rw [ens_len, digs_len]; kernel_rfl) | kernel_rfl) ?_) | (refine wpList_store_arr rfl _ _ _ rfl _ _ rfl rfl _ (by first | assumption | exact Arr.new _ _ _) (by first | (rw [lims_len]; kernel_rfl) | (rw [el_rep]; kernel_rfl) | (rw [el_len]; kernel_rfl) | (rw [byts_len]; kernel_rfl) | (rw [us_len]; kernel_rfl) | (rw [bytn_len]; kernel_rfl) | (rw [ens_len, digs_len]; kernel_rfl) | kernel_rfl) (by first | (rw [lims_len, lims_len]) | (rw [el_rep, el_rep]) | (rw [el_rep, el_len]; rfl) | (rw [el_len, el_rep]; rfl) | (rw [el_len, el_len]; rfl) | (rw [byts_len, byts_len]) | (rw [lims_len]; rfl) | (rw [byts_len]; rfl) | (rw [us_len, us_len]; rfl) | (rw [bytn_len, bytn_len]) | (rw [bytn_len]; rfl) | (rw [ens_len, ens_len, digs_len, digs_len]) | rfl) (by first | exact lims_one _ _ | exact el_one _ | exact byts_one _ | exact us_one _ | exact bytn_one _ _ | exact ens_one _ | (intro v hv; simp at hv; rcases hv with rfl | rfl | rfl | rfl <;> rfl)) ?_))
                      refine Tx.start (fun w' => Below (wr).heap.size (wr) w') 9999 12 rfl (by kernel_rfl) ?_
                      have hS_9 : Below (wr).heap.size (wr) (World.drew wr) := (Below.refl _ _).drew
                      refine Tx.seg (A := ?_) 0 4095 (by kernel_rfl) (by exact hS_9) [0, 1, 2, 3, 4, 5, 6, 7, 8, 9, 10, 11] (by kernel_rfl) ?_ ?_
                      rotate_left
                      · intro w' hB
                        have e0 := k2.below hB
                        have e1 := k4.below hB
                        have e2 := k6.below hB
                        have e3 := k7.below hB
                        have c1 := (k6.below hB).cell gx.out
                        have c2 := (k2.below hB).cell gy.out
                        iterate 12 (first | (refine rd_skip rfl rfl ?_; simp only [Act.put, List.setIfInBounds_toArray, List.set_cons_zero, List.set_cons_succ]) | (refine rd_load_arr rfl rfl _ _ rfl _ rfl (by kernel_rfl) _ (by assumption) (by first | (rw [lims_len]; kernel_rfl) | (rw [el_rep]; kernel_rfl) | (rw [el_len]; kernel_rfl) | (rw [byts_len]; kernel_rfl) | (rw [us_len]; kernel_rfl) | (rw [bytn_len]; kernel_rfl) | (rw [ens_len, digs_len]; kernel_rfl) | kernel_rfl) ?_; simp only [Act.put, List.setIfInBounds_toArray, List.set_cons_zero, List.set_cons_succ]) | (refine rd_take (v := ?_) rfl rfl ?_ ?_; rotate_left; (focus (go_simp; try (with_reducible rfl))); simp only [Act.put, List.setIfInBounds_toArray, List.set_cons_zero, List.set_cons_succ]))
                        exact rd_nil
                      refine Tx.done (by kernel_rfl) ?_
                      have k2 := k2.below hS_9
                      have k4 := k4.below hS_9
                      have k6 := k6.below hS_9
                      have k7 := k7.below hS_9
                      have kb := bel kb hS_9
                      clear hS_9
                      clear iw1 iw2 iw3 iw4 iw5 iw6 iw7
                      have hcel := k7.cell g7.out
                      have hfro := k7.frozen i
                      have hand3 := and_255 ((c : Int) + (x : Int) + (y : Int))
                      have e9 : ((c : Int) + x + y) % 256 = (((x + y + c) % 256 : Nat) : Int) := by omega
                      replace e9 := Lib.hid e9
                      go_wp2_with fail
                      refine ⟨⟨i + 1, (x + y + c) / 256, by omega, by go_num, by rw [show ((c : Int) + x + y) / 256 = (((x + y + c) / 256 : Nat) : Int) by omega], hs.out, k2.other (by simp; omega) _, k4.other (by simp; omega) _, k6.other (by simp; omega) _, ?_, kb.setCell (by simp; omega) _⟩, by simp [intOf]; omega⟩
                      have := k7.set i (.int .u8 (((c : Int) + x + y) % 256))
                      rw [e9.out, hset.out] at this
                      rw [e9.out]
                      exact this
                    · obtain rfl : i = 16 := by omega
                      rw [hall.out] at k7
                      go_wp2_with (first | (refine wpList_load_arr2 rfl _ _ rfl _ rfl (by kernel_rfl) _ (by assumption) (by first | (rw [lims_len]; kernel_rfl) | (rw [el_rep]; kernel_rfl) | (rw [el_len]; kernel_rfl) | (rw [byts_len]; kernel_rfl) | (rw [us_len]; kernel_rfl) | (rw [bytn_len]; kernel_rfl) | (rw [ens_len, digs_len]; kernel_rfl) | kernel_rfl) ?_) | (refine wpList_store_arr rfl _ _ _ rfl _ _ rfl rfl _ (by first | assumption | exact Arr.new _ _ _) (by first | (rw [lims_len]; kernel_rfl) | (rw [el_rep]; kernel_rfl) | (rw [el_len]; kernel_rfl) | (rw [byts_len]; kernel_rfl) | (rw [us_len]; kernel_rfl) | (rw [bytn_len]; kernel_rfl) | (rw [ens_len, digs_len]; kernel_rfl) | kernel_rfl) (by first | (rw [lims_len, lims_len]) | (rw [el_rep, el_rep]) | (rw [el_rep, el_len]; rfl) | (rw [el_len, el_rep]; rfl) | (rw [el_len, el_len]; rfl) | (rw [byts_len, byts_len]) | (rw [lims_len]; rfl) | (rw [byts_len]; rfl) | (rw [us_len, us_len]; rfl) | (rw [bytn_len, bytn_len]) | (rw [bytn_len]; rfl) | (rw [ens_len, ens_len, digs_len, digs_len]) | rfl) (by first | exact lims_one _ _ | exact el_one _ | exact byts_one _ | exact us_one _ | exact bytn_one _ _ | exact ens_one _ | (intro v hv; simp at hv; rcases hv with rfl | rfl | rfl | rfl <;> rfl)) ?_))
                      exact bodyPost_ret (results_arr2 Try.results11 _ _ _ rfl (by kernel_rfl) _ (by first | assumption | exact Arr.setRow (by assumption) _) (by first | (rw [lims_len]; kernel_rfl) | (rw [el_rep]; kernel_rfl) | (rw [el_len]; kernel_rfl) | (rw [byts_len]; kernel_rfl) | (rw [us_len]; kernel_rfl) | (rw [bytn_len]; kernel_rfl) | (rw [ens_len, digs_len]; kernel_rfl) | kernel_rfl)) rfl ⟨hXX.out, below_setRow kb (by omega) _⟩

end Go.Proofs.Ytfljonglibpgcaa
