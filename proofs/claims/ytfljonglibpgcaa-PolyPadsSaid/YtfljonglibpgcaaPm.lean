/- Poly1305: plain numbers. -/
import Derived.Test.YtfljonglibpgcaaVn
namespace Go.Proofs.Ytfljonglibpgcaa

/-- 2^130 - 5. -/
def p13 : Nat := 1361129467683753853853498429727072845819
theorem p13_pos : 0 < p13 := by decide
theorem p13_two : (2 : Nat) ^ 130 = p13 + 5 := by decide
/-- What is above 2^130 comes back five times. -/
def fold13 (n : Nat) : Nat := n % 2 ^ 130 + 5 * (n / 2 ^ 130)
theorem fold13_mod (n : Nat) : fold13 n % p13 = n % p13 := by
  conv => rhs; rw [← Nat.mod_add_div n (2 ^ 130), p13_two]
  unfold fold13
  rw [p13_two, Nat.add_mul, ← Nat.add_assoc, Nat.add_right_comm, Nat.add_mul_mod_self_left]
theorem fold13_le (n : Nat) : fold13 n ≤ n := by unfold fold13; omega
theorem fold13_low {n : Nat} (h : n < 2 ^ 130) : fold13 n = n := by unfold fold13; omega
theorem fold13_lt {n K : Nat} (h : n < 2 ^ 130 * K) : fold13 n < 2 ^ 130 + 5 * K := by
  unfold fold13
  have := (Nat.div_lt_iff_lt_mul (show 0 < 2 ^ 130 by decide)).2 (by rw [Nat.mul_comm]; exact h)
  omega
theorem fold13_two {n : Nat} (h : n < 2 ^ 130 * 2 ^ 100) : fold13 (fold13 n) < 2 ^ 130 := by
  have h1 := fold13_lt h
  have h2 : fold13 n < 2 ^ 130 * 2 := by omega
  unfold fold13 at *
  omega
theorem fold13_256 {n : Nat} (h : n < 2 ^ 256) : fold13 n < 2 ^ 131 := by
  have := fold13_lt (K := 2 ^ 126) (n := n) (by omega)
  omega

/-- A block's number. -/
def blkV (bs : List UInt8) : Nat := val 256 (bs.map fun (x : UInt8) => x.toNat) + 256 ^ bs.length
/-- Behind k blocks. -/
def polyK (r : Nat) (L : List UInt8) : Nat → Nat
  | 0 => 0
  | k + 1 => (polyK r L k + blkV ((L.drop (16 * k)).take 16)) * r % p13
def polyT (r s : Nat) (L : List UInt8) : Nat := (polyK r L ((L.length + 15) / 16) + s) % 2 ^ 128

theorem polyK_append (r : Nat) (L M : List UInt8) : ∀ k, 16 * k ≤ L.length → polyK r (L ++ M) k = polyK r L k
  | 0, _ => rfl
  | k + 1, h => by
    rw [polyK, polyK, polyK_append r L M k (by omega), List.drop_append_of_le_length (by omega), List.take_append_of_le_length (by rw [List.length_drop]; omega)]
theorem polyK_lt (r : Nat) (L : List UInt8) : ∀ k, polyK r L k < p13
  | 0 => p13_pos
  | _ + 1 => Nat.mod_lt _ p13_pos
theorem polyT_lt (r s : Nat) (L : List UInt8) : polyT r s L < 2 ^ 128 := Nat.mod_lt _ (by decide)
theorem polyK_zero (L : List UInt8) : ∀ k, polyK 0 L k = 0
  | 0 => rfl
  | k + 1 => by rw [polyK, Nat.mul_zero, Nat.zero_mod]
theorem polyT_zero (s : Nat) (hs : s < 2 ^ 128) (L : List UInt8) : polyT 0 s L = s := by rw [polyT, polyK_zero, Nat.zero_add, Nat.mod_eq_of_lt hs]

theorem val_map_lt (bs : List UInt8) : val 256 (bs.map fun (x : UInt8) => x.toNat) < 256 ^ bs.length := by
  have := val_lt 256 (by decide) (bs.map fun (x : UInt8) => x.toNat) (by intro x hx; simp only [List.mem_map] at hx; obtain ⟨y, -, rfl⟩ := hx; exact y.toNat_lt)
  simpa using this
theorem blkV_lt {bs : List UInt8} (h : bs.length ≤ 16) : blkV bs < 2 ^ 129 := by
  have h1 := val_map_lt bs
  have h2 : 256 ^ bs.length ≤ 256 ^ 16 := Nat.pow_le_pow_right (by decide) h
  unfold blkV
  omega

/-- What has been summed up of L. -/
def PolySt (r : Nat) (L : List UInt8) (h : Nat) : Prop := h % p13 = polyK r L (L.length / 16) ∧ h < 2 ^ 131
def rest16 (L : List UInt8) : List UInt8 := L.drop (16 * (L.length / 16))
theorem rest16_len (L : List UInt8) : (rest16 L).length = L.length % 16 := by unfold rest16; rw [List.length_drop]; omega
theorem PolySt.nil (r : Nat) : PolySt r [] 0 := ⟨rfl, by decide⟩
theorem rest16_snoc (L : List UInt8) (x : UInt8) (h : L.length % 16 ≠ 15) : rest16 (L ++ [x]) = rest16 L ++ [x] := by
  unfold rest16
  rw [List.length_append, List.length_singleton, show (L.length + 1) / 16 = L.length / 16 by omega, List.drop_append_of_le_length (by omega)]
theorem PolySt.snoc {r h : Nat} {L : List UInt8} (hs : PolySt r L h) (x : UInt8) (h15 : L.length % 16 ≠ 15) : PolySt r (L ++ [x]) h := by
  unfold PolySt at *
  rw [List.length_append, List.length_singleton, show (L.length + 1) / 16 = L.length / 16 by omega, polyK_append r L [x] _ (by omega)]
  exact hs
theorem rest16_full (L : List UInt8) (x : UInt8) (h : L.length % 16 = 15) : rest16 (L ++ [x]) = [] := by
  unfold rest16
  apply List.drop_of_length_le
  rw [List.length_append, List.length_singleton]
  omega
theorem turn_mod {r h k b : Nat} (hk : h % p13 = k) : fold13 ((h + b) * r) % p13 = (k + b) * r % p13 := by
  rw [fold13_mod, ← hk, Nat.mul_mod (h % p13 + b), Nat.add_mod (h % p13), Nat.mod_mod, ← Nat.add_mod, ← Nat.mul_mod]
theorem turn_lt {r h b : Nat} (hh : h < 2 ^ 131) (hb : b < 2 ^ 129) (hr : r < 2 ^ 124) : (h + b) * r < 2 ^ 256 := by
  have h1 : h + b < 2 ^ 132 := by omega
  have := Nat.mul_lt_mul'' h1 hr
  rwa [← Nat.pow_add] at this
theorem PolySt.full {r h : Nat} {L : List UInt8} (hs : PolySt r L h) (hr : r < 2 ^ 124) (x : UInt8) (h15 : L.length % 16 = 15) : PolySt r (L ++ [x]) (fold13 ((h + blkV (rest16 L ++ [x])) * r)) := by
  obtain ⟨h1, h2⟩ := hs
  have hl : (rest16 L ++ [x]).length ≤ 16 := by rw [List.length_append, rest16_len, List.length_singleton]; omega
  refine ⟨?_, fold13_256 (turn_lt h2 (blkV_lt hl) hr)⟩
  rw [turn_mod h1, List.length_append, List.length_singleton, show (L.length + 1) / 16 = L.length / 16 + 1 by omega, polyK, polyK_append r L [x] _ (by omega), List.drop_append_of_le_length (by omega)]
  rw [List.take_of_length_le (by rw [List.length_append, List.length_drop, List.length_singleton]; omega)]
  rfl
/-- The last block, if there is one. -/
def lastH (r h : Nat) (L : List UInt8) : Nat := if L.length % 16 = 0 then h else fold13 ((h + blkV (rest16 L)) * r)
theorem PolySt.last {r h : Nat} {L : List UInt8} (hs : PolySt r L h) (hr : r < 2 ^ 124) : lastH r h L % p13 = polyK r L ((L.length + 15) / 16) ∧ lastH r h L < 2 ^ 131 := by
  obtain ⟨h1, h2⟩ := hs
  unfold lastH
  split
  · rename_i h0
    rw [show (L.length + 15) / 16 = L.length / 16 by omega]
    exact ⟨h1, h2⟩
  · rename_i h0
    have hl : (rest16 L).length ≤ 16 := by rw [rest16_len]; omega
    refine ⟨?_, fold13_256 (turn_lt h2 (blkV_lt hl) hr)⟩
    rw [turn_mod h1, show (L.length + 15) / 16 = L.length / 16 + 1 by omega, polyK]
    rw [List.take_of_length_le (by rw [List.length_drop]; omega)]
    rfl
theorem final13 {h k : Nat} (h1 : h % p13 = k) (h2 : h < 2 ^ 131) : ∃ w, fold13 (fold13 (fold13 h)) = w ∧ w < 2 ^ 130 ∧ (if w < p13 then w else w - p13) = k := by
  refine ⟨_, rfl, ?_, ?_⟩
  · have := fold13_two (n := fold13 h) (Nat.lt_of_le_of_lt (fold13_le h) (Nat.lt_trans h2 (by decide)))
    exact this
  · have h3 := fold13_two (n := fold13 h) (Nat.lt_of_le_of_lt (fold13_le h) (Nat.lt_trans h2 (by decide)))
    have h4 : fold13 (fold13 (fold13 h)) % p13 = k := by rw [fold13_mod, fold13_mod, fold13_mod, h1]
    generalize fold13 (fold13 (fold13 h)) = w at *
    have := p13_two
    split
    · rw [← h4, Nat.mod_eq_of_lt ‹_›]
    · rw [← h4, Nat.mod_eq_sub_mod (by omega), Nat.mod_eq_of_lt (by omega)]

/-- The key's first half, some bits cleared. -/
def polyR (K : Nat) : Nat := K % 2 ^ 128 &&& 0x0ffffffc0ffffffc0ffffffc0fffffff
theorem polyR_lt (K : Nat) : polyR K < 2 ^ 124 := by
  unfold polyR
  exact Nat.lt_of_le_of_lt Nat.and_le_right (by decide)
theorem land_add (n a b c d : Nat) (ha : a < 2 ^ n) (hc : c < 2 ^ n) : (a + 2 ^ n * b) &&& (c + 2 ^ n * d) = (a &&& c) + 2 ^ n * (b &&& d) := by
  have hac : a &&& c < 2 ^ n := Nat.lt_of_le_of_lt Nat.and_le_left ha
  apply Nat.eq_of_testBit_eq
  intro j
  rw [Nat.testBit_and, Nat.add_comm a, Nat.add_comm c, Nat.add_comm (a &&& c), Nat.testBit_two_pow_mul_add _ ha, Nat.testBit_two_pow_mul_add _ hc, Nat.testBit_two_pow_mul_add _ hac]
  split
  · rw [Nat.testBit_and]
  · rw [Nat.testBit_and]
theorem polyR_limbs (K : Nat) : polyR K = (K % 2 ^ 64 &&& 0x0ffffffc0fffffff) + 2 ^ 64 * (K / 2 ^ 64 % 2 ^ 64 &&& 0x0ffffffc0ffffffc) := by
  unfold polyR
  rw [← land_add 64 _ _ _ _ (Nat.mod_lt _ (by decide)) (by decide)]
  congr 1
  omega
theorem val_and : ∀ (xs ms : List Nat), (∀ x ∈ xs, x < 256) → (∀ x ∈ ms, x < 256) → xs.length = ms.length → val 256 xs &&& val 256 ms = val 256 (List.zipWith (· &&& ·) xs ms)
  | [], [], _, _, _ => by simp [val]
  | x :: xs, m :: ms, hx, hm, hl => by
    rw [List.zipWith_cons_cons, val, val, val, ← val_and xs ms (fun y hy => hx y (by simp [hy])) (fun y hy => hm y (by simp [hy])) (by simpa using hl)]
    exact land_add 8 x (val 256 xs) m (val 256 ms) (hx x (by simp)) (hm m (by simp))
def maskL : List Nat := [255, 255, 255, 15, 252, 255, 255, 15, 252, 255, 255, 15, 252, 255, 255, 15]
theorem polyR_bytes (K : Nat) : polyR K = val 256 (List.zipWith (· &&& ·) (digs 256 16 K) maskL) := by
  rw [← val_and _ _ (fun x hx => digs_lt 256 16 K (by decide) x hx) (by decide) (by rw [digs_len]; rfl), val_digs]
  rfl
theorem and_lt256 {x y : Nat} (h : x < 256) : x &&& y < 256 := Nat.lt_of_le_of_lt Nat.and_le_left h
/-- Keys whose bytes agree where they are not cleared. -/
theorem polyR_eq {K M : Nat} (h : ∀ i, i < 16 → K / 256 ^ i % 256 &&& maskL.getD i 0 = M / 256 ^ i % 256 &&& maskL.getD i 0) : polyR K = polyR M := by
  rw [polyR_bytes, polyR_bytes]
  congr 1
  apply List.ext_getElem?
  intro i
  by_cases hi : i < 16
  · have hm : maskL[i]? = some (maskL.getD i 0) := getD_getN (by exact hi)
    rw [List.getElem?_zipWith, List.getElem?_zipWith, digs_get _ _ _ _ hi, digs_get _ _ _ _ hi, hm]
    simp only [h i hi]
  · rw [List.getElem?_eq_none (by rw [List.length_zipWith, digs_len]; omega), List.getElem?_eq_none (by rw [List.length_zipWith, digs_len]; omega)]
theorem zip_lt (K : Nat) : ∀ x ∈ List.zipWith (· &&& ·) (digs 256 16 K) maskL, x < 256 := by
  intro x hx
  obtain ⟨i, hi⟩ := List.mem_iff_getElem?.1 hx
  rw [List.getElem?_zipWith] at hi
  cases hd : (digs 256 16 K)[i]? with
  | none => rw [hd] at hi; simp at hi
  | some d =>
    cases hm : maskL[i]? with
    | none => rw [hd, hm] at hi; simp at hi
    | some m =>
      rw [hd, hm] at hi
      simp only [Option.some.injEq] at hi
      rw [← hi]
      exact and_lt256 (digs_lt 256 16 K (by decide) d (List.mem_of_getElem? hd))
theorem polyR_digit (K i : Nat) (hi : i < 16) : polyR K / 256 ^ i % 256 = K / 256 ^ i % 256 &&& maskL.getD i 0 := by
  have h1 := digs_val 256 (by decide) _ (zip_lt K)
  rw [← polyR_bytes] at h1
  have hl : (List.zipWith (· &&& ·) (digs 256 16 K) maskL).length = 16 := by rw [List.length_zipWith, digs_len]; rfl
  rw [hl] at h1
  have h2 := digs_get 256 16 (polyR K) i hi
  rw [h1, List.getElem?_zipWith, digs_get _ _ _ _ hi, getD_getN (xs := maskL) (by exact hi)] at h2
  simpa using h2.symm

/-! The reference's product. -/
def rot (ys : List Nat) (j i : Nat) : Nat := if j ≤ i then ys.getD (i - j) 0 else 320 * ys.getD (i + 17 - j) 0
def cS (xs ys : List Nat) (i : Nat) : Nat → Nat
  | 0 => 0
  | j + 1 => cS xs ys i j + xs.getD j 0 * rot ys j i
def timesL (xs ys : List Nat) : List Nat := (List.range 17).map fun i => cS xs ys i 17

theorem val_scale (b c : Nat) : ∀ xs : List Nat, val b (xs.map (c * ·)) = c * val b xs
  | [] => by simp [val]
  | x :: xs => by rw [List.map_cons, val, val, val_scale b c xs, Nat.mul_add, Nat.mul_left_comm]
theorem val_plus (b : Nat) (f g : Nat → Nat) : ∀ is : List Nat, val b (is.map fun i => f i + g i) = val b (is.map f) + val b (is.map g)
  | [] => by simp [val]
  | i :: is => by rw [List.map_cons, List.map_cons, List.map_cons, val, val, val, val_plus b f g is, Nat.mul_add]; omega
theorem val_mulc (b c : Nat) (f : Nat → Nat) (is : List Nat) : val b (is.map fun i => c * f i) = c * val b (is.map f) := by
  rw [← val_scale, List.map_map]; rfl
theorem rot_list {ys : List Nat} (hy : ys.length = 17) {j : Nat} (hj : j < 17) : (List.range 17).map (rot ys j) = (ys.drop (17 - j)).map (320 * ·) ++ ys.take (17 - j) := by
  apply List.ext_getElem?
  intro i
  by_cases hi : i < 17
  · rw [List.getElem?_map, List.getElem?_range hi]
    simp only [Option.map_some, rot]
    by_cases hji : j ≤ i
    · rw [if_pos hji, List.getElem?_append_right (by simp; omega), List.length_map, List.length_drop, List.getElem?_take, if_pos (by omega), show i - (ys.length - (17 - j)) = i - j by omega]
      exact (getD_getN (by omega)).symm
    · rw [if_neg hji, List.getElem?_append_left (by simp; omega), List.getElem?_map, List.getElem?_drop, show 17 - j + i = i + 17 - j by omega, getD_getN (xs := ys) (i := i + 17 - j) (by omega)]
      rfl
  · rw [List.getElem?_eq_none (by simp; omega), List.getElem?_eq_none (by simp; omega)]
theorem rot_mod {ys : List Nat} (hy : ys.length = 17) {j : Nat} (hj : j < 17) : val 256 ((List.range 17).map (rot ys j)) % p13 = 256 ^ j * val 256 ys % p13 := by
  rw [rot_list hy hj, val_append, val_scale, List.length_map, List.length_drop, hy, val_split 256 ys (17 - j) (by omega), show 17 - (17 - j) = j by omega, Nat.mul_add, ← Nat.mul_assoc, ← Nat.pow_add, show j + (17 - j) = 17 by omega]
  rw [show (256 : Nat) ^ 17 = 320 + p13 * 64 by decide, Nat.add_mul, Nat.mul_assoc, ← Nat.add_assoc, Nat.add_mul_mod_self_left, Nat.add_comm]
theorem cS_mod {xs ys : List Nat} (hx : xs.length = 17) (hy : ys.length = 17) : ∀ j, j ≤ 17 → val 256 ((List.range 17).map fun i => cS xs ys i j) % p13 = val 256 (xs.take j) * val 256 ys % p13
  | 0, _ => by
    rw [List.take_zero, val, Nat.zero_mul]
    have : (List.range 17).map (fun i => cS xs ys i 0) = List.replicate 17 0 := by rfl
    rw [this, val_zeros]
  | j + 1, h => by
    have ih := cS_mod hx hy j (by omega)
    have hr := rot_mod hy (show j < 17 by omega)
    have e : (List.range 17).map (fun i => cS xs ys i (j + 1)) = (List.range 17).map (fun i => cS xs ys i j + xs.getD j 0 * rot ys j i) := List.map_congr_left (fun i _ => rfl)
    rw [e]
    clear e
    have ht : (ys.length = 17) := hy
    generalize List.range 17 = is at *
    rw [val_plus, val_mulc, val_take_succ (by omega), Nat.add_mod, ih, Nat.mul_mod (xs.getD j 0), hr, ← Nat.mul_mod, ← Nat.add_mod, Nat.add_mul]
    congr 2
    rw [Nat.mul_assoc, Nat.mul_left_comm]
theorem timesL_mod {xs ys : List Nat} (hx : xs.length = 17) (hy : ys.length = 17) : val 256 (timesL xs ys) % p13 = val 256 xs * val 256 ys % p13 := by
  have := cS_mod hx hy 17 (by omega)
  rwa [List.take_of_length_le (by omega : xs.length ≤ 17)] at this
theorem rot_le {ys : List Nat} (hy : Le 255 ys) (j i : Nat) : rot ys j i ≤ 81600 := by
  unfold rot
  have h1 := hy (i - j)
  have h2 := hy (i + 17 - j)
  split <;> omega
theorem cS_le {xs ys : List Nat} (hx : Le 600 xs) (hy : Le 255 ys) (i : Nat) : ∀ j, cS xs ys i j ≤ j * 48960000
  | 0 => by simp [cS]
  | j + 1 => by
    have h1 := cS_le hx hy i j
    have h2 : xs.getD j 0 * rot ys j i ≤ 600 * 81600 := Nat.mul_le_mul (hx j) (rot_le hy j i)
    rw [cS]
    omega
theorem timesL_len (xs ys : List Nat) : (timesL xs ys).length = 17 := by simp [timesL]
theorem timesL_le {xs ys : List Nat} (hx : Le 600 xs) (hy : Le 255 ys) : Le 1000000000 (timesL xs ys) := by
  intro m
  rw [List.getD_eq_getElem?_getD]
  by_cases h : m < 17
  · rw [timesL, List.getElem?_map, List.getElem?_range h]
    have := cS_le hx hy m 17
    simp; omega
  · rw [List.getElem?_eq_none (by rw [timesL_len]; omega)]; simp
set_option maxRecDepth 10000 in
theorem val_le2 {B : Nat} : ∀ {xs : List Nat}, Le B xs → val 256 xs * 255 + B ≤ B * 256 ^ xs.length
  | [], _ => by simp [val]
  | x :: xs, h => by
    have h0 := h 0
    have ih := val_le2 (B := B) (xs := xs) (fun m => by have := h (m + 1); simpa using this)
    simp at h0
    rw [val, List.length_cons, Nat.pow_succ, ← Nat.mul_assoc]
    generalize B * 256 ^ xs.length = Z at *
    generalize val 256 xs = v at *
    clear h
    rw [Nat.add_mul, Nat.mul_assoc]
    omega
theorem val_le {B : Nat} {xs : List Nat} (h : Le B xs) : val 256 xs ≤ B * 256 ^ xs.length := by
  have := val_le2 h
  omega

end Go.Proofs.Ytfljonglibpgcaa
