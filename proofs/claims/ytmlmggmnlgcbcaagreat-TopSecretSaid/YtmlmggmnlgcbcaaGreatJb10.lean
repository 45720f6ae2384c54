import Derived.Test.YtmlmggmnlgcbcaaGreatJb05
import Derived.Test.YtmlmggmnlgcbcaaGreatJb08
import Derived.Test.YtmlmggmnlgcbcaaGreatJb04
import Derived.Laws.Bits64

namespace Go.Proofs.YtmlmggmnlgcbcaaGreat
open Go.RowKit
/-- The eight bytes of a number, the highest first. -/
def be8 (n : Int) : List UInt8 := (List.range 8).map fun i => UInt8.ofNat ((n % 18446744073709551616).toNat / 2 ^ (8 * (7 - i)) % 256)
def be8s (ns : List Int) : List UInt8 := ns.flatMap be8
theorem be8_len (n : Int) : (be8 n).length = 8 := by simp [be8]
theorem wrap_u64_mod (n : Int) : IntKind.u64.wrap n = n % 18446744073709551616 := IntKind.wrap_u64 n
theorem be8_at (n : Int) (k : Nat) (hk : k < 8) : ∃ c : UInt8, (be8 n).take (k + 1) = (be8 n).take k ++ [c] ∧ IntKind.u64.wrap n / 2 ^ (8 * (7 - k)) % 256 = (c.toNat : Int) := by
  have hl : k < (be8 n).length := by rw [be8_len]; exact hk
  refine ⟨(be8 n)[k], ?_, ?_⟩
  · rw [List.take_add_one, List.getElem?_eq_getElem hl]; rfl
  · rw [wrap_u64_mod]
    simp only [be8, List.getElem_map, List.getElem_range]
    have h0 : 0 ≤ n % 18446744073709551616 := by omega
    obtain ⟨m, hm⟩ := Int.eq_ofNat_of_zero_le h0
    rw [hm]
    have e : (UInt8.ofNat ((m : Int).toNat / 2 ^ (8 * (7 - k)) % 256)).toNat = m / 2 ^ (8 * (7 - k)) % 256 := by
      simp
    rw [e]
    simp
theorem be8s_at (ns : List Int) (j : Nat) (h : j < ns.length) : be8s (ns.take (j + 1)) = be8s (ns.take j) ++ be8 ns[j] := by
  unfold be8s
  rw [List.take_add_one, List.getElem?_eq_getElem h, List.flatMap_append]
  simp only [Option.toList, List.flatMap_cons, List.flatMap_nil, List.append_nil]
theorem be8s_len (ns : List Int) : (be8s ns).length = 8 * ns.length := by
  induction ns with
  | nil => rfl
  | cons n ns ih => simp only [be8s, List.flatMap_cons, List.length_append, be8_len, List.length_cons] at *; omega
set_option maxHeartbeats 1000000 in
set_option maxRecDepth 100000 in
theorem packInt_sl (vb : Value) (bs : List UInt8) (an : Option Addr) (cn : Nat) (ns : List Int) (w : World) (hb : Sl w vb (u8s bs)) (hn : Sl w (.slice an ns.length cn) (ns.map (.int .i64)))
    (hr : bs.length + 8 * ns.length ≤ 140737488355328) :
    Calls Tryz.prog 129 #[vb, .slice an ns.length cn] w fun e w' =>
      ∃ v, e = .returned v ∧ w'.ownsRow w.heap.size 5 1 v (bs ++ be8s ns).length (u8s (bs ++ be8s ns)) ∧ Below w.heap.size w w' := by
  obtain ⟨i, hi, hz0, hz1, hz2⟩ := info_parts info_u8
  have hn' := Lib.hid hn
  clear hn
  go_enter Tryz.func129, Tryz.ntmps129
  go_wp2_with fail
  refine (clone_any vb bs w hb (by omega)).mono ?_
  rintro e w1 ⟨v1, rfl, hown, hbel, -⟩
  clear hb
  go_wp2_with fail
  go_loopw [5, 14] (fun v i wr => ∃ j : Nat, j ≤ ns.length ∧ i = .int .i64 j ∧ Below w.heap.size w wr ∧ wr.ownsRow w.heap.size 5 1 v (bs ++ be8s (ns.take j)).length (u8s (bs ++ be8s (ns.take j)))) (fun _ i _ => ns.length - (intOf i).toNat)
  case atStart => exact ⟨0, Nat.zero_le _, rfl, hbel, by simpa [be8s] using hown⟩
  case round =>
    obtain ⟨j, hj, rfl, hbr, hor⟩ := hrel
    clear hbel hown
    by_cases hlt : j < ns.length
    · obtain ⟨b, o, rfl, -, -, hcap, hcs⟩ := (hn'.out.below hbr).at (by simp; omega)
      have hcell := hcs j (.int .i64 ns[j]) (by simp [List.getElem?_eq_getElem hlt])
      clear hcs
      obtain ⟨wo, rfl⟩ : ∃ wo : World, wo = wr := ⟨_, rfl⟩
      have hlen : ns.length ≤ 9223372036854775807 := by omega
      go_wp2_with fail
      go_loopw [5, 9] (fun v kv wr => ∃ k : Nat, k ≤ 8 ∧ kv = .int .i64 (7 - (k : Int)) ∧ Below w.heap.size w wr ∧ wr.ownsRow w.heap.size 5 1 v (bs ++ be8s (ns.take j) ++ (be8 ns[j]).take k).length (u8s (bs ++ be8s (ns.take j) ++ (be8 ns[j]).take k))) (fun _ kv _ => (intOf kv + 1).toNat)
      case atStart => exact ⟨0, Nat.zero_le _, rfl, hbr, by simpa using hor⟩
      case round =>
        obtain ⟨k, hk, rfl, hbi, hoi⟩ := hrel
        clear hbr hor hcell
        by_cases hk8 : k < 8
        · have h1 : (0 : Int) ≤ 7 - (k : Int) := by omega
          obtain ⟨c, hc1, hc2⟩ := be8_at ns[j] k hk8
          have hc2' := Lib.hid hc2
          have hc1' := Lib.hid hc1
          clear hc1 hc2
          have hbig : (bs ++ be8s (ns.take j) ++ (be8 ns[j]).take k).length + 1 ≤ 140737488355328 := by
            simp only [List.length_append, be8s_len, List.length_take, be8_len]; omega
          have hbig' := Lib.hid hbig
          clear hbig
          have hsz : w.heap.size ≤ wr.heap.size := hbi.size
          go_wp2_with (at_builtin; refine wpList_append_own _ rfl _ _ 26 rfl w.heap.size 5 i (.int .u8 0) 1 1 Tryz.underlying26 hi hz0 hz1 hz2 rfl (by decide) _ _ _ rfl (hoi.alloc _) ⟨wr.heap.size, 0, none⟩ 1 1 [_] rfl rfl (cells_new wr _ _) ?c1 ?c2 ?c3 ?c4 ?_)
          case c1 => intro u hu; simp at hu; subst hu; rfl
          case c2 => have := hbig'.out; unfold maxLen; omega
          case c3 => have := hbig'.out; omega
          case c4 => simp; omega
          intro v' w2 hown2 hg2 _
          have hb2 := below_grown1 hbi hoi hsz hg2
          rw [hc2'.out] at hown2
          clear hoi hg2 hbi
          go_wp2
          go_roundw
          case rel =>
            refine ⟨k + 1, by omega, by simp; omega, hb2, ?_⟩
            rw [hc1'.out, ← List.append_assoc]
            simpa [u8s, Nat.add_assoc] using hown2
          case measure => simp [intOf]; omega
        · have hk : k = 8 := by omega
          subst hk
          have hf : (be8 ns[j]).take 8 = be8 ns[j] := List.take_of_length_le (by rw [be8_len]; exact Nat.le_refl _)
          rw [hf] at hoi
          clear hf
          go_wp2
          go_roundw
          case rel => exact ⟨j + 1, by omega, by go_num, hbi, by rw [be8s_at ns j hlt, ← List.append_assoc]; exact hoi⟩
          case measure => simp [intOf]; omega
    · have hj' : j = ns.length := by omega
      subst hj'
      rw [List.take_of_length_le (Nat.le_refl _)] at hor
      go_wp2
      go_ret
      exact ⟨_, rfl, hor, hbr⟩
theorem packInt_any (vb vn : Value) (bs : List UInt8) (ns : List Int) (w : World) (hb : Sl w vb (u8s bs)) (hn : Sl w vn (ns.map (.int .i64)))
    (hr : bs.length + 8 * ns.length ≤ 140737488355328) :
    Calls Tryz.prog 129 #[vb, vn] w fun e w' =>
      ∃ v, e = .returned v ∧ w'.ownsRow w.heap.size 5 1 v (bs ++ be8s ns).length (u8s (bs ++ be8s ns)) ∧ Below w.heap.size w w' := by
  obtain ⟨a, cap, rfl, h⟩ := id hn
  rw [List.length_map] at *
  exact packInt_sl vb bs a cap ns w hb hn hr
end Go.Proofs.YtmlmggmnlgcbcaaGreat


namespace Go.Proofs.YtmlmggmnlgcbcaaGreat
/-- 2^130 - 5. -/
def p13 : Nat := 1361129467683753853853498429727072845819
theorem p13_pos : 0 < p13 := by decide
theorem p13_two : (2 : Nat) ^ 130 = p13 + 5 := by decide
/-- What is above 2^130 comes back five times. -/
def fold13 (n : Nat) : Nat := n % 2 ^ 130 + 5 * (n / 2 ^ 130)
theorem fold13_mod (n : Nat) : fold13 n % p13 = n % p13 := by
  conv => rhs; rw [← Nat.mod_add_div n (2 ^ 130), p13_two]
  unfold fold13
  rw [p13_two, Nat.add_mul, ← Nat.add_assoc, Nat.add_right_comm, Nat.add_mul_mod_self_left]
theorem fold13_le (n : Nat) : fold13 n ≤ n := by unfold fold13; omega
theorem fold13_lt {n K : Nat} (h : n < 2 ^ 130 * K) : fold13 n < 2 ^ 130 + 5 * K := by
  unfold fold13
  have := (Nat.div_lt_iff_lt_mul (show 0 < 2 ^ 130 by decide)).2 (by rw [Nat.mul_comm]; exact h)
  omega
theorem fold13_two {n : Nat} (h : n < 2 ^ 130 * 2 ^ 100) : fold13 (fold13 n) < 2 ^ 130 := by
  have h1 := fold13_lt h
  have h2 : fold13 n < 2 ^ 130 * 2 := by omega
  unfold fold13 at *
  omega
theorem fold13_256 {n : Nat} (h : n < 2 ^ 256) : fold13 n < 2 ^ 131 := by
  have := fold13_lt (K := 2 ^ 126) (n := n) (by omega)
  omega
/-- A block's number. -/
def blkV (bs : List UInt8) : Nat := val 256 (bs.map fun (x : UInt8) => x.toNat) + 256 ^ bs.length
/-- Behind k blocks. -/
def polyK (r : Nat) (L : List UInt8) : Nat → Nat
  | 0 => 0
  | k + 1 => (polyK r L k + blkV ((L.drop (16 * k)).take 16)) * r % p13
def polyT (r s : Nat) (L : List UInt8) : Nat := (polyK r L ((L.length + 15) / 16) + s) % 2 ^ 128
theorem polyK_append (r : Nat) (L M : List UInt8) : ∀ k, 16 * k ≤ L.length → polyK r (L ++ M) k = polyK r L k
  | 0, _ => rfl
  | k + 1, h => by
    rw [polyK, polyK, polyK_append r L M k (by omega), List.drop_append_of_le_length (by omega), List.take_append_of_le_length (by rw [List.length_drop]; omega)]
theorem polyK_lt (r : Nat) (L : List UInt8) : ∀ k, polyK r L k < p13
  | 0 => p13_pos
  | _ + 1 => Nat.mod_lt _ p13_pos
theorem val_map_lt (bs : List UInt8) : val 256 (bs.map fun (x : UInt8) => x.toNat) < 256 ^ bs.length := by
  have := val_lt 256 (by decide) (bs.map fun (x : UInt8) => x.toNat) (by intro x hx; simp only [List.mem_map] at hx; obtain ⟨y, -, rfl⟩ := hx; exact y.toNat_lt)
  simpa using this
theorem blkV_lt {bs : List UInt8} (h : bs.length ≤ 16) : blkV bs < 2 ^ 129 := by
  have h1 := val_map_lt bs
  have h2 : 256 ^ bs.length ≤ 256 ^ 16 := Nat.pow_le_pow_right (by decide) h
  unfold blkV
  omega
/-- What has been summed up of L. -/
def PolySt (r : Nat) (L : List UInt8) (h : Nat) : Prop := h % p13 = polyK r L (L.length / 16) ∧ h < 2 ^ 131
def rest16 (L : List UInt8) : List UInt8 := L.drop (16 * (L.length / 16))
theorem rest16_len (L : List UInt8) : (rest16 L).length = L.length % 16 := by unfold rest16; rw [List.length_drop]; omega
theorem PolySt.nil (r : Nat) : PolySt r [] 0 := ⟨rfl, by decide⟩
theorem rest16_snoc (L : List UInt8) (x : UInt8) (h : L.length % 16 ≠ 15) : rest16 (L ++ [x]) = rest16 L ++ [x] := by
  unfold rest16
  rw [List.length_append, List.length_singleton, show (L.length + 1) / 16 = L.length / 16 by omega, List.drop_append_of_le_length (by omega)]
theorem PolySt.snoc {r h : Nat} {L : List UInt8} (hs : PolySt r L h) (x : UInt8) (h15 : L.length % 16 ≠ 15) : PolySt r (L ++ [x]) h := by
  unfold PolySt at *
  rw [List.length_append, List.length_singleton, show (L.length + 1) / 16 = L.length / 16 by omega, polyK_append r L [x] _ (by omega)]
  exact hs
theorem rest16_full (L : List UInt8) (x : UInt8) (h : L.length % 16 = 15) : rest16 (L ++ [x]) = [] := by
  unfold rest16
  apply List.drop_of_length_le
  rw [List.length_append, List.length_singleton]
  omega
theorem turn_mod {r h k b : Nat} (hk : h % p13 = k) : fold13 ((h + b) * r) % p13 = (k + b) * r % p13 := by
  rw [fold13_mod, ← hk, Nat.mul_mod (h % p13 + b), Nat.add_mod (h % p13), Nat.mod_mod, ← Nat.add_mod, ← Nat.mul_mod]
theorem turn_lt {r h b : Nat} (hh : h < 2 ^ 131) (hb : b < 2 ^ 129) (hr : r < 2 ^ 124) : (h + b) * r < 2 ^ 256 := by
  have h1 : h + b < 2 ^ 132 := by omega
  have := Nat.mul_lt_mul'' h1 hr
  rwa [← Nat.pow_add] at this
theorem PolySt.full {r h : Nat} {L : List UInt8} (hs : PolySt r L h) (hr : r < 2 ^ 124) (x : UInt8) (h15 : L.length % 16 = 15) : PolySt r (L ++ [x]) (fold13 ((h + blkV (rest16 L ++ [x])) * r)) := by
  obtain ⟨h1, h2⟩ := hs
  have hl : (rest16 L ++ [x]).length ≤ 16 := by rw [List.length_append, rest16_len, List.length_singleton]; omega
  refine ⟨?_, fold13_256 (turn_lt h2 (blkV_lt hl) hr)⟩
  rw [turn_mod h1, List.length_append, List.length_singleton, show (L.length + 1) / 16 = L.length / 16 + 1 by omega, polyK, polyK_append r L [x] _ (by omega), List.drop_append_of_le_length (by omega)]
  rw [List.take_of_length_le (by rw [List.length_append, List.length_drop, List.length_singleton]; omega)]
  rfl
/-- The last block, if there is one. -/
def lastH (r h : Nat) (L : List UInt8) : Nat := if L.length % 16 = 0 then h else fold13 ((h + blkV (rest16 L)) * r)
theorem PolySt.last {r h : Nat} {L : List UInt8} (hs : PolySt r L h) (hr : r < 2 ^ 124) : lastH r h L % p13 = polyK r L ((L.length + 15) / 16) ∧ lastH r h L < 2 ^ 131 := by
  obtain ⟨h1, h2⟩ := hs
  unfold lastH
  split
  · rename_i h0
    rw [show (L.length + 15) / 16 = L.length / 16 by omega]
    exact ⟨h1, h2⟩
  · rename_i h0
    have hl : (rest16 L).length ≤ 16 := by rw [rest16_len]; omega
    refine ⟨?_, fold13_256 (turn_lt h2 (blkV_lt hl) hr)⟩
    rw [turn_mod h1, show (L.length + 15) / 16 = L.length / 16 + 1 by omega, polyK]
    rw [List.take_of_length_le (by rw [List.length_drop]; omega)]
    rfl
theorem final13 {h k : Nat} (h1 : h % p13 = k) (h2 : h < 2 ^ 131) : ∃ w, fold13 (fold13 (fold13 h)) = w ∧ w < 2 ^ 130 ∧ (if w < p13 then w else w - p13) = k := by
  refine ⟨_, rfl, ?_, ?_⟩
  · have := fold13_two (n := fold13 h) (Nat.lt_of_le_of_lt (fold13_le h) (Nat.lt_trans h2 (by decide)))
    exact this
  · have h3 := fold13_two (n := fold13 h) (Nat.lt_of_le_of_lt (fold13_le h) (Nat.lt_trans h2 (by decide)))
    have h4 : fold13 (fold13 (fold13 h)) % p13 = k := by rw [fold13_mod, fold13_mod, fold13_mod, h1]
    generalize fold13 (fold13 (fold13 h)) = w at *
    have := p13_two
    split
    · rw [← h4, Nat.mod_eq_of_lt ‹_›]
    · rw [← h4, Nat.mod_eq_sub_mod (by omega), Nat.mod_eq_of_lt (by omega)]
/-- The key's first half, some bits cleared. -/
def polyR (K : Nat) : Nat := K % 2 ^ 128 &&& 0x0ffffffc0ffffffc0ffffffc0fffffff
theorem polyR_lt (K : Nat) : polyR K < 2 ^ 124 := by
  unfold polyR
  exact Nat.lt_of_le_of_lt Nat.and_le_right (by decide)
theorem land_add (n a b c d : Nat) (ha : a < 2 ^ n) (hc : c < 2 ^ n) : (a + 2 ^ n * b) &&& (c + 2 ^ n * d) = (a &&& c) + 2 ^ n * (b &&& d) := by
  have hac : a &&& c < 2 ^ n := Nat.lt_of_le_of_lt Nat.and_le_left ha
  apply Nat.eq_of_testBit_eq
  intro j
  rw [Nat.testBit_and, Nat.add_comm a, Nat.add_comm c, Nat.add_comm (a &&& c), Nat.testBit_two_pow_mul_add _ ha, Nat.testBit_two_pow_mul_add _ hc, Nat.testBit_two_pow_mul_add _ hac]
  split
  · rw [Nat.testBit_and]
  · rw [Nat.testBit_and]
theorem polyR_limbs (K : Nat) : polyR K = (K % 2 ^ 64 &&& 0x0ffffffc0fffffff) + 2 ^ 64 * (K / 2 ^ 64 % 2 ^ 64 &&& 0x0ffffffc0ffffffc) := by
  unfold polyR
  rw [← land_add 64 _ _ _ _ (Nat.mod_lt _ (by decide)) (by decide)]
  congr 1
  omega
def rot (ys : List Nat) (j i : Nat) : Nat := if j ≤ i then ys.getD (i - j) 0 else 320 * ys.getD (i + 17 - j) 0
def cS (xs ys : List Nat) (i : Nat) : Nat → Nat
  | 0 => 0
  | j + 1 => cS xs ys i j + xs.getD j 0 * rot ys j i
end Go.Proofs.YtmlmggmnlgcbcaaGreat


namespace Go.Proofs.YtmlmggmnlgcbcaaGreat
open Go.RowKit
theorem lims_p13 : (lims 4 p13).toArray = #[.int .u64 18446744073709551611, .int .u64 18446744073709551615, .int .u64 3, .int .u64 0] := by kernel_rfl
theorem pprime_any (w : World) : Calls Tryz.prog 84 #[] w fun e w' => e = .returned (.agg (lims 4 p13).toArray) ∧ Below w.heap.size w w' := by
  go_enter Tryz.func84, Tryz.ntmps84
  go_wp2_with fail
  refine bodyPost_ret (v := .agg (lims 4 p13).toArray) (by rw [lims_p13]; simp [results, Tryz.results84, go_sem]) rfl ⟨rfl, ?_⟩
  exact ((below_alloc _ _))
/-- Four limbs. -/
theorem lims_mk {x0 x1 x2 x3 : Nat} (h0 : x0 < 18446744073709551616) (h1 : x1 < 18446744073709551616) (h2 : x2 < 18446744073709551616) (h3 : x3 < 18446744073709551616) :
    lims 4 (x0 + 18446744073709551616 * x1 + 18446744073709551616 ^ 2 * x2 + 18446744073709551616 ^ 3 * x3) = [.int .u64 (x0 : Int), .int .u64 (x1 : Int), .int .u64 (x2 : Int), .int .u64 (x3 : Int)] := by
  have e0 : (x0 + 18446744073709551616 * x1 + 18446744073709551616 ^ 2 * x2 + 18446744073709551616 ^ 3 * x3) / 18446744073709551616 ^ 0 % 18446744073709551616 = x0 := by omega
  have e1 : (x0 + 18446744073709551616 * x1 + 18446744073709551616 ^ 2 * x2 + 18446744073709551616 ^ 3 * x3) / 18446744073709551616 ^ 1 % 18446744073709551616 = x1 := by omega
  have e2 : (x0 + 18446744073709551616 * x1 + 18446744073709551616 ^ 2 * x2 + 18446744073709551616 ^ 3 * x3) / 18446744073709551616 ^ 2 % 18446744073709551616 = x2 := by omega
  have e3 : (x0 + 18446744073709551616 * x1 + 18446744073709551616 ^ 2 * x2 + 18446744073709551616 ^ 3 * x3) / 18446744073709551616 ^ 3 % 18446744073709551616 = x3 := by omega
  unfold lims digs
  rw [show List.range 4 = [0, 1, 2, 3] from rfl]
  simp only [List.map_cons, List.map_nil, e0, e1, e2, e3]
theorem limbs_of {n : Nat} (h : n < 18446744073709551616 ^ 4) : ∃ x0 x1 x2 x3 : Nat, x0 < 18446744073709551616 ∧ x1 < 18446744073709551616 ∧ x2 < 18446744073709551616 ∧ x3 < 18446744073709551616 ∧
    n = x0 + 18446744073709551616 * x1 + 18446744073709551616 ^ 2 * x2 + 18446744073709551616 ^ 3 * x3 :=
  ⟨n % 18446744073709551616, n / 18446744073709551616 % 18446744073709551616, n / 18446744073709551616 ^ 2 % 18446744073709551616, n / 18446744073709551616 ^ 3, by omega, by omega, by omega, by omega, by omega⟩
theorem and_u64_3 (x : Nat) (hx : x < 18446744073709551616) : bits .and .u64 (x : Int) 3 = ((x % 4 : Nat) : Int) := by
  have h := bits_and_u64_nat x 3 hx (by omega)
  have e : x &&& 3 = x % 4 := Nat.and_two_pow_sub_one_eq_mod x 2
  rw [e] at h
  exact h
theorem or_shift (x y : Nat) (hx : x < 4611686018427387904) (hy : y < 4) : bits .or .u64 (x : Int) ((4611686018427387904 * y : Nat) : Int) = ((x + 4611686018427387904 * y : Nat) : Int) := by
  rw [u64_or_nat _ _ (by omega) (by omega)]
  congr 1
  have := Nat.two_pow_add_eq_or_of_lt (i := 62) (b := x) hx y
  rw [Nat.or_comm, Nat.add_comm]
  exact this.symm
set_option maxHeartbeats 1000000 in
set_option maxRecDepth 100000 in
theorem pfold_any (n : Nat) (hn : n < 18446744073709551616 ^ 4) (w : World) :
    Calls Tryz.prog 83 #[.agg (lims 4 n).toArray] w fun e w' => e = .returned (.agg (lims 4 (fold13 n)).toArray) ∧ Below w.heap.size w w' := by
  obtain ⟨x0, x1, x2, x3, h0, h1, h2, h3, rfl⟩ := limbs_of hn
  have e1 := lims_mk h0 h1 h2 h3
  obtain ⟨n, hne⟩ : ∃ n, x0 + 18446744073709551616 * x1 + 18446744073709551616 ^ 2 * x2 + 18446744073709551616 ^ 3 * x3 = n := ⟨_, rfl⟩
  have hlow : n % 2 ^ 130 = x0 + 18446744073709551616 * x1 + 18446744073709551616 ^ 2 * (x2 % 4) + 18446744073709551616 ^ 3 * 0 := by omega
  have hhi : n / 2 ^ 130 = (x2 / 4 + 4611686018427387904 * (x3 % 4)) + 18446744073709551616 * (x3 / 4) := by omega
  obtain ⟨a, ha⟩ : ∃ a, x2 / 4 + 4611686018427387904 * (x3 % 4) = a := ⟨_, rfl⟩
  obtain ⟨b, hb⟩ : ∃ b, x3 / 4 = b := ⟨_, rfl⟩
  have hal : a < 18446744073709551616 := by omega
  have hbl : b < 18446744073709551616 := by omega
  have m1 := fun w => mul64 a 5 hal (by decide) w
  have m2 := fun w => mul64 b 5 hbl (by decide) w
  have m3 := fun w => add64z (b * 5 % 18446744073709551616) (a * 5 / 18446744073709551616) w
  obtain ⟨y0, hy0⟩ : ∃ y, a * 5 % 18446744073709551616 = y := ⟨_, rfl⟩
  obtain ⟨c, hc⟩ : ∃ y, a * 5 / 18446744073709551616 = y := ⟨_, rfl⟩
  obtain ⟨d0, hd0⟩ : ∃ y, b * 5 % 18446744073709551616 = y := ⟨_, rfl⟩
  obtain ⟨d1, hd1⟩ : ∃ y, b * 5 / 18446744073709551616 = y := ⟨_, rfl⟩
  rw [hy0, hc] at m1
  rw [hd0, hd1] at m2
  rw [hd0, hc] at m3
  obtain ⟨y1, hy1⟩ : ∃ y, (d0 + c) % 18446744073709551616 = y := ⟨_, rfl⟩
  obtain ⟨z, hz⟩ : ∃ y, (d0 + c) / 18446744073709551616 = y := ⟨_, rfl⟩
  rw [hy1, hz] at m3
  have hdz : d1 + z < 18446744073709551616 := by omega
  have e2 := lims_mk h0 h1 (show x2 % 4 < 18446744073709551616 by omega) (show 0 < 18446744073709551616 by decide)
  rw [← hlow] at e2
  have hfive : 5 * (n / 2 ^ 130) = y0 + 18446744073709551616 * y1 + 18446744073709551616 ^ 2 * (d1 + z) + 18446744073709551616 ^ 3 * 0 := by
    rw [hhi, ha, hb]; omega
  have e3 := lims_mk (show y0 < 18446744073709551616 by omega) (show y1 < 18446744073709551616 by omega) hdz (show 0 < 18446744073709551616 by decide)
  rw [← hfive] at e3
  have a1 := fun w => limAdd_any (n % 2 ^ 130) (5 * (n / 2 ^ 130)) w
  rw [show n % 2 ^ 130 + 5 * (n / 2 ^ 130) = fold13 n from rfl, e3] at a1
  have b1 := and_u64_3 x2 h2
  have b2 : bits .or .u64 ((x2 : Int) / 4) (IntKind.u64.wrap ((x3 : Int) * 4611686018427387904)) = (a : Int) := by
    have h5 : IntKind.u64.wrap ((x3 : Int) * 4611686018427387904) = ((4611686018427387904 * (x3 % 4) : Nat) : Int) := by rw [IntKind.wrap_u64]; omega
    rw [h5, show (x2 : Int) / 4 = ((x2 / 4 : Nat) : Int) by omega, or_shift _ _ (by omega) (by omega), ha]
  have b3 : (x3 : Int) / 4 = (b : Int) := by omega
  have b4 : IntKind.u64.wrap ((d1 : Int) + (z : Int)) = (d1 : Int) + (z : Int) := by rw [IntKind.wrap_u64]; omega
  have b5 : ((d1 + z : Nat) : Int) = (d1 : Int) + (z : Int) := by omega
  rw [b5] at a1
  rw [hne] at e1 ⊢
  have c0 : (lims 4 n)[0]? = some (.int .u64 (x0 : Int)) := by rw [e1]; rfl
  have c1 : (lims 4 n)[1]? = some (.int .u64 (x1 : Int)) := by rw [e1]; rfl
  have c2 : (lims 4 n)[2]? = some (.int .u64 (x2 : Int)) := by rw [e1]; rfl
  have c3 : (lims 4 n)[3]? = some (.int .u64 (x3 : Int)) := by rw [e1]; rfl
  clear hn hne hlow hhi ha hb hal hbl hy0 hc hd0 hd1 hy1 hz hdz hfive e3 b5 e1
  replace m1 := Lib.hid m1
  replace m2 := Lib.hid m2
  replace m3 := Lib.hid m3
  replace c0 := Lib.hid c0
  replace c1 := Lib.hid c1
  replace c2 := Lib.hid c2
  replace c3 := Lib.hid c3
  replace b2 := Lib.hid b2
  replace b3 := Lib.hid b3
  replace b4 := Lib.hid b4
  replace b1 := Lib.hid b1
  obtain ⟨L, hL⟩ : ∃ L, n % 2 ^ 130 = L := ⟨_, rfl⟩
  obtain ⟨R, hR⟩ : ∃ R, fold13 n = R := ⟨_, rfl⟩
  rw [hR] at a1 ⊢
  rw [hL] at a1 e2
  clear hL hR
  replace a1 := Lib.hid a1
  replace e2 := Lib.hid e2
  go_enter Tryz.func83, Tryz.ntmps83
  go_upto_region 1 with fail
  refine wp_new2 (fun W hsz k1 k2 kb => ?_)
  have k2 : Arr W (w.heap.size + 1) (lims 4 0) := k2
  clear hsz
  have d0' := k1.cell c0.out
  have d1' := k1.cell c1.out
  have d2' := k1.cell c2.out
  have b1' := b1.out
  go_upto_region 2 with fail
  refine wp_new1 (fun w3 hsz3 k3 hb3 => ?_)
  have k3 : Arr w3 W.heap.size (lims 4 L) := by rw [e2.out]; exact k3
  have lt1 := k1.lt
  have lt2 := k2.lt
  have k1 := k1.below hb3
  have k2 := k2.below hb3
  have kb := bel kb hb3
  generalize W.heap.size = g3 at k3 lt1 lt2 ⊢
  clear hsz3 hb3 d0' d1' d2' b1'
  have d2' := k1.cell c2.out
  have d3' := k1.cell c3.out
  have b2' := b2.out
  have b3' := b3.out
  go_wp2_with fail
  refine (m1.out _).mono ?_
  rintro e w4 ⟨rfl, rfl⟩
  go_wp2_with fail
  refine (m2.out _).mono ?_
  rintro e w5 ⟨rfl, rfl⟩
  clear d2' d3' b2' b3'
  have b4' := b4.out
  go_wp2_with (first | (simp only [m3.out]) | (refine wpList_load_arr2 rfl _ _ rfl _ rfl (by decide +kernel) _ (by assumption) (by first | (rw [lims_len]; kernel_rfl) | (rw [el_rep]; kernel_rfl) | (rw [el_len]; kernel_rfl) | (rw [byts_len]; kernel_rfl) | (rw [us_len]; kernel_rfl) | (rw [bytn_len]; kernel_rfl) | (rw [ens_len, digs_len]; kernel_rfl) | kernel_rfl) ?_))
  refine (a1.out _).mono ?_
  rintro e w_1 ⟨rfl, hb_1⟩
  have k2 := k2.below hb_1
  have kb := bel kb hb_1
  clear hb_1
  clear b4'
  go_upto_region 6 with (first | (refine wpList_load_arr2 rfl _ _ rfl _ rfl (by decide +kernel) _ (by assumption) (by first | (rw [lims_len]; kernel_rfl) | (rw [el_rep]; kernel_rfl) | (rw [el_len]; kernel_rfl) | (rw [byts_len]; kernel_rfl) | (rw [us_len]; kernel_rfl) | (rw [bytn_len]; kernel_rfl) | (rw [ens_len, digs_len]; kernel_rfl) | kernel_rfl) ?_) | (refine wpList_store_arr rfl _ _ _ rfl _ _ rfl rfl _ (by first | assumption | exact Arr.new _ _ _) (by first | (rw [lims_len]; kernel_rfl) | (rw [el_rep]; kernel_rfl) | (rw [el_len]; kernel_rfl) | (rw [byts_len]; kernel_rfl) | (rw [us_len]; kernel_rfl) | (rw [bytn_len]; kernel_rfl) | (rw [ens_len, digs_len]; kernel_rfl) | kernel_rfl) (by first | (rw [lims_len, lims_len]) | (rw [el_rep, el_rep]) | (rw [el_rep, el_len]; rfl) | (rw [el_len, el_rep]; rfl) | (rw [el_len, el_len]; rfl) | (rw [byts_len, byts_len]) | (rw [lims_len]; rfl) | (rw [byts_len]; rfl) | (rw [us_len, us_len]; rfl) | (rw [bytn_len, bytn_len]) | (rw [bytn_len]; rfl) | (rw [ens_len, ens_len, digs_len, digs_len]) | rfl) (by first | exact lims_one _ _ | exact el_one _ | exact byts_one _ | exact us_one _ | exact bytn_one _ _ | exact ens_one _ | (intro v hv; simp at hv; rcases hv with rfl | rfl | rfl | rfl <;> rfl)) ?_))
  have hg_k9_k2 := k2.lt
  refine code_new (fun w_2 k9 hnew => ?_)
  have k2 := k2.below hnew
  have kb := bel kb hnew
  clear hnew
  generalize (w_1).heap.size = g_k9 at k9 hg_k9_k2 ⊢
  go_wp2_with (first | (refine wpList_load_arr2 rfl _ _ rfl _ rfl (by decide +kernel) _ (by assumption) (by first | (rw [lims_len]; kernel_rfl) | (rw [el_rep]; kernel_rfl) | (rw [el_len]; kernel_rfl) | (rw [byts_len]; kernel_rfl) | (rw [us_len]; kernel_rfl) | (rw [bytn_len]; kernel_rfl) | (rw [ens_len, digs_len]; kernel_rfl) | kernel_rfl) ?_) | (refine wpList_store_arr rfl _ _ _ rfl _ _ rfl rfl _ (by first | assumption | exact Arr.new _ _ _) (by first | (rw [lims_len]; kernel_rfl) | (rw [el_rep]; kernel_rfl) | (rw [el_len]; kernel_rfl) | (rw [byts_len]; kernel_rfl) | (rw [us_len]; kernel_rfl) | (rw [bytn_len]; kernel_rfl) | (rw [ens_len, digs_len]; kernel_rfl) | kernel_rfl) (by first | (rw [lims_len, lims_len]) | (rw [el_rep, el_rep]) | (rw [el_rep, el_len]; rfl) | (rw [el_len, el_rep]; rfl) | (rw [el_len, el_len]; rfl) | (rw [byts_len, byts_len]) | (rw [lims_len]; rfl) | (rw [byts_len]; rfl) | (rw [us_len, us_len]; rfl) | (rw [bytn_len, bytn_len]) | (rw [bytn_len]; rfl) | (rw [ens_len, ens_len, digs_len, digs_len]) | rfl) (by first | exact lims_one _ _ | exact el_one _ | exact byts_one _ | exact us_one _ | exact bytn_one _ _ | exact ens_one _ | (intro v hv; simp at hv; rcases hv with rfl | rfl | rfl | rfl <;> rfl)) ?_))
  exact bodyPost_ret (results_arr2 Tryz.results83 _ _ _ rfl (by kernel_rfl) _ (by first | assumption | exact Arr.setRow (by assumption) _) (by first | (rw [lims_len]; kernel_rfl) | (rw [el_rep]; kernel_rfl) | (rw [el_len]; kernel_rfl) | (rw [byts_len]; kernel_rfl) | (rw [us_len]; kernel_rfl) | (rw [bytn_len]; kernel_rfl) | (rw [ens_len, digs_len]; kernel_rfl) | kernel_rfl)) rfl ⟨rfl, below_setRow kb (by omega) _⟩
set_option maxHeartbeats 1000000 in
set_option maxRecDepth 100000 in
theorem pclamped_any (K : Nat) (hK : K < 256 ^ 32) (w : World) :
    Calls Tryz.prog 80 #[.agg (byts K).toArray] w fun e w' => e = .returned (.agg (lims 4 (polyR K)).toArray) ∧ Below w.heap.size w w' := by
  have c1 := fun w => limOf_any K hK w
  have g0 := lims_get 4 K 0 (by decide)
  have g1 := lims_get 4 K 1 (by decide)
  rw [Nat.pow_zero, Nat.div_one] at g0
  rw [Nat.pow_one] at g1
  have hR := polyR_limbs K
  obtain ⟨x, hx⟩ : ∃ x, K % 18446744073709551616 = x := ⟨_, rfl⟩
  obtain ⟨y, hy⟩ : ∃ y, K / 18446744073709551616 % 18446744073709551616 = y := ⟨_, rfl⟩
  rw [hx] at g0
  rw [hy] at g1
  rw [show K % 2 ^ 64 = x from hx, show K / 2 ^ 64 % 2 ^ 64 = y from hy] at hR
  have hxl : x < 18446744073709551616 := hx ▸ Nat.mod_lt _ (by decide)
  have hyl : y < 18446744073709551616 := hy ▸ Nat.mod_lt _ (by decide)
  have b1 := bits_and_u64_nat x 1152921487695413247 hxl (by decide)
  have b2 := bits_and_u64_nat y 1152921487695413244 hyl (by decide)
  obtain ⟨u, hu⟩ : ∃ u, x &&& 1152921487695413247 = u := ⟨_, rfl⟩
  obtain ⟨v, hv⟩ : ∃ u, y &&& 1152921487695413244 = u := ⟨_, rfl⟩
  rw [hu, hv] at hR
  rw [hu] at b1
  rw [hv] at b2
  have hul : u < 18446744073709551616 := by rw [← hu]; exact Nat.lt_of_le_of_lt Nat.and_le_left hxl
  have hvl : v < 18446744073709551616 := by rw [← hv]; exact Nat.lt_of_le_of_lt Nat.and_le_left hyl
  have e1 := lims_mk hul hvl (show 0 < 18446744073709551616 by decide) (show 0 < 18446744073709551616 by decide)
  have e2 : u + 18446744073709551616 * v + 18446744073709551616 ^ 2 * 0 + 18446744073709551616 ^ 3 * 0 = polyR K := by rw [hR]; omega
  rw [e2] at e1
  obtain ⟨R, hR⟩ : ∃ R, polyR K = R := ⟨_, rfl⟩
  rw [hR] at e1 ⊢
  clear hR hx hy hu hv e2 hK
  replace c1 := Lib.hid c1
  replace g0 := Lib.hid g0
  replace g1 := Lib.hid g1
  replace b1 := Lib.hid b1
  replace b2 := Lib.hid b2
  replace e1 := Lib.hid e1
  go_enter Tryz.func80, Tryz.ntmps80
  go_upto_region 1 with fail
  refine wp_new2 (fun W hsz k1 k2 kb => ?_)
  have k2 : Arr W (w.heap.size + 1) (lims 4 0) := k2
  clear hsz
  go_wp2_with (refine wpList_load_arr2 rfl _ _ rfl _ rfl (by decide +kernel) _ (by assumption) (by first | (rw [lims_len]; kernel_rfl) | (rw [el_rep]; kernel_rfl) | (rw [el_len]; kernel_rfl) | (rw [byts_len]; kernel_rfl) | (rw [us_len]; kernel_rfl) | (rw [bytn_len]; kernel_rfl) | (rw [ens_len, digs_len]; kernel_rfl) | kernel_rfl) ?_)
  refine (c1.out _).mono ?_
  rintro e w_3 ⟨rfl, hb_3⟩
  have k1 := k1.below hb_3
  have k2 := k2.below hb_3
  have kb := bel kb hb_3
  clear hb_3
  go_upto_region 2 with (first | (refine wpList_load_arr2 rfl _ _ rfl _ rfl (by decide +kernel) _ (by assumption) (by first | (rw [lims_len]; kernel_rfl) | (rw [el_rep]; kernel_rfl) | (rw [el_len]; kernel_rfl) | (rw [byts_len]; kernel_rfl) | (rw [us_len]; kernel_rfl) | (rw [bytn_len]; kernel_rfl) | (rw [ens_len, digs_len]; kernel_rfl) | kernel_rfl) ?_) | (refine wpList_store_arr rfl _ _ _ rfl _ _ rfl rfl _ (by first | assumption | exact Arr.new _ _ _) (by first | (rw [lims_len]; kernel_rfl) | (rw [el_rep]; kernel_rfl) | (rw [el_len]; kernel_rfl) | (rw [byts_len]; kernel_rfl) | (rw [us_len]; kernel_rfl) | (rw [bytn_len]; kernel_rfl) | (rw [ens_len, digs_len]; kernel_rfl) | kernel_rfl) (by first | (rw [lims_len, lims_len]) | (rw [el_rep, el_rep]) | (rw [el_rep, el_len]; rfl) | (rw [el_len, el_rep]; rfl) | (rw [el_len, el_len]; rfl) | (rw [byts_len, byts_len]) | (rw [lims_len]; rfl) | (rw [byts_len]; rfl) | (rw [us_len, us_len]; rfl) | (rw [bytn_len, bytn_len]) | (rw [bytn_len]; rfl) | (rw [ens_len, ens_len, digs_len, digs_len]) | rfl) (by first | exact lims_one _ _ | exact el_one _ | exact byts_one _ | exact us_one _ | exact bytn_one _ _ | exact ens_one _ | (intro v hv; simp at hv; rcases hv with rfl | rfl | rfl | rfl <;> rfl)) ?_))
  have hg_k3_k2 := k2.lt
  refine code_new (fun w_4 k3 hnew => ?_)
  have k2 := k2.below hnew
  have kb := bel kb hnew
  clear hnew
  generalize (w_3).heap.size = g_k3 at k3 hg_k3_k2 ⊢
  have d0 := k3.cell g0.out
  have d1 := k3.cell g1.out
  have b1' : bits BinOp.and IntKind.u64 (x : Int) 1152921487695413247 = (u : Int) := b1.out
  have b2' : bits BinOp.and IntKind.u64 (y : Int) 1152921487695413244 = (v : Int) := b2.out
  have el : [Value.int .u64 (u : Int), .int .u64 (v : Int), .int .u64 0, .int .u64 0] = lims 4 R := e1.out.symm
  go_wp2_with (refine wpList_store_arr rfl _ _ _ rfl _ (lims 4 R) rfl (by rw [← el]; rfl) _ k2 (by rw [lims_len]; kernel_rfl) (by rw [lims_len, lims_len]) (lims_one _ _) ?_)
  exact bodyPost_ret (results_arr2 Tryz.results80 _ _ _ rfl (by kernel_rfl) _ (by first | assumption | exact Arr.setRow (by assumption) _) (by first | (rw [lims_len]; kernel_rfl) | (rw [el_rep]; kernel_rfl) | (rw [el_len]; kernel_rfl) | (rw [byts_len]; kernel_rfl) | (rw [us_len]; kernel_rfl) | (rw [bytn_len]; kernel_rfl) | (rw [ens_len, digs_len]; kernel_rfl) | kernel_rfl)) rfl ⟨rfl, below_setRow kb (by omega) _⟩
end Go.Proofs.YtmlmggmnlgcbcaaGreat

