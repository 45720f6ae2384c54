import Derived.Test.YtibdgkhkhmdihaaGreatDoorJa04
import Derived.Test.YtibdgkhkhmdihaaGreatDoorJa07
import Derived.Laws.Bits64
import Derived.Laws.Cover3
import Derived.Test.YtibdgkhkhmdihaaGreatDoorJa03
import Derived.Test.YtibdgkhkhmdihaaGreatDoorJa06
import Derived.Laws.MakeOwn

namespace Go.Proofs.YtibdgkhkhmdihaaGreatDoor
open Go.RowKit
/-- The eight bytes of a number, the highest first. -/
def be8 (n : Int) : List UInt8 := (List.range 8).map fun i => UInt8.ofNat ((n % 18446744073709551616).toNat / 2 ^ (8 * (7 - i)) % 256)
def be8s (ns : List Int) : List UInt8 := ns.flatMap be8
theorem be8_len (n : Int) : (be8 n).length = 8 := by simp [be8]
theorem wrap_u64_mod (n : Int) : IntKind.u64.wrap n = n % 18446744073709551616 := IntKind.wrap_u64 n
theorem be8_at (n : Int) (k : Nat) (hk : k < 8) : ∃ c : UInt8, (be8 n).take (k + 1) = (be8 n).take k ++ [c] ∧ IntKind.u64.wrap n / 2 ^ (8 * (7 - k)) % 256 = (c.toNat : Int) := by
  have hl : k < (be8 n).length := by rw [be8_len]; exact hk
  refine ⟨(be8 n)[k], ?_, ?_⟩
  · rw [List.take_add_one, List.getElem?_eq_getElem hl]; rfl
  · rw [wrap_u64_mod]
    simp only [be8, List.getElem_map, List.getElem_range]
    have h0 : 0 ≤ n % 18446744073709551616 := by omega
    obtain ⟨m, hm⟩ := Int.eq_ofNat_of_zero_le h0
    rw [hm]
    have e : (UInt8.ofNat ((m : Int).toNat / 2 ^ (8 * (7 - k)) % 256)).toNat = m / 2 ^ (8 * (7 - k)) % 256 := by
      simp
    rw [e]
    simp
theorem be8s_at (ns : List Int) (j : Nat) (h : j < ns.length) : be8s (ns.take (j + 1)) = be8s (ns.take j) ++ be8 ns[j] := by
  unfold be8s
  rw [List.take_add_one, List.getElem?_eq_getElem h, List.flatMap_append]
  simp only [Option.toList, List.flatMap_cons, List.flatMap_nil, List.append_nil]
theorem be8s_len (ns : List Int) : (be8s ns).length = 8 * ns.length := by
  induction ns with
  | nil => rfl
  | cons n ns ih => simp only [be8s, List.flatMap_cons, List.length_append, be8_len, List.length_cons] at *; omega
set_option maxHeartbeats 1000000 in
set_option maxRecDepth 100000 in
theorem packInt_sl (vb : Value) (bs : List UInt8) (an : Option Addr) (cn : Nat) (ns : List Int) (w : World) (hb : Sl w vb (u8s bs)) (hn : Sl w (.slice an ns.length cn) (ns.map (.int .i64)))
    (hr : bs.length + 8 * ns.length ≤ 140737488355328) :
    Calls Tryz.prog 21 #[vb, .slice an ns.length cn] w fun e w' =>
      ∃ v, e = .returned v ∧ w'.ownsRow w.heap.size 5 1 v (bs ++ be8s ns).length (u8s (bs ++ be8s ns)) ∧ Below w.heap.size w w' := by
  obtain ⟨i, hi, hz0, hz1, hz2⟩ := info_parts info_u8
  have hn' := Lib.hid hn
  clear hn
  go_enter Tryz.func21, Tryz.ntmps21
  go_wp2_with fail
  refine (clone_any vb bs w hb (by omega)).mono ?_
  rintro e w1 ⟨v1, rfl, hown, hbel, -⟩
  clear hb
  go_wp2_with fail
  go_loopw [5, 14] (fun v i wr => ∃ j : Nat, j ≤ ns.length ∧ i = .int .i64 j ∧ Below w.heap.size w wr ∧ wr.ownsRow w.heap.size 5 1 v (bs ++ be8s (ns.take j)).length (u8s (bs ++ be8s (ns.take j)))) (fun _ i _ => ns.length - (intOf i).toNat)
  case atStart => exact ⟨0, Nat.zero_le _, rfl, hbel, by simpa [be8s] using hown⟩
  case round =>
    obtain ⟨j, hj, rfl, hbr, hor⟩ := hrel
    clear hbel hown
    by_cases hlt : j < ns.length
    · obtain ⟨b, o, rfl, -, -, hcap, hcs⟩ := (hn'.out.below hbr).at (by simp; omega)
      have hcell := hcs j (.int .i64 ns[j]) (by simp [List.getElem?_eq_getElem hlt])
      clear hcs
      obtain ⟨wo, rfl⟩ : ∃ wo : World, wo = wr := ⟨_, rfl⟩
      have hlen : ns.length ≤ 9223372036854775807 := by omega
      go_wp2_with fail
      go_loopw [5, 9] (fun v kv wr => ∃ k : Nat, k ≤ 8 ∧ kv = .int .i64 (7 - (k : Int)) ∧ Below w.heap.size w wr ∧ wr.ownsRow w.heap.size 5 1 v (bs ++ be8s (ns.take j) ++ (be8 ns[j]).take k).length (u8s (bs ++ be8s (ns.take j) ++ (be8 ns[j]).take k))) (fun _ kv _ => (intOf kv + 1).toNat)
      case atStart => exact ⟨0, Nat.zero_le _, rfl, hbr, by simpa using hor⟩
      case round =>
        obtain ⟨k, hk, rfl, hbi, hoi⟩ := hrel
        clear hbr hor hcell
        by_cases hk8 : k < 8
        · have h1 : (0 : Int) ≤ 7 - (k : Int) := by omega
          obtain ⟨c, hc1, hc2⟩ := be8_at ns[j] k hk8
          have hc2' := Lib.hid hc2
          have hc1' := Lib.hid hc1
          clear hc1 hc2
          have hbig : (bs ++ be8s (ns.take j) ++ (be8 ns[j]).take k).length + 1 ≤ 140737488355328 := by
            simp only [List.length_append, be8s_len, List.length_take, be8_len]; omega
          have hbig' := Lib.hid hbig
          clear hbig
          have hsz : w.heap.size ≤ wr.heap.size := hbi.size
          go_wp2_with (at_builtin; refine wpList_append_own _ rfl _ _ 26 rfl w.heap.size 5 i (.int .u8 0) 1 1 Tryz.underlying26 hi hz0 hz1 hz2 rfl (by decide) _ _ _ rfl (hoi.alloc _) ⟨wr.heap.size, 0, none⟩ 1 1 [_] rfl rfl (cells_new wr _ _) ?c1 ?c2 ?c3 ?c4 ?_)
          case c1 => intro u hu; simp at hu; subst hu; rfl
          case c2 => have := hbig'.out; unfold maxLen; omega
          case c3 => have := hbig'.out; omega
          case c4 => simp; omega
          intro v' w2 hown2 hg2 _
          have hb2 := below_grown1 hbi hoi hsz hg2
          rw [hc2'.out] at hown2
          clear hoi hg2 hbi
          go_wp2
          go_roundw
          case rel =>
            refine ⟨k + 1, by omega, by simp; omega, hb2, ?_⟩
            rw [hc1'.out, ← List.append_assoc]
            simpa [u8s, Nat.add_assoc] using hown2
          case measure => simp [intOf]; omega
        · have hk : k = 8 := by omega
          subst hk
          have hf : (be8 ns[j]).take 8 = be8 ns[j] := List.take_of_length_le (by rw [be8_len]; exact Nat.le_refl _)
          rw [hf] at hoi
          clear hf
          go_wp2
          go_roundw
          case rel => exact ⟨j + 1, by omega, by go_num, hbi, by rw [be8s_at ns j hlt, ← List.append_assoc]; exact hoi⟩
          case measure => simp [intOf]; omega
    · have hj' : j = ns.length := by omega
      subst hj'
      rw [List.take_of_length_le (Nat.le_refl _)] at hor
      go_wp2
      go_ret
      exact ⟨_, rfl, hor, hbr⟩
theorem packInt_any (vb vn : Value) (bs : List UInt8) (ns : List Int) (w : World) (hb : Sl w vb (u8s bs)) (hn : Sl w vn (ns.map (.int .i64)))
    (hr : bs.length + 8 * ns.length ≤ 140737488355328) :
    Calls Tryz.prog 21 #[vb, vn] w fun e w' =>
      ∃ v, e = .returned v ∧ w'.ownsRow w.heap.size 5 1 v (bs ++ be8s ns).length (u8s (bs ++ be8s ns)) ∧ Below w.heap.size w w' := by
  obtain ⟨a, cap, rfl, h⟩ := id hn
  rw [List.length_map] at *
  exact packInt_sl vb bs a cap ns w hb hn hr
end Go.Proofs.YtibdgkhkhmdihaaGreatDoor


namespace Go.Proofs.YtibdgkhkhmdihaaGreatDoor
/-- 2^130 - 5. -/
def p13 : Nat := 1361129467683753853853498429727072845819
theorem p13_two : (2 : Nat) ^ 130 = p13 + 5 := by decide
/-- What is above 2^130 comes back five times. -/
def fold13 (n : Nat) : Nat := n % 2 ^ 130 + 5 * (n / 2 ^ 130)
theorem fold13_mod (n : Nat) : fold13 n % p13 = n % p13 := by
  conv => rhs; rw [← Nat.mod_add_div n (2 ^ 130), p13_two]
  unfold fold13
  rw [p13_two, Nat.add_mul, ← Nat.add_assoc, Nat.add_right_comm, Nat.add_mul_mod_self_left]
theorem fold13_lt {n K : Nat} (h : n < 2 ^ 130 * K) : fold13 n < 2 ^ 130 + 5 * K := by
  unfold fold13
  have := (Nat.div_lt_iff_lt_mul (show 0 < 2 ^ 130 by decide)).2 (by rw [Nat.mul_comm]; exact h)
  omega
theorem fold13_256 {n : Nat} (h : n < 2 ^ 256) : fold13 n < 2 ^ 131 := by
  have := fold13_lt (K := 2 ^ 126) (n := n) (by omega)
  omega
/-- A block's number. -/
def blkV (bs : List UInt8) : Nat := val 256 (bs.map fun (x : UInt8) => x.toNat) + 256 ^ bs.length
/-- Behind k blocks. -/
def polyK (r : Nat) (L : List UInt8) : Nat → Nat
  | 0 => 0
  | k + 1 => (polyK r L k + blkV ((L.drop (16 * k)).take 16)) * r % p13
theorem polyK_append (r : Nat) (L M : List UInt8) : ∀ k, 16 * k ≤ L.length → polyK r (L ++ M) k = polyK r L k
  | 0, _ => rfl
  | k + 1, h => by
    rw [polyK, polyK, polyK_append r L M k (by omega), List.drop_append_of_le_length (by omega), List.take_append_of_le_length (by rw [List.length_drop]; omega)]
theorem val_map_lt (bs : List UInt8) : val 256 (bs.map fun (x : UInt8) => x.toNat) < 256 ^ bs.length := by
  have := val_lt 256 (by decide) (bs.map fun (x : UInt8) => x.toNat) (by intro x hx; simp only [List.mem_map] at hx; obtain ⟨y, -, rfl⟩ := hx; exact y.toNat_lt)
  simpa using this
theorem blkV_lt {bs : List UInt8} (h : bs.length ≤ 16) : blkV bs < 2 ^ 129 := by
  have h1 := val_map_lt bs
  have h2 : 256 ^ bs.length ≤ 256 ^ 16 := Nat.pow_le_pow_right (by decide) h
  unfold blkV
  omega
/-- What has been summed up of L. -/
def PolySt (r : Nat) (L : List UInt8) (h : Nat) : Prop := h % p13 = polyK r L (L.length / 16) ∧ h < 2 ^ 131
def rest16 (L : List UInt8) : List UInt8 := L.drop (16 * (L.length / 16))
theorem rest16_len (L : List UInt8) : (rest16 L).length = L.length % 16 := by unfold rest16; rw [List.length_drop]; omega
theorem PolySt.nil (r : Nat) : PolySt r [] 0 := ⟨rfl, by decide⟩
theorem turn_mod {r h k b : Nat} (hk : h % p13 = k) : fold13 ((h + b) * r) % p13 = (k + b) * r % p13 := by
  rw [fold13_mod, ← hk, Nat.mul_mod (h % p13 + b), Nat.add_mod (h % p13), Nat.mod_mod, ← Nat.add_mod, ← Nat.mul_mod]
theorem turn_lt {r h b : Nat} (hh : h < 2 ^ 131) (hb : b < 2 ^ 129) (hr : r < 2 ^ 124) : (h + b) * r < 2 ^ 256 := by
  have h1 : h + b < 2 ^ 132 := by omega
  have := Nat.mul_lt_mul'' h1 hr
  rwa [← Nat.pow_add] at this
theorem PolySt.full {r h : Nat} {L : List UInt8} (hs : PolySt r L h) (hr : r < 2 ^ 124) (x : UInt8) (h15 : L.length % 16 = 15) : PolySt r (L ++ [x]) (fold13 ((h + blkV (rest16 L ++ [x])) * r)) := by
  obtain ⟨h1, h2⟩ := hs
  have hl : (rest16 L ++ [x]).length ≤ 16 := by rw [List.length_append, rest16_len, List.length_singleton]; omega
  refine ⟨?_, fold13_256 (turn_lt h2 (blkV_lt hl) hr)⟩
  rw [turn_mod h1, List.length_append, List.length_singleton, show (L.length + 1) / 16 = L.length / 16 + 1 by omega, polyK, polyK_append r L [x] _ (by omega), List.drop_append_of_le_length (by omega)]
  rw [List.take_of_length_le (by rw [List.length_append, List.length_drop, List.length_singleton]; omega)]
  rfl
/-- The last block, if there is one. -/
def lastH (r h : Nat) (L : List UInt8) : Nat := if L.length % 16 = 0 then h else fold13 ((h + blkV (rest16 L)) * r)
theorem PolySt.last {r h : Nat} {L : List UInt8} (hs : PolySt r L h) (hr : r < 2 ^ 124) : lastH r h L % p13 = polyK r L ((L.length + 15) / 16) ∧ lastH r h L < 2 ^ 131 := by
  obtain ⟨h1, h2⟩ := hs
  unfold lastH
  split
  · rename_i h0
    rw [show (L.length + 15) / 16 = L.length / 16 by omega]
    exact ⟨h1, h2⟩
  · rename_i h0
    have hl : (rest16 L).length ≤ 16 := by rw [rest16_len]; omega
    refine ⟨?_, fold13_256 (turn_lt h2 (blkV_lt hl) hr)⟩
    rw [turn_mod h1, show (L.length + 15) / 16 = L.length / 16 + 1 by omega, polyK]
    rw [List.take_of_length_le (by rw [List.length_drop]; omega)]
    rfl
def rot (ys : List Nat) (j i : Nat) : Nat := if j ≤ i then ys.getD (i - j) 0 else 320 * ys.getD (i + 17 - j) 0
def cS (xs ys : List Nat) (i : Nat) : Nat → Nat
  | 0 => 0
  | j + 1 => cS xs ys i j + xs.getD j 0 * rot ys j i
end Go.Proofs.YtibdgkhkhmdihaaGreatDoor


namespace Go.Proofs.YtibdgkhkhmdihaaGreatDoor
open Go.RowKit
/-- A state. -/
def stv (h r : Nat) (bs : List UInt8) (n : Nat) : List Value := lims 4 h ++ (lims 4 r ++ (u8s bs ++ [.int .i64 (n : Int)]))
end Go.Proofs.YtibdgkhkhmdihaaGreatDoor


namespace Go.Proofs.YtibdgkhkhmdihaaGreatDoor
open Go.RowKit
theorem lims_mod (k n : Nat) (h : ∃ c, k = n + 18446744073709551616 ^ 4 * c) : lims 4 k = lims 4 n := by
  obtain ⟨c, rfl⟩ := h
  unfold lims
  congr 1
  unfold digs
  apply List.map_congr_left
  intro i hi
  simp only [List.mem_range] at hi
  have e : (18446744073709551616 : Nat) ^ 4 * c = 18446744073709551616 ^ i * (18446744073709551616 * (18446744073709551616 ^ (3 - i) * c)) := by
    rw [← Nat.mul_assoc, ← Nat.mul_assoc, Nat.mul_assoc _ 18446744073709551616, ← Nat.pow_succ', ← Nat.pow_add, show i + (3 - i).succ = 4 by omega]
  rw [e, Nat.add_mul_div_left _ _ (Nat.pow_pos (by decide)), Nat.add_mul_mod_self_left]
end Go.Proofs.YtibdgkhkhmdihaaGreatDoor


namespace Go.Proofs.YtibdgkhkhmdihaaGreatDoor
open Go.RowKit
/-- Block g is the state behind the bytes L. -/
def PSt (w : World) (g R : Nat) (L : List UInt8) : Prop := ∃ h bs, PolySt R L h ∧ bs.length = 16 ∧ bs.take (L.length % 16) = rest16 L ∧ Arr w g (stv h R bs (L.length % 16))
theorem PSt.below {w w' : World} {g R : Nat} {L : List UInt8} (h : PSt w g R L) (hb : Below w.heap.size w w') : PSt w' g R L := by
  obtain ⟨h, bs, h1, h2, h3, h4⟩ := h
  exact ⟨h, bs, h1, h2, h3, h4.below hb⟩
theorem PSt.lt {w : World} {g R : Nat} {L : List UInt8} (h : PSt w g R L) : g < w.heap.size := by
  obtain ⟨h, bs, -, -, -, h4⟩ := h
  exact h4.lt
theorem PSt.start {w : World} {g R : Nat} (h : Arr w g (stv 0 R (List.replicate 16 0) 0)) : PSt w g R [] := ⟨0, _, PolySt.nil R, by simp, rfl, h⟩
theorem flat_take_succ {ls : List (List UInt8)} {i : Nat} (h : i < ls.length) : (ls.take (i + 1)).flatten = (ls.take i).flatten ++ ls[i] := by
  rw [List.take_succ_eq_append_getElem h, List.flatten_append]; simp
end Go.Proofs.YtibdgkhkhmdihaaGreatDoor


namespace Go.Proofs.YtibdgkhkhmdihaaGreatDoor
open Go.RowKit
/-- What is put behind a message: 128, noughts, its length in bits. -/
def shZa (n : Nat) : Nat := (119 - n % 64) % 64
def shXa (L : List UInt8) : List UInt8 := L ++ [128] ++ List.replicate (shZa L.length) 0
def shMa (L : List UInt8) : List UInt8 := shXa L ++ be8 (8 * L.length : Int)
/-- The bytes of a state's words, so many of them, as a number. -/
def shBa (h : List Nat) (i : Nat) : Nat := h.getD (i / 4) 0 / 2 ^ (24 - 8 * (i % 4)) % 256
def shOa (h : List Nat) : Nat → Nat
  | 0 => 0
  | i + 1 => shOa h i + 256 ^ i * shBa h i
theorem shOa_lt (h : List Nat) : ∀ i, shOa h i < 256 ^ i
  | 0 => by rw [shOa]; decide
  | i + 1 => by
    have h1 := shOa_lt h i
    have h2 : shBa h i < 256 := Nat.mod_lt _ (by decide)
    have h3 : 256 ^ i * shBa h i ≤ 256 ^ i * 255 := Nat.mul_le_mul_left _ (by omega)
    rw [shOa, Nat.pow_succ]
    omega
/-- SHA-2 of a list, as a number whose lowest byte comes first. -/
def shaa (L : List UInt8) : Nat := shOa (shHa (shMa L) ((shMa L).length / 64)) 32
set_option maxHeartbeats 4000000 in
set_option maxRecDepth 100000 in
theorem shsuma_any (d : Option Addr) (cap : Nat) (ls : List (List UInt8)) (w : World) (hs : Sls w (.slice d ls.length cap) ls) :
    Calls Tryz.prog 20 #[.slice d ls.length cap] w fun e w' => e = .returned (.agg (bytn 32 (shaa ls.flatten)).toArray) ∧ Below w.heap.size w w' := by
  have hlen := hs.len
  obtain ⟨-, hlc, hcm⟩ := hlen
  unfold maxLen at hcm
  obtain ⟨X, hX⟩ : ∃ X, Ending.returned (.agg (bytn 32 (shaa ls.flatten)).toArray) = X := ⟨_, rfl⟩
  rw [hX]
  replace hX := Lib.hid hX
  replace hs := Lib.hid hs
  go_enter Tryz.func20, Tryz.ntmps20
  go_upto_region 1 with fail
  refine wp_new1 (fun W hsz k2 kb => ?_)
  replace k2 : Arr W w.heap.size (bytn 32 0) := k2
  clear hsz
  go_wp2_with fail
  refine (begina_any _).mono ?_
  rintro e w1 ⟨g, rfl, hg, k0, hb⟩
  have k0 := SSta.start k0
  have lt2 := k2.lt
  replace k2 := k2.below hb
  replace kb := bel kb hb
  obtain ⟨g2, hg2⟩ : ∃ g2, w.heap.size = g2 := ⟨_, rfl⟩
  rw [hg2] at k2 lt2 ⊢
  have h2g : g2 < g := by omega
  have hw2 : w.heap.size ≤ g2 := by omega
  clear hb hg lt2 hg2
  have ib : (ls.length : Int) ≤ 9223372036854775807 := by omega
  go_wp2_with fail
  go_loopw [14] (fun iv wr => ∃ i : Nat, i ≤ ls.length ∧ iv = .int .i64 i ∧ Arr wr g2 (bytn 32 0) ∧ SSta wr g ((ls.take i).flatten.length % 18446744073709551616) (ls.take i).flatten ∧ Below w.heap.size w wr) (fun iv _ => ls.length - (intOf iv).toNat)
  case atStart => exact ⟨0, Nat.zero_le _, rfl, k2, k0, kb⟩
  case round =>
    clear k2 k0 kb
    obtain ⟨i, hi, rfl, k2, k0, kb⟩ := hrel
    by_cases hlt : i < ls.length
    · obtain ⟨b, o, x, c, rfl, hcel0, hsl⟩ := hs.out.at hlt
      have hcel : wr.cell? ⟨b, o + i, none⟩ = some (.slice x ls[i].length c) := by rw [kb.cell (World.block_lt_of_cell? w _ hcel0)]; exact hcel0
      have hsucc := flat_take_succ hlt
      obtain ⟨l, hl⟩ : ∃ l, ls[i] = l := ⟨_, rfl⟩
      rw [hl] at hsucc hcel hsl
      obtain ⟨pre, hpre⟩ : ∃ pre, (ls.take i).flatten = pre := ⟨_, rfl⟩
      rw [hpre] at k0 hsucc
      have hll := hsl.len
      rw [u8s_len] at hll
      obtain ⟨-, hlc2, hcm2⟩ := hll
      unfold maxLen at hcm2
      clear hpre hl hcel0
      replace hsucc := Lib.hid hsucc
      replace hsl := Lib.hid hsl
      have ilt : (i : Int) < (ls.length : Int) := by omega
      obtain ⟨lg, hlg⟩ : ∃ lg, pre.length % 18446744073709551616 = lg := ⟨_, rfl⟩
      rw [hlg] at k0
      have lgl : lg < 18446744073709551616 := by omega
      have hlg2 : Hid ((pre ++ l).length % 18446744073709551616 = (lg + l.length) % 18446744073709551616) := Lib.hid (by rw [List.length_append]; omega)
      clear hlg
      go_wp2_with fail
      clear hcel
      go_loopw [20] (fun jv wr => ∃ j : Nat, j ≤ l.length ∧ jv = .int .i64 j ∧ Arr wr g2 (bytn 32 0) ∧ SSta wr g lg (pre ++ l.take j) ∧ Below w.heap.size w wr) (fun jv _ => l.length - (intOf jv).toNat)
      case atStart => exact ⟨0, Nat.zero_le _, rfl, k2, by rw [List.take_zero, List.append_nil]; exact k0, kb⟩
      case round =>
        clear k2 k0 kb
        obtain ⟨j, hj, rfl, k2, k0, kb⟩ := hrel
        by_cases hltj : j < l.length
        · obtain ⟨b2, o2, rfl, -, -, -, hcc⟩ := hsl.out.at (by rw [u8s_len]; omega)
          have hcel := hcc j _ (u8s_get l j hltj)
          have hcel2 : wr.cell? ⟨b2, o2 + j, none⟩ = some (.int .u8 (l[j].toNat : Int)) := by rw [kb.cell (World.block_lt_of_cell? w _ hcel)]; exact hcel
          have hts : pre ++ l.take (j + 1) = pre ++ l.take j ++ [l[j]] := by rw [List.take_succ_eq_append_getElem hltj, List.append_assoc]
          have hyl : l[j].toNat < 256 := l[j].toNat_lt
          have c3 := Lib.hid (takea_st g lg (pre ++ l.take j) l[j] wr k0)
          generalize l[j] = y at *
          rw [← hts] at c3
          clear hcc hcel hts
          have jlt : (j : Int) < (l.length : Int) := by omega
          go_wp2_with fail
          clear hcel2
          refine c3.out.mono ?_
          rintro e w4 ⟨rfl, k0', hg⟩
          have k2 := k2.kept hg (by omega)
          have kb := below_gr kb hg (by omega) kb.size
          clear c3 hg k0
          go_wp2_with fail
          exact ⟨⟨j + 1, by omega, by go_num, k2, k0', kb⟩, by simp [intOf]; omega⟩
        · obtain rfl : j = l.length := by omega
          rw [List.take_of_length_le (Nat.le_refl _), ← hsucc.out] at k0
          obtain ⟨lg2, hl2⟩ : ∃ n, (lg + l.length) % 18446744073709551616 = n := ⟨_, rfl⟩
          have fl : IntKind.u64.wrap ((lg : Int) + (l.length : Int)) = (lg2 : Int) := by rw [wrap_u64_mod]; omega
          have hl3 : Hid (((ls.take (i + 1)).flatten).length % 18446744073709551616 = lg2) := Lib.hid (by rw [hsucc.out, hlg2.out, hl2])
          have ll0 : (0 : Int) ≤ (l.length : Int) := by omega
          have ll1 : (l.length : Int) ≤ 9223372036854775807 := by omega
          have fu : IntKind.u64.wrap (l.length : Int) = (l.length : Int) := by rw [wrap_u64_mod]; omega
          obtain ⟨hce, hfr⟩ := k0.l
          clear hl2
          go_wp2_with fail
          replace k2 := k2.other (a := ⟨g, 137, none⟩) (by simp; omega) (.int .u64 (lg2 : Int))
          replace k0 := k0.set (m := lg2)
          exact ⟨⟨i + 1, by omega, by go_num, k2, by rw [hl3.out]; exact k0, kb.setCell (by simp; omega) _⟩, by simp [intOf]; omega⟩
    · obtain rfl : i = ls.length := by omega
      rw [List.take_of_length_le (Nat.le_refl _)] at k0
      obtain ⟨L, hL⟩ : ∃ L, ls.flatten = L := ⟨_, rfl⟩
      have hX2 := hX.out
      rw [hL] at hX2 k0
      replace hX := Lib.hid hX2
      obtain ⟨N, hN⟩ : ∃ N, L.length = N := ⟨_, rfl⟩
      obtain ⟨lg, hlg⟩ : ∃ lg, N % 18446744073709551616 = lg := ⟨_, rfl⟩
      rw [hN, hlg] at k0
      have c1 : Hid (Calls Tryz.prog 44 #[.pointer (some ⟨g, 0, none⟩), .int .u8 128] wr fun e w' => e = .returned (.tuple #[]) ∧ SSta w' g lg (L ++ [128]) ∧ wr.grownBy w' (some g)) := Lib.hid (takea_st g lg L 128 wr k0)
      have c2 : Hid (∀ wr M, SSta wr g lg M → Calls Tryz.prog 44 #[.pointer (some ⟨g, 0, none⟩), .int .u8 0] wr fun e w' => e = .returned (.tuple #[]) ∧ SSta w' g lg (M ++ [0]) ∧ wr.grownBy w' (some g)) := Lib.hid (fun wr M k => takea_st g lg M 0 wr k)
      replace hN := Lib.hid hN
      have hlg2 := Lib.hid hlg
      clear hL hX2 hs hlg
      go_wp2_with fail
      refine c1.out.mono ?_
      rintro e w4 ⟨rfl, k0', hg⟩
      replace k2 := k2.kept hg (by omega)
      replace kb := below_gr kb hg (by omega) kb.size
      replace k0 : SSta w4 g lg (L ++ [128] ++ List.replicate 0 0) := by rw [List.replicate_zero, List.append_nil]; exact k0'
      clear c1 hg k0'
      go_wp2_with fail
      go_loopw [44] (fun _ wr => ∃ z : Nat, z ≤ shZa N ∧ Arr wr g2 (bytn 32 0) ∧ SSta wr g lg (L ++ [128] ++ List.replicate z 0) ∧ Below w.heap.size w wr) (fun _ wr => ((56 + 64 - (intOf ((wr.cell? ⟨g, 136, none⟩).getD undef)).toNat) % 64))
      case atStart => exact ⟨0, Nat.zero_le _, k2, k0, kb⟩
      case round =>
      clear k2 k0 kb
      obtain ⟨z, hz, k2, k0, kb⟩ := hrel
      have hce := k0.n
      obtain ⟨m, hm⟩ : ∃ m, (L ++ [128] ++ List.replicate z 0).length % 64 = m := ⟨_, rfl⟩
      rw [hm] at hce
      have hm2 : m = (N + 1 + z) % 64 := by
        rw [← hm, ← hN.out]
        simp
        omega
      have hzz : shZa N = (119 - N % 64) % 64 := rfl
      by_cases hmn : m = 56
      · have dn : ((m : Int) != 56) = false := by rw [hmn]; rfl
        have hze : Hid (z = shZa N) := Lib.hid (by rw [hzz] at hz ⊢; omega)
        rw [hze.out] at k0
        have hXe : Hid (L ++ [128] ++ List.replicate (shZa N) 0 = shXa L) := Lib.hid (by rw [← hN.out]; rfl)
        clear hm hm2 hzz hz hze hmn
        rw [hXe.out] at k0
        clear c2
        obtain ⟨P, hP⟩ : ∃ P, shXa L = P := ⟨_, rfl⟩
        rw [hP] at k0
        replace hP := Lib.hid hP
        clear hXe
        have hn8 : Hid (IntKind.u64.wrap ((lg : Int) * 8) = IntKind.u64.wrap (8 * L.length : Int)) := Lib.hid (by rw [wrap_u64_mod, wrap_u64_mod, ← hlg2.out, ← hN.out]; omega)
        obtain ⟨E, hE⟩ : ∃ E, be8 (8 * L.length : Int) = E := ⟨_, rfl⟩
        have hat : Hid (∀ k, k < 8 → ∃ c : UInt8, E.take (k + 1) = E.take k ++ [c] ∧ IntKind.u64.wrap ((lg : Int) * 8) / 2 ^ (8 * (7 - k)) % 256 = (c.toNat : Int)) := Lib.hid (fun k hk => by rw [hn8.out, ← hE]; exact be8_at _ k hk)
        have hEl : Hid (E.length = 8) := Lib.hid (by rw [← hE, be8_len])
        replace hE := Lib.hid hE
        clear hn8
        go_wp2_with fail
        clear dn hce
        go_loopw [8] (fun kv wr => ∃ k : Nat, k ≤ 8 ∧ kv = .int .i64 (7 - (k : Int)) ∧ Arr wr g2 (bytn 32 0) ∧ SSta wr g lg (P ++ E.take k) ∧ Below w.heap.size w wr) (fun kv _ => (intOf kv + 1).toNat)
        case atStart => exact ⟨0, Nat.zero_le _, rfl, k2, by rw [List.take_zero, List.append_nil]; exact k0, kb⟩
        case round =>
        clear k2 k0 kb
        obtain ⟨k, hk, rfl, k2, k0, kb⟩ := hrel
        by_cases hkn : k < 8
        · obtain ⟨c, hc1, hc2⟩ := hat.out k hkn
          have c3 := Lib.hid (takea_st g lg (P ++ E.take k) c wr k0)
          have hes : P ++ E.take (k + 1) = P ++ E.take k ++ [c] := by rw [hc1, List.append_assoc]
          rw [← hes] at c3
          obtain ⟨q, hq⟩ : ∃ q, 7 - k = q := ⟨_, rfl⟩
          have hq7 : 7 - (k : Int) = (q : Int) := by omega
          have hq0 : (0 : Int) ≤ (q : Int) := by omega
          have hq1 : (q : Int) ≤ 7 := by omega
          obtain ⟨s, hs⟩ : ∃ s, 8 * q = s := ⟨_, rfl⟩
          have hs8 : 8 * (q : Int) = (s : Int) := by omega
          have hs0 : (0 : Int) ≤ (s : Int) := by omega
          have hs1 : (s : Int) < 64 := by omega
          rw [hq, hs] at hc2
          obtain ⟨y, hy⟩ : ∃ y, c.toNat = y := ⟨_, rfl⟩
          rw [hy] at hc2 c3
          have ly : y < 256 := by rw [← hy]; exact c.toNat_lt
          obtain ⟨hce, -⟩ := k0.l
          clear hc1 hes hy
          replace hq := Lib.hid hq
          replace hs := Lib.hid hs
          go_wp2_with fail
          refine c3.out.mono ?_
          rintro e w5 ⟨rfl, k0', hg⟩
          replace k2 := k2.kept hg (by omega)
          replace kb := below_gr kb hg (by omega) kb.size
          clear c3 hg k0 hc2 hce
          go_wp2_with fail
          exact ⟨⟨k + 1, by omega, by congr 1; omega, k2, k0', kb⟩, by simp [intOf]; omega⟩
        · have hk8 : Hid (k = 8) := Lib.hid (by omega)
          have hM : Hid (P ++ E.take 8 = shMa L) := Lib.hid (by rw [List.take_of_length_le (by rw [hEl.out]; exact Nat.le_refl _), ← hP.out, ← hE.out]; rfl)
          rw [hk8.out, hM.out] at k0
          have dk : decide ((0 : Int) ≤ 7 - (k : Int)) = false := decide_eq_false (by omega)
          have dk2 : ¬ (0 : Int) ≤ 7 - (k : Int) := by omega
          obtain ⟨kc, hkc⟩ : ∃ kc, 7 - (k : Int) = kc := ⟨_, rfl⟩
          rw [hkc] at dk dk2 ⊢
          clear hkc hk hkn hat hM hEl
          obtain ⟨h, hh⟩ : ∃ h, shHa (shMa L) ((shMa L).length / 64) = h := ⟨_, rfl⟩
          have ok := shHa_ok (shMa L) ((shMa L).length / 64)
          obtain ⟨bs, -, -, k0⟩ := k0
          rw [hh] at k0 ok
          have hX2 := hX.out
          rw [shaa, hh] at hX2
          replace hX := Lib.hid hX2
          obtain ⟨nn, hnn⟩ : ∃ nn, (shMa L).length % 64 = nn := ⟨_, rfl⟩
          rw [hnn] at k0
          replace ok := Lib.hid ok
          clear hnn hh hX2
          go_upto_region 20 with fail
          refine wp_new1 (fun w8 hsz k9 hb8 => ?_)
          replace k9 : Arr w8 wr.heap.size (bytn 32 (shOa h 0)) := by rw [shOa]; exact k9
          have h09 := k0.lt
          replace k0 := k0.below hb8
          replace k2 := k2.below hb8
          replace kb := bel kb hb8
          obtain ⟨g9, hg9⟩ : ∃ g, wr.heap.size = g := ⟨_, rfl⟩
          rw [hg9] at k9 h09 ⊢
          clear hb8 hsz hg9 dk dk2
          go_wp2_with fail
          go_loopw [63] (fun iv wr => ∃ i : Nat, i ≤ 32 ∧ iv = .int .i64 i ∧ Arr wr g2 (bytn 32 0) ∧ Arr wr g (stva h bs nn lg) ∧ Arr wr g9 (bytn 32 (shOa h i)) ∧ Below w.heap.size w wr) (fun iv _ => 32 - (intOf iv).toNat)
          case atStart => exact ⟨0, Nat.zero_le _, rfl, k2, k0, k9, kb⟩
          case round =>
          clear k2 k0 k9 kb
          obtain ⟨i, hi, rfl, k2, k0, k9, kb⟩ := hrel
          have hi0 : (0 : Int) ≤ (i : Int) := by omega
          by_cases hin : i < 32
          · have hi1 : (i : Int) < 32 := by omega
            obtain ⟨q, hq⟩ : ∃ q, i / 4 = q := ⟨_, rfl⟩
            have hq8 : q < 8 := by omega
            have cq := stva_hj (bs := bs) (n := nn) (lg := lg) ok.out.1 hq8
            have cq := k0.cell cq
            have fq : (i : Int) / 4 = (q : Int) := by omega
            have hq0 : (0 : Int) ≤ (q : Int) := by omega
            have hq1 : (q : Int) < 8 := by omega
            have fw : IntKind.i64.wrap (q : Int) = (q : Int) := i64_in (by omega)
            obtain ⟨r, hr⟩ : ∃ r, i % 4 = r := ⟨_, rfl⟩
            have fr : (i : Int) % 4 = (r : Int) := by omega
            have fr2 : Int.tmod (i : Int) 4 = (r : Int) := by rw [Int.tmod_eq_emod_of_nonneg hi0]; omega
            have hr0 : (0 : Int) ≤ (r : Int) := by omega
            have hr1 : (r : Int) < 4 := by omega
            obtain ⟨s, hs⟩ : ∃ s, 24 - 8 * r = s := ⟨_, rfl⟩
            have f8 : IntKind.i64.wrap (8 * (r : Int)) = 8 * (r : Int) := i64_in (by omega)
            have fs : IntKind.i64.wrap (24 - 8 * (r : Int)) = (s : Int) := by rw [i64_in (by omega)]; omega
            have fs2 : 24 - 8 * (r : Int) = (s : Int) := by omega
            have hs0 : (0 : Int) ≤ (s : Int) := by omega
            have hs1 : (s : Int) < 32 := by omega
            obtain ⟨x, hx⟩ : ∃ x, h.getD q 0 = x := ⟨_, rfl⟩
            rw [hx] at cq
            have hB : Hid (shBa h i = x / 2 ^ s % 256) := Lib.hid (by rw [shBa, hq, hr, hs, hx])
            have hset : Hid ((bytn 32 (shOa h i)).set i (.int .u8 ((x / 2 ^ s % 256 : Nat) : Int)) = bytn 32 (shOa h (i + 1))) := Lib.hid (by rw [bytn_snoc (shOa_lt h i) (Nat.mod_lt _ (by decide)), shOa, hB.out])
            have hlen9 : Hid ((bytn 32 (shOa h i)).length = 32) := Lib.hid (bytn_len _ _)
            have c9 := k9.cell (bytn_get 32 (shOa h i) i hin)
            have z9 := k9.frozen i
            generalize shOa h i / 256 ^ i % 256 = y at c9
            replace hq := Lib.hid hq
            replace hr := Lib.hid hr
            replace hs := Lib.hid hs
            clear hx hB
            go_wp2_with fail
            have e8 : ((x / 2 ^ s % 256 : Nat) : Int) = (x : Int) / 2 ^ s % 256 := by simp
            rw [← e8]
            replace k2 := k2.other (a := ⟨g9, i, none⟩) (by simp; omega) (.int .u8 ((x / 2 ^ s % 256 : Nat) : Int))
            replace k0 := k0.other (a := ⟨g9, i, none⟩) (by simp; omega) (.int .u8 ((x / 2 ^ s % 256 : Nat) : Int))
            replace k9 := k9.set i (.int .u8 ((x / 2 ^ s % 256 : Nat) : Int))
            rw [hset.out] at k9
            exact ⟨⟨i + 1, by omega, by go_num, k2, k0, k9, kb.setCell (by simp; omega) _⟩, by simp [intOf]; omega⟩
          · have dj : decide ((i : Int) < 32) = false := decide_eq_false (by omega)
            have hie : Hid (i = 32) := Lib.hid (by omega)
            rw [hie.out] at k9
            go_wp2_with (first | (refine wpList_load_arr2 rfl _ _ rfl _ rfl (by decide +kernel) _ k9 (by rw [bytn_len]; kernel_rfl) ?_) | (refine wpl_storeG rfl _ _ _ rfl _ (bytn 32 (shOa h 32)) rfl rfl _ k2 (by rw [bytn_len]; kernel_rfl) (by rw [bytn_len, bytn_len]) (bytn_one _ _) (fun w9 k2 hg hsz => ?_)))
            have qb := below_gr kb hg (by omega) kb.size
            exact bodyPost_ret (results_arr2 Tryz.results20 _ _ _ rfl (by kernel_rfl) _ k2 (by rw [bytn_len]; kernel_rfl)) rfl ⟨hX.out, qb⟩
      · have dn : ((m : Int) == 56) = false := by simp; omega
        have hz2 : z + 1 ≤ shZa N := by rw [hzz] at hz ⊢; omega
        have c3 := Lib.hid (c2.out wr _ k0)
        have hes : L ++ [128] ++ List.replicate z 0 ++ [0] = L ++ [128] ++ List.replicate (z + 1) 0 := by rw [List.replicate_succ', List.append_assoc]
        rw [hes] at c3
        clear hes hm hzz
        replace hm2 := Lib.hid hm2
        have hmne : (m : Int) ≠ 56 := by omega
        go_wp2_with fail
        refine c3.out.mono ?_
        rintro e w5 ⟨rfl, k0', hg⟩
        replace k2 := k2.kept hg (by omega)
        replace kb := below_gr kb hg (by omega) kb.size
        clear c3 hg k0
        have hce2 := k0'.n
        obtain ⟨m', hm'⟩ : ∃ m, (L ++ [128] ++ List.replicate (z + 1) 0).length % 64 = m := ⟨_, rfl⟩
        rw [hm'] at hce2
        have hm3 : m' = (m + 1) % 64 := by
          rw [← hm', hm2.out, ← hN.out]
          simp
          omega
        have hml : m < 64 := by rw [hm2.out]; exact Nat.mod_lt _ (by decide)
        replace hce := Lib.hid hce
        replace hce2 := Lib.hid hce2
        clear hm'
        replace hm3 := Lib.hid hm3
        go_wp2_with fail
        refine ⟨⟨z + 1, hz2, k2, k0', kb⟩, ?_⟩
        rw [hce.out, hce2.out]
        simp only [Option.getD_some, intOf, Int.toNat_natCast]
        have := hm3.out
        omega
end Go.Proofs.YtibdgkhkhmdihaaGreatDoor


namespace Go.Proofs.YtibdgkhkhmdihaaGreatDoor
open Go.RowKit
theorem xor_256 {x y : Nat} (hx : x < 256) (hy : y < 256) : x ^^^ y < 256 := Nat.xor_lt_two_pow (n := 8) hx hy
end Go.Proofs.YtibdgkhkhmdihaaGreatDoor


namespace Go.Proofs.YtibdgkhkhmdihaaGreatDoor
open Go.RowKit
theorem make_u8c (n : Nat) (hn : n ≤ 100000) (w : World) : (Instr.makeSlice 26 (.int .i64 (n : Int)) (.int .i64 (n : Int))).run Tryz.prog w = .ok (.slice (some ⟨w.heap.size, 0, none⟩) n n) (w.alloc (.cells (u8s (List.replicate n 0)).toArray 5)) := by
  obtain ⟨i, hi, hz0, hz1, hz2⟩ := info_parts info_u8
  have h := run_makeSlice (P := Tryz.prog) w 26 5 i _ Tryz.underlying26 hi hz0 .i64 .i64 (n : Int) (n : Int) (by omega) (by omega) (by rw [hz1]; omega) (by rw [hz2]; omega) (by omega)
  rw [hz1, Int.toNat_natCast, Nat.mul_one] at h
  have e : madeCells (Value.int .u8 0).cells n = (u8s (List.replicate n 0)).toArray := by
    apply Array.ext
    · rw [size_madeCells]; simp [u8s]
    · intro j h1 h2
      simp [madeCells, u8s, Value.cells, Nat.mod_one]
  rw [e] at h
  exact h
theorem xor_u8c {a b : Nat} (ha : a < 256) (hb : b < 256) : bits .xor .u8 (a : Int) (b : Int) = ((a ^^^ b : Nat) : Int) := by
  have h8 : ∀ {a : Nat}, a < 256 → (BitVec.ofInt 8 (a : Int)).toNat = a := fun h => by
    rw [BitVec.ofInt_natCast, BitVec.toNat_ofNat]
    exact Nat.mod_eq_of_lt h
  show IntKind.u8.wrap ((BitVec.ofInt 8 (a : Int) ^^^ BitVec.ofInt 8 (b : Int)).toNat : Int) = _
  rw [BitVec.toNat_xor, h8 ha, h8 hb, u8_mod, Nat.mod_eq_of_lt (xor_256 ha hb)]
end Go.Proofs.YtibdgkhkhmdihaaGreatDoor


namespace Go.Proofs.YtibdgkhkhmdihaaGreatDoor
open Go.RowKit
/-- A row of one's own, as a fact that is carried along. -/
def Ow (w : World) (B : Nat) (e : TypeId) (v : Value) (n : Nat) (xs : List Value) : Prop := w.ownsRow B e 1 v n xs
theorem Ow.below {w w' : World} {B : Nat} {e : TypeId} {v : Value} {n : Nat} {xs : List Value} (h : Ow w B e v n xs) (hb : Below w.heap.size w w') : Ow w' B e v n xs := own_below h hb
theorem Ow.grown {w w' : World} {B g : Nat} {e : TypeId} {v : Value} {n : Nat} {xs : List Value} (h : Ow w B e v n xs) (hg : w.grownBy w' (some g)) (hb : g < B) : Ow w' B e v n xs := own_keptN h hg (fun q => by have := (World.ownsRow.lt h g q).1; omega)
section
variable {P : Program} {Q : Exit → Act → World → Prop}
/-- A block that has just been made is forgotten but for what is said of it. -/
theorem Tx.newF {l : List Oper} {S : World → Prop} {B f d : Nat} {a : Act} {w w0 : World} {o : Obj} {F : World → Prop} (hF : F (w0.alloc o)) (hd : ∀ w, F w → F w.drew) (hw : w = w0.alloc o ∨ w = (w0.alloc o).drew)
    (h : ∀ w', F w' → Below w0.heap.size w0 w' → Tx P l Q S B f d a w') : Tx P l Q S B f d a w := by
  rcases hw with rfl | rfl
  · exact h _ hF (below_alloc _ _)
  · exact h _ (hd _ hF) (below_alloc _ _).drew
end
end Go.Proofs.YtibdgkhkhmdihaaGreatDoor


namespace Go.Proofs.YtibdgkhkhmdihaaGreatDoor
open Go.RowKit
theorem Sl.ofArrN {w : World} {g m : Nat} {l : List UInt8} (h : Arr w g (u8s l)) (hm : l.length = m) (hl : m ≤ 1000000) : Sl w (.slice (some ⟨g, 0, none⟩) m m) (u8s l) := by
  have hq : (u8s l).length ≤ maxLen := by rw [u8s_len]; unfold maxLen; omega
  have := Sl.of_part h rfl (Nat.le_refl _) hq (fun j _ => by rw [Nat.zero_add])
  rw [u8s_len, hm] at this
  exact this
theorem bytn_part (X : Nat) : ∀ j, j < (bytn 32 (X % 256 ^ 32)).length → (bytn 64 X)[0 + j]? = (bytn 32 (X % 256 ^ 32))[j]? := by
  intro j hj
  rw [bytn_len] at hj
  rw [Nat.zero_add, bytn_get _ _ _ (by omega), bytn_get _ _ _ hj]
  have e2 : 256 ^ 32 = 256 ^ j * (256 * 256 ^ (32 - j - 1)) := by rw [← Nat.mul_assoc, ← Nat.pow_succ, ← Nat.pow_add, show j + 1 + (32 - j - 1) = 32 by omega]
  rw [e2, Nat.mod_mul_right_div_self, Nat.mod_mul_right_mod]
end Go.Proofs.YtibdgkhkhmdihaaGreatDoor


namespace Go.Proofs.YtibdgkhkhmdihaaGreatDoor
open Go.RowKit
/-- copy into a whole array: the world forgotten. -/
theorem wpl_copyG {P : Program} {w : World} {ops : Array Oper} {rest : List Oper} {o : Oper} {a : Act} {Q : Exit → Act → World → Prop} (hw : Region.wanted o (yielded ops a.tmps) = true) (d s : Operand) (dT sT : TypeId)
    (ho : o.op = .call { callee := .builtin .copy, args := #[d, s], argTypes := #[dT, sT] }) (elem : TypeId) (hu : P.underlying dT = some (.slice elem)) (hsz : (P.info? elem).map (·.size) = some 1)
    (g off dLen dCap : Nat) (hd : a.eval d = .slice (some ⟨g, off, none⟩) dLen dCap) (xs : List Value) (hg : Arr w g xs) (hfit : off + dLen ≤ xs.length) (vs : Value) (hs : a.eval s = vs) (full : List Value) (hsl : Sl w vs full) (h1 : ∀ v ∈ full, v.oneCell' = true)
    (ys : List Value) (hys : xs.take off ++ full.take dLen ++ xs.drop (off + (full.take dLen).length) = ys)
    (h : ∀ (W : World) (m : Int), Arr W g ys → w.grownBy W (some g) → W.heap.size = w.heap.size → wpList P ops Q rest (a.put o.dst (.int .i64 m)) W) : wpList P ops Q (o :: rest) a w := by
  refine wpList_copy_arr hw d s dT sT ho elem hu hsz g off dLen dCap hd xs hg hfit vs hs full hsl h1 ?_
  rw [hys]
  exact h _ _ (hg.setRow ys) (gr_row w g _) (by simp [World.setRow])
/-- A number's so many bytes, as a list. -/
def nb (k n : Nat) : List UInt8 := (digs 256 k n).map UInt8.ofNat
theorem nb_len (k n : Nat) : (nb k n).length = k := by simp [nb, digs_len]
theorem nb_u8s (k n : Nat) : bytn k n = u8s (nb k n) := bytn_u8s k n
theorem u8s_rep (n : Nat) : u8s (List.replicate n 0) = List.replicate n (.int .u8 0) := by simp [u8s]
/-- A key of a block, so many of its bytes turned. -/
def padS (key : List UInt8) (b : UInt8) : Nat → List UInt8
  | 0 => key ++ List.replicate (64 - key.length) 0
  | i + 1 => (padS key b i).set i ((padS key b i).getD i 0 ^^^ b)
def padL (key : List UInt8) (b : UInt8) : List UInt8 := padS key b 64
theorem padS_len {key : List UInt8} (h : key.length ≤ 64) (b : UInt8) : ∀ i, (padS key b i).length = 64
  | 0 => by rw [padS, List.length_append, List.length_replicate]; omega
  | i + 1 => by rw [padS, List.length_set, padS_len h b i]
set_option maxHeartbeats 4000000 in
set_option maxRecDepth 100000 in
theorem padded_any (a : Option Addr) (cap : Nat) (key : List UInt8) (b : UInt8) (hk : key.length ≤ 64) (w : World) (hs : Sl w (.slice a key.length cap) (u8s key)) :
    Calls Tryz.prog 291 #[.slice a key.length cap, .int .u8 (b.toNat : Int)] w fun e w' =>
      ∃ g, e = .returned (.slice (some ⟨g, 0, none⟩) 64 64) ∧ w.heap.size ≤ g ∧ Arr w' g (u8s (padL key b)) ∧ Below w.heap.size w w' := by
  have hmk : ∀ w : World, (Instr.makeSlice 26 (.int .i64 64) (.int .i64 64)).run Tryz.prog w = .ok (.slice (some ⟨w.heap.size, 0, none⟩) 64 64) (w.alloc (.cells (u8s (List.replicate 64 0)).toArray 5)) := fun w => make_u8c 64 (by decide) w
  have hsz1 : (Tryz.prog.info? 5).map (·.size) = some 1 := by kernel_rfl
  have hone := Lib.hid (u8s_one key)
  have hmix : Hid ((u8s (List.replicate 64 0)).take 0 ++ (u8s key).take 64 ++ (u8s (List.replicate 64 0)).drop (0 + ((u8s key).take 64).length) = u8s (padS key b 0)) := Lib.hid (by
    rw [List.take_zero, List.nil_append, List.take_of_length_le (by rw [u8s_len]; omega), u8s_len, Nat.zero_add, padS, u8s_append]
    congr 1
    rw [u8s_rep, u8s_rep, List.drop_replicate])
  obtain ⟨y, hy⟩ : ∃ y, b.toNat = y := ⟨_, rfl⟩
  have ly : y < 256 := by rw [← hy]; exact b.toNat_lt
  rw [hy]
  replace hy := Lib.hid hy
  replace hsz1 := Lib.hid hsz1
  replace hs := Lib.hid hs
  replace hk := Lib.hid hk
  go_enter Tryz.func291, Tryz.ntmps291
  go_upto_region 2 with fail
  refine wp_new1 (fun W hsz k5 kb => ?_)
  replace k5 : Arr W w.heap.size (u8s (List.replicate 64 0)) := k5
  replace hs := Lib.hid (hs.out.below kb)
  clear hsz hmk
  obtain ⟨g5, hg5⟩ : ∃ g, w.heap.size = g := ⟨_, rfl⟩
  rw [hg5] at k5 ⊢
  have hw5 : w.heap.size ≤ g5 := by omega
  clear hg5
  go_wp2_with (refine wpl_copyG rfl _ _ 26 26 rfl 5 Tryz.underlying26 hsz1.out g5 0 64 64 rfl _ k5 (by rw [u8s_len]; decide) _ rfl _ hs.out hone.out _ hmix.out (fun W2 m k5 hg hsz => ?_))
  replace kb := below_gr kb hg hw5 kb.size
  go_loopw [13] (fun iv wr => ∃ i : Nat, i ≤ 64 ∧ iv = .int .i64 i ∧ Arr wr g5 (u8s (padS key b i)) ∧ Below w.heap.size w wr) (fun iv _ => 64 - (intOf iv).toNat)
  case atStart => exact ⟨0, by omega, rfl, k5, kb⟩
  case round =>
  clear k5 kb hs hmix hone
  obtain ⟨i, hi, rfl, k5, kb⟩ := hrel
  have hi0 : (0 : Int) ≤ (i : Int) := by omega
  by_cases hin : i < 64
  · have hi1 : (i : Int) < 64 := by omega
    have hl := padS_len hk.out b i
    have hil : i < (padS key b i).length := by rw [hl]; exact hin
    have hc := k5.cell (u8s_get _ i hil)
    have hf := k5.frozen i
    obtain ⟨x, hx⟩ : ∃ x, ((padS key b i)[i]).toNat = x := ⟨_, rfl⟩
    have lx : x < 256 := by rw [← hx]; exact ((padS key b i)[i]).toNat_lt
    have hset : Hid ((u8s (padS key b i)).set i (.int .u8 ((x ^^^ y : Nat) : Int)) = u8s (padS key b (i + 1))) := Lib.hid (by
      rw [padS, List.getD_eq_getElem?_getD, List.getElem?_eq_getElem hil, Option.getD_some, ← hx, ← hy.out, ← UInt8.toNat_xor]
      simp [u8s, List.map_set])
    rw [hx] at hc
    have fx := xor_u8c lx ly
    obtain ⟨z, hz⟩ : ∃ z, x ^^^ y = z := ⟨_, rfl⟩
    rw [hz] at fx hset
    clear hx hz hil hl
    go_wp2_with fail
    replace k5 := k5.set i (.int .u8 (z : Int))
    rw [hset.out] at k5
    exact ⟨⟨i + 1, by omega, by go_num, k5, kb.setCell (by simp; omega) _⟩, by simp [intOf]; omega⟩
  · have dj : decide ((i : Int) < 64) = false := decide_eq_false (by omega)
    have hie : Hid (i = 64) := Lib.hid (by omega)
    rw [hie.out] at k5
    go_wp2_with fail
    go_ret
    exact ⟨g5, rfl, hw5, k5, kb⟩
/-- HMAC, as a number whose lowest byte comes first. -/
def macK (key : List UInt8) : List UInt8 := if 64 < key.length then nb 32 (shaa key) else key
def macN (key bs : List UInt8) : Nat := shaa (padL (macK key) 92 ++ nb 32 (shaa (padL (macK key) 54 ++ bs)))
theorem Sls.vals {w : World} {v : Value} {ls : List (List UInt8)} (h : Sls w v ls) : ∃ vs, Sl w v vs ∧ vs.length = ls.length ∧ (∀ u ∈ vs, u.oneCell' = true) ∧ ∀ (j : Nat) (a : Value) (b : List UInt8), vs[j]? = some a → ls[j]? = some b → Sl w a (u8s b) := by
  obtain ⟨vs, h1, h2, h3⟩ := h
  refine ⟨vs, h1, h2, fun u hu => ?_, h3⟩
  obtain ⟨j, hj, rfl⟩ := List.mem_iff_getElem.1 hu
  obtain ⟨x, c, e, -⟩ := h3 j _ (ls[j]'(by omega)) (List.getElem?_eq_getElem hj) (List.getElem?_eq_getElem (by omega))
  rw [e]
  rfl
end Go.Proofs.YtibdgkhkhmdihaaGreatDoor

