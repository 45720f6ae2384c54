/- The walk of ScalarShifts. -/
import Derived.Test.YtdggikbaemigbaaSl2
namespace Go.Proofs.Ytdggikbaemigbaa
open Go.RowKit

theorem own_new1 (w : World) (x : Value) (T : TypeId) : (w.alloc (.cells #[x] T)).ownsRow w.heap.size T 1 (.slice (some ⟨w.heap.size, 0, none⟩) 1 1) 1 [x] :=
  ⟨rfl, .inr ⟨w.heap.size, 1, #[x], rfl, Nat.le_refl _, heap_alloc_new w _, Nat.le_refl _, by decide, rfl, rfl⟩⟩

/-- The number of bytes. -/
def num256 (bs : List UInt8) : Nat := val 256 (bs.map (·.toNat))

theorem num_take {bs : List UInt8} (h : bs.length ≤ 64) : val 256 ((bs.take 64).map (·.toNat)) = num256 bs := by rw [List.take_of_length_le h]; rfl
theorem num_cons (v : UInt8) (bs : List UInt8) : num256 (v :: bs) = v.toNat + 256 * num256 bs := rfl
theorem num_noughts (bs : List UInt8) : num256 (bs ++ [0, 0]) = num256 bs := by
  unfold num256
  rw [List.map_append, val_append]
  simp [val]

theorem scReduce_r {bs : List UInt8} {r : Nat} (hr : Hid (val 256 ((bs.take 64).map (·.toNat)) % qN = r)) {v : Value} {w : World} (hs : Sl w v (u8s bs)) :
    Calls Try.prog 27 #[v] w fun e w' => e = .returned (.agg (byts r).toArray) ∧ Below w.heap.size w w' := by
  obtain ⟨d, cap, rfl, h⟩ := id hs
  rw [← hr.out]
  exact scReduce_any _ _ _ bs w hs
theorem scMul256_r {a r : Nat} (hr : Hid (a * 256 % qN = r)) (ha : a < 256 ^ 32) (w : World) :
    Calls Try.prog 36 #[.agg (byts a).toArray, .agg #[.int .u8 0, .int .u8 1, .int .u8 0, .int .u8 0, .int .u8 0, .int .u8 0, .int .u8 0, .int .u8 0, .int .u8 0, .int .u8 0, .int .u8 0, .int .u8 0, .int .u8 0, .int .u8 0, .int .u8 0, .int .u8 0, .int .u8 0, .int .u8 0, .int .u8 0, .int .u8 0, .int .u8 0, .int .u8 0, .int .u8 0, .int .u8 0, .int .u8 0, .int .u8 0, .int .u8 0, .int .u8 0, .int .u8 0, .int .u8 0, .int .u8 0, .int .u8 0]] w fun e w' => e = .returned (.agg (byts r).toArray) ∧ Below w.heap.size w w' := scMul_r (b := 256) hr ha (by decide) w

theorem byts_one8 (v : Nat) (hv : v < 256) : (byts v).toArray = #[.int .u8 (v : Int), .int .u8 0, .int .u8 0, .int .u8 0, .int .u8 0, .int .u8 0, .int .u8 0, .int .u8 0, .int .u8 0, .int .u8 0, .int .u8 0, .int .u8 0, .int .u8 0, .int .u8 0, .int .u8 0, .int .u8 0, .int .u8 0, .int .u8 0, .int .u8 0, .int .u8 0, .int .u8 0, .int .u8 0, .int .u8 0, .int .u8 0, .int .u8 0, .int .u8 0, .int .u8 0, .int .u8 0, .int .u8 0, .int .u8 0, .int .u8 0, .int .u8 0] := by
  have e : ∀ i, 0 < i → v / 256 ^ i % 256 = 0 := by
    intro i hi
    obtain ⟨j, rfl⟩ : ∃ j, i = j + 1 := ⟨i - 1, by omega⟩
    rw [Nat.pow_succ, Nat.mul_comm, ← Nat.div_div_eq_div_mul, Nat.div_eq_of_lt hv, Nat.zero_div]
  have e0 : v / 256 ^ 0 % 256 = v := by rw [Nat.pow_zero, Nat.div_one, Nat.mod_eq_of_lt hv]
  simp only [byts, digs, show List.range 32 = [0, 1, 2, 3, 4, 5, 6, 7, 8, 9, 10, 11, 12, 13, 14, 15, 16, 17, 18, 19, 20, 21, 22, 23, 24, 25, 26, 27, 28, 29, 30, 31] from by decide, List.map_cons, List.map_nil, e0]
  simp only [e 1 (by decide), e 2 (by decide), e 3 (by decide), e 4 (by decide), e 5 (by decide), e 6 (by decide), e 7 (by decide), e 8 (by decide), e 9 (by decide), e 10 (by decide), e 11 (by decide), e 12 (by decide), e 13 (by decide), e 14 (by decide), e 15 (by decide), e 16 (by decide), e 17 (by decide), e 18 (by decide), e 19 (by decide), e 20 (by decide), e 21 (by decide), e 22 (by decide), e 23 (by decide), e 24 (by decide), e 25 (by decide), e 26 (by decide), e 27 (by decide), e 28 (by decide), e 29 (by decide), e 30 (by decide), e 31 (by decide)]
  rfl

theorem scAddV_r {a v r : Nat} (hr : Hid ((a + v) % qN = r)) (ha : a < 256 ^ 32) (hv : v < 256) (w : World) :
    Calls Try.prog 29 #[.agg (byts a).toArray, .agg #[.int .u8 (v : Int), .int .u8 0, .int .u8 0, .int .u8 0, .int .u8 0, .int .u8 0, .int .u8 0, .int .u8 0, .int .u8 0, .int .u8 0, .int .u8 0, .int .u8 0, .int .u8 0, .int .u8 0, .int .u8 0, .int .u8 0, .int .u8 0, .int .u8 0, .int .u8 0, .int .u8 0, .int .u8 0, .int .u8 0, .int .u8 0, .int .u8 0, .int .u8 0, .int .u8 0, .int .u8 0, .int .u8 0, .int .u8 0, .int .u8 0, .int .u8 0, .int .u8 0]] w fun e w' => e = .returned (.agg (byts r).toArray) ∧ Below w.heap.size w w' := by
  rw [← byts_one8 v hv]
  exact scAdd_r hr ha (Nat.lt_trans hv (by decide)) w

set_option maxHeartbeats 2000000 in
set_option maxRecDepth 100000 in
theorem shifts_any (d : Option Addr) (cap : Nat) (bs : List UInt8) (v : Int) (w : World) (hs : Sl w (.slice d bs.length cap) (u8s bs)) (hv : (Lit.int .u8 v).wf = true) :
    Calls Try.prog 6 #[.slice d bs.length cap, .int .u8 v] w fun e w' => e = .returned (.bool true) ∧ Below w.heap.size w w' := by
  have hv := wf_u8 hv
  obtain ⟨v, rfl⟩ : ∃ n : Nat, v = (n : Int) := ⟨v.toNat, by omega⟩
  have hv8 : v < 256 := by omega
  have hlen := hs.len
  rw [u8s_len] at hlen
  obtain ⟨-, hlc, hcm⟩ := hlen
  unfold maxLen at hcm
  obtain ⟨r1, g1⟩ : ∃ r : Nat, val 256 ((bs.take 64).map (fun x : UInt8 => x.toNat)) % qN = r := ⟨_, rfl⟩
  obtain ⟨r2, g2⟩ : ∃ r, r1 * 256 % qN = r := ⟨_, rfl⟩
  obtain ⟨r3, g3⟩ : ∃ r, (r2 + v) % qN = r := ⟨_, rfl⟩
  have hs' := Lib.hid hs
  clear hs hv
  go_enter Try.func6, Try.ntmps6
  go_wp2_with fail
  refine (alive4_any _).mono ?_
  rintro e w1 ⟨rfl, hb1⟩
  have hs1 := Lib.hid (hs'.out.below hb1)
  clear hs'
  by_cases h60 : bs.length ≤ 60
  · have x1 : ((UInt8.ofNat v :: bs).length ≤ 64) := by simp; omega
    have x2 : ((bs ++ [0, 0]).length ≤ 64) := by simp; omega
    have g4 : val 256 (((UInt8.ofNat v :: bs).take 64).map (fun x : UInt8 => x.toNat)) % qN = r3 := by
      rw [num_take x1, num_cons, ← g3, ← g2, ← g1, num_take (by omega)]
      have : (UInt8.ofNat v).toNat = v := by simp; omega
      rw [this, Nat.add_mod, Nat.add_mod (num256 bs % qN * 256 % qN), Nat.mod_mod, Nat.mul_mod (num256 bs % qN), Nat.mod_mod, ← Nat.mul_mod, Nat.mul_comm 256, Nat.add_comm (v % qN)]
    have g5 : val 256 (((bs ++ [0, 0]).take 64).map (fun x : UInt8 => x.toNat)) % qN = r1 := by rw [num_take x2, num_noughts, ← num_take (by omega)]; exact g1
    have l1 : r1 < 256 ^ 32 := g1 ▸ mod_q_lt _
    have l2 : r2 < 256 ^ 32 := g2 ▸ mod_q_lt _
    have l3 : r3 < 256 ^ 32 := g3 ▸ mod_q_lt _
    have g1' := Lib.hid g1
    have g2' := Lib.hid g2
    have g3' := Lib.hid g3
    have g4' := Lib.hid g4
    have g5' := Lib.hid g5
    have q1 := eq_true r3 r3 rfl l3
    have q2 := eq_true r1 r1 rfl l1
    clear g1 g2 g3 g4 g5 x1 x2
    obtain ⟨i, hi, hz0, hz1, hz2⟩ := info_parts info_u8
    go_wp2_with (at_builtin; refine wpList_append_sl rfl _ _ 22 rfl w1.heap.size 5 Try.underlying22 hi hz0 hz1 hz2 rfl _ _ _ rfl (own_new1 _ _ _) _ (u8s bs) rfl (hs1.out.alloc _) (u8s_one _) ?c2 ?c3 (by simp) ?_)
    case c2 => rw [u8s_len]; unfold maxLen; omega
    case c3 => rw [u8s_len]; omega
    intro v1 w2 hown hg
    have kb2 := (below_alloc w1 (.cells #[.int .u8 (v : Int)] 5)).grown hg (by simp) (fun k hk => by simp [Value.ownBlock] at hk; omega)
    have hs2 := Sl.of_own hown
    have ev : Value.int .u8 (v : Int) :: u8s bs = u8s (UInt8.ofNat v :: bs) := by
      have : (UInt8.ofNat v).toNat = v := by simp; omega
      simp [u8s, this]
    rw [ev] at hs2
    have hs1 := Lib.hid (hs1.out.below kb2)
    have kb := bel hb1 kb2
    have hs2 := Lib.hid hs2
    clear hown hg ev hb1 kb2
    go_wp2_with fail
    refine (scReduce_r g4' hs2.out).mono ?_
    rintro e w3 ⟨rfl, hb3⟩
    have hs1 := Lib.hid (hs1.out.below hb3)
    have kb := bel kb hb3
    clear hs2 hb3
    go_wp2_with (first | (refine wpList_store_arr rfl _ _ _ rfl _ _ rfl rfl _ (by first | assumption | exact Arr.new _ _ _) (by first | (rw [lims_len]; kernel_rfl) | (rw [byts_len]; kernel_rfl) | (rw [us_len]; kernel_rfl) | kernel_rfl) (by first | (rw [lims_len, lims_len]) | (rw [byts_len, byts_len]) | (rw [lims_len]; rfl) | (rw [byts_len]; rfl) | (rw [us_len, us_len]; rfl) | rfl) (by first | exact lims_one _ _ | exact byts_one _ | exact us_one _ | (intro v hv; simp at hv; rcases hv with rfl | rfl | rfl | rfl <;> rfl)) ?_))
    refine calls_new (fun w4 k6 hb4 => ?_)
    have hs1 := Lib.hid (hs1.out.below hb4)
    have kb := bel kb hb4
    have hk6 := k6.lt
    clear hb4
    refine (scReduce_r g1' hs1.out).mono ?_
    rintro e w5 ⟨rfl, hb5⟩
    have hs1 := Lib.hid (hs1.out.below hb5)
    have k6 := k6.below hb5
    have kb := bel kb hb5
    clear hb5
    go_wp2_with fail
    refine (scMul256_r g2' l1 _).mono ?_
    rintro e w6 ⟨rfl, hb6⟩
    have hs1 := Lib.hid (hs1.out.below hb6)
    have k6 := k6.below hb6
    have kb := bel kb hb6
    clear hb6
    go_wp2_with fail
    refine (scAddV_r g3' l2 hv8 _).mono ?_
    rintro e w7 ⟨rfl, hb7⟩
    have hs1 := Lib.hid (hs1.out.below hb7)
    have k6 := k6.below hb7
    have kb := bel kb hb7
    have hk6 := k6.lt
    clear hb7
    go_upto_region 6 with (first | (refine wpList_store_arr rfl _ _ _ rfl _ _ rfl rfl _ (by first | assumption | exact Arr.new _ _ _) (by first | (rw [lims_len]; kernel_rfl) | (rw [byts_len]; kernel_rfl) | (rw [us_len]; kernel_rfl) | kernel_rfl) (by first | (rw [lims_len, lims_len]) | (rw [byts_len, byts_len]) | (rw [lims_len]; rfl) | (rw [byts_len]; rfl) | (rw [us_len, us_len]; rfl) | rfl) (by first | exact lims_one _ _ | exact byts_one _ | exact us_one _ | (intro v hv; simp at hv; rcases hv with rfl | rfl | rfl | rfl <;> rfl)) ?_))
    refine code_new (fun w8 k7 hb8 => ?_)
    have hs1 := Lib.hid (hs1.out.below hb8)
    have k6 := k6.below hb8
    have kb := bel kb hb8
    clear hb8
    go_wp2_with (first | (refine wpList_load_arr2 rfl _ _ rfl _ rfl (by kernel_rfl) _ (by assumption) (by first | (rw [lims_len]; kernel_rfl) | (rw [byts_len]; kernel_rfl) | (rw [us_len]; kernel_rfl) | kernel_rfl) ?_) | (at_builtin; (refine wpList_app rfl _ _ 22 rfl w8.heap.size 5 Try.underlying22 hi hz0 hz1 hz2 rfl _ 0 [] rfl (World.ownsRow_nil _ _ _ _) _ (u8s bs) rfl hs1.out (u8s_one _) ?c5 ?c6 (Nat.le_refl _) ?_)))
    case c5 => rw [u8s_len]; unfold maxLen; omega
    case c6 => rw [u8s_len]; omega
    intro v2 w9 hown hg
    have kb9 : Below w8.heap.size w8 w9 := (Below.refl _ _).grown hg (Nat.le_refl _) (fun k hk => by simp [Value.ownBlock] at hk)
    have hown := Lib.hid hown
    have hz9 := kb9.size
    have kb9 := Lib.hid kb9
    clear hg
    have hz00 : ∀ T, Sl (w9.alloc (.cells #[.int .u8 0, .int .u8 0] T)) (.slice (some ⟨w9.heap.size, 0, none⟩) 2 2) (u8s [0, 0]) := fun T => Sl.of_arr (Arr.new w9 #[.int .u8 0, .int .u8 0] T) (by decide)
    have hz00 := Lib.hid hz00
    go_wp2_with (at_builtin; (refine wpList_app rfl _ _ 22 rfl w8.heap.size 5 Try.underlying22 hi hz0 hz1 hz2 rfl _ _ _ rfl (own_below hown.out (below_alloc _ _)) _ (u8s [0, 0]) rfl (hz00.out _) (u8s_one _) ?c7 ?c8 ?c9 ?_))
    case c7 => rw [u8s_len, u8s_len]; unfold maxLen; simp; omega
    case c8 => rw [u8s_len, u8s_len]; simp; omega
    case c9 => simp; omega
    intro v3 w10 hown3 hg
    have kb10 := below_grown1 kb9.out hown.out hz9 hg
    have hs1 := Lib.hid (hs1.out.below kb10)
    have kb := bel kb kb10
    have hs3 := Sl.of_own hown3
    rw [← u8s_append] at hs3
    have hs3 := Lib.hid hs3
    clear hown hown3 hg kb9 kb10 hz9 hz00
    go_wp2_with fail
    refine (scReduce_r g5' hs3.out).mono ?_
    rintro e w11 ⟨rfl, hb11⟩
    have hs1 := Lib.hid (hs1.out.below hb11)
    have kb := bel kb hb11
    clear hb11 hs3
    go_wp2_with fail
    refine (scReduce_r g1' hs1.out).mono ?_
    rintro e w12 ⟨rfl, hb12⟩
    have kb := bel kb hb12
    clear hb12
    go_wp2_with fail
    go_ret
    exact ⟨rfl, kb⟩
  · have hb1' := Lib.hid hb1
    clear hb1
    go_wp2_with fail
    go_ret
    exact ⟨rfl, hb1'.out⟩

end Go.Proofs.Ytdggikbaemigbaa
