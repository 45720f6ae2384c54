/- PortcullisWrong: part 20 of its proof: lemmas and contracts, each with its conditions in its own statement; the last part holds the law itself. -/
import Derived.Test.YtibdgkhkhmdihaaGreatDoorJe19
import Derived.Deep.RegionHeld3
import Derived.Deep.CutRange
import Derived.Deep.CutBlock
import Derived.StillTailTactics

set_option maxHeartbeats 4000000
set_option maxRecDepth 100000
namespace Go.Proofs.YtibdgkhkhmdihaaGreatDoor
open Go.RowKit
def RCur (w : World) (g : Nat) (v : Value) (bs rest : List UInt8) (bad : Bool) : Prop :=
 ∃ k : Nat, k ≤ bs.length ∧ rest = (if bad = true then [] else bs.drop k) ∧ w.cell? ⟨g, 0, none⟩ = some v ∧ w.cell? ⟨g, 1, none⟩ = some (.int .i64 k) ∧ w.cell? ⟨g, 2, none⟩ = some (.bool bad) ∧
  w.frozen? ⟨g, 1, none⟩ = false ∧ w.frozen? ⟨g, 2, none⟩ = false ∧ Sl w v (u8s bs) ∧ (0 < bs.length → ∀ a n c, v = .slice (some a) n c → a.block < g)
theorem RCur.lt {w : World} {g : Nat} {v : Value} {bs rest : List UInt8} {bad : Bool} (h : RCur w g v bs rest bad) : g < w.heap.size := by
 obtain ⟨k, -, -, h1, _⟩ := h
 exact World.block_lt_of_cell? w _ h1
theorem RCur.below {w w' : World} {g : Nat} {v : Value} {bs rest : List UInt8} {bad : Bool} (h : RCur w g v bs rest bad) (hg : Below w.heap.size w w') : RCur w' g v bs rest bad := by
 have hlt := h.lt
 obtain ⟨k, h1, h2, h3, h4, h5, h6, h7, h8, h9⟩ := h
 exact ⟨k, h1, h2, by rw [hg.cell (p := ⟨g, 0, none⟩) hlt]; exact h3, by rw [hg.cell (p := ⟨g, 1, none⟩) hlt]; exact h4, by rw [hg.cell (p := ⟨g, 2, none⟩) hlt]; exact h5,
  by rw [hg.frozen (p := ⟨g, 1, none⟩) hlt]; exact h6, by rw [hg.frozen (p := ⟨g, 2, none⟩) hlt]; exact h7, h8.below hg, h9⟩
theorem Sl.kept {w w' : World} {g : Nat} {v : Value} {xs : List Value} (h : Sl w v xs) (hg : w.grownBy w' (some g)) (hv : 0 < xs.length → ∀ a n c, v = .slice (some a) n c → a.block < g) : Sl w' v xs := by
 obtain ⟨a, c, rfl, h2, h3, h4, h5⟩ := h
 refine ⟨a, c, rfl, h2, h3, h4, fun x hx j u hu => ?_⟩
 subst hx
 have hj := (List.getElem?_eq_some_iff.1 hu).1
 have := hv zOm x _ _ rfl
 refine hg.cell (h5 x rfl j u hu) ?_
 have e : (x.add j).block = x.block := by unfold Addr.add; split <;> rfl
 simp only [ne_eq, Option.some.injEq]
 rw [e]
 omega
theorem cell_set {w : World} {g o j : Nat} {u u0 : Value} (h : w.cell? ⟨g, o, none⟩ = some u0) : (w.setCell ⟨g, o, none⟩ u).cell? ⟨g, j, none⟩ = if j = o then some u else w.cell? ⟨g, j, none⟩ := by
 by_cases hj : j = o
 · subst hj; rw [if_pos rfl, World.cell?_setCell_same _ _ _ h]
 · rw [if_neg hj, World.cell?_setCell_other _ _ _ _ (fun e => hj (by cases e; rfl))]
theorem bits_and_255 (n : Int) : bits .and .i64 n 255 = n % 256 := by
 unfold bits
 simp only [BitVec.toNat_and]
 have e : (BitVec.ofInt IntKind.i64.bits 255).toNat = 255 := by decide
 rw [e]
 have e2 : (BitVec.ofInt IntKind.i64.bits n).toNat = (n % 18446744073709551616).toNat := by simp [IntKind.bits]
 rw [e2, show (255 : Nat) = 2 ^ 8 - 1 from rfl, Nat.and_two_pow_sub_one_eq_mod _ 8]
 have h0 : 0 ≤ n % 18446744073709551616 := by omega
 rw [IntWalk.i64_in _ zOm]
 omega
theorem be8_low (N : Int) (k : Nat) (hk : k < 8) : bits .and .i64 (N / 2 ^ (8 * k)) 255 % 256 = (((be8 N).getD (7 - k) 0).toNat : Int) := by
 rw [bits_and_255]
 have hl : 7 - k < (be8 N).length := by rw [be8_len]; omega
 have e : (be8 N).getD (7 - k) 0 = (be8 N)[7 - k] := by simp [List.getD, List.getElem?_eq_getElem hl]
 rw [e]
 simp only [be8, List.getElem_map, List.getElem_range]
 rw [show 7 - (7 - k) = k by omega]
 have h0 : 0 ≤ N % 18446744073709551616 := by omega
 have e3 : (UInt8.ofNat ((N % 18446744073709551616).toNat / 2 ^ (8 * k) % 256)).toNat = (N % 18446744073709551616).toNat / 2 ^ (8 * k) % 256 := by simp
 rw [e3]
 have hkk : k = 0 ∨ k = 1 ∨ k = 2 ∨ k = 3 ∨ k = 4 ∨ k = 5 ∨ k = 6 ∨ k = 7 := by omega
 rcases hkk with rfl | rfl | rfl | rfl | rfl | rfl | rfl | rfl <;> simp only [Nat.reduceMul, Nat.reducePow, Int.reducePow, Nat.mul_zero, Nat.pow_zero, Int.pow_zero] <;> omega
def XAt (w : World) (g : Nat) (N : Int) (k : Nat) : Prop := ∀ m, m < 8 → w.cell? ⟨g, m, none⟩ = some (.int .u8 (if 8 - k ≤ m then (((be8 N).getD m 0).toNat : Int) else 0)) ∧ w.frozen? ⟨g, m, none⟩ = false
theorem XAt.step {w : World} {g : Nat} {N : Int} {k : Nat} (h : XAt w g N k) (hk : k < 8) :
 XAt (w.setCell ⟨g, 7 - k, none⟩ (.int .u8 (bits .and .i64 (N / 2 ^ (8 * k)) 255 % 256))) g N (k + 1) := by
 intro m hm
 obtain ⟨h1, h2⟩ := h (7 - k) zOm
 obtain ⟨h3, h4⟩ := h m hm
 refine ⟨?_, (World.frozen?_setCell _ _ _ _).trans h4⟩
 rw [cell_set h1]
 split
 · rename_i e
   subst e
   rw [if_pos zOm, be8_low N k hk]
 · rename_i e
   rw [h3]
   by_cases h5 : 8 - k ≤ m
   · rw [if_pos h5, if_pos zOm]
   · rw [if_neg h5, if_neg zOm]
theorem XAt.done {w : World} {g : Nat} {N : Int} (h : XAt w g N 8) : Sl w (.slice (some ⟨g, 0, none⟩) 8 8) (u8s (be8 N)) := by
 refine ⟨some ⟨g, 0, none⟩, 8, by rw [u8s_len, be8_len], by rw [u8s_len, be8_len]; decide, by decide, fun h => (by cases h), fun x hx => ?_⟩
 cases hx
 intro j u hu
 have hj : j < 8 := by
  have := (List.getElem?_eq_some_iff.1 hu).1
  rwa [u8s_len, be8_len] at this
 have hl : j < (be8 N).length := by rw [be8_len]; exact hj
 have h1 := (h j hj).1
 rw [if_pos zOm] at h1
 rw [Addr.add_lit, Nat.zero_add, h1]
 rw [u8s_get _ _ hl] at hu
 simpa [List.getD, List.getElem?_eq_getElem hl] using hu
structure Stt where
 floor : Int
 rev : List Int
 m0 : List UInt8
 d0 : Bool
 t0 : Int
 m1 : List UInt8
 d1 : Bool
 t1 : Int
 act : Int
structure Sv where
 rv : Value
 m0 : Value
 m1 : Value
def ints (l : List Int) : List Value := l.map (.int .i64)
theorem ints_len (l : List Int) : (ints l).length = l.length := by simp [ints]
theorem ints_get {l : List Int} {j : Nat} (h : j < l.length) : (ints l)[j]? = some (.int .i64 l[j]) := by simp [ints, h]
def Stt.cs (S : Stt) (v : Sv) : List Value := [.int .i64 S.floor, v.rv, v.m0, .bool S.d0, .int .i64 S.t0, v.m1, .bool S.d1, .int .i64 S.t1, .int .i64 S.act]
structure StOk (w : World) (S : Stt) (v : Sv) : Prop where
 rv : Sl w v.rv (ints S.rev)
 m0 : Sl w v.m0 (u8s S.m0)
 m1 : Sl w v.m1 (u8s S.m1)
theorem StOk.below {w w' : World} {S : Stt} {v : Sv} (h : StOk w S v) (hb : Below w.heap.size w w') : StOk w' S v := ⟨h.rv.below hb, h.m0.below hb, h.m1.below hb⟩
structure StOwn (B : Nat) (w : World) (S : Stt) (v : Sv) : Prop where
 rv : w.ownsRow B 3 1 v.rv S.rev.length (ints S.rev)
 m0 : w.ownsRow B 5 1 v.m0 S.m0.length (u8s S.m0)
 m1 : w.ownsRow B 5 1 v.m1 S.m1.length (u8s S.m1)
theorem StOwn.ok {B : Nat} {w : World} {S : Stt} {v : Sv} (h : StOwn B w S v) : StOk w S v := ⟨Sl.of_own h.rv, Sl.of_own h.m0, Sl.of_own h.m1⟩
theorem StOwn.below {B : Nat} {w w' : World} {S : Stt} {v : Sv} (h : StOwn B w S v) (hb : Below w.heap.size w w') : StOwn B w' S v := ⟨own_below h.rv hb, own_below h.m0 hb, own_below h.m1 hb⟩
theorem StOwn.mono {B B' : Nat} {w : World} {S : Stt} {v : Sv} (h : StOwn B w S v) (hb : B' ≤ B) : StOwn B' w S v := ⟨own_mono h.rv hb, own_mono h.m0 hb, own_mono h.m1 hb⟩
theorem StOk.one {w : World} {S : Stt} {v : Sv} (h : StOk w S v) : ∀ u ∈ S.cs v, u.oneCell' = true := by
 obtain ⟨⟨_, _, h1, -⟩, ⟨_, _, h2, -⟩, ⟨_, _, h3, -⟩⟩ := h
 intro u hu
 simp only [Stt.cs, List.mem_cons, List.not_mem_nil, or_false] at hu
 rcases hu with rfl | rfl | rfl | rfl | rfl | rfl | rfl | rfl | rfl <;> first | rfl | (rw [h1]; rfl) | (rw [h2]; rfl) | (rw [h3]; rfl)
def numB (n : Int) : Bool := decide (0 ≤ n) && decide (n ≤ 2147483647)
def slotB (m : List UInt8) (d : Bool) (t : Int) : Bool := if m.length = 0 then (!d && decide (t = 0)) else (decide ((m.length : Int) = 300) && decide (0 ≤ t) && decide (t ≤ 3))
def revP (l : List Int) (j : Nat) : Prop := ∀ i (h : i < l.length), i < j → numB l[i] = true ∧ ∀ h0 : 0 < i, l[i - 1] < l[i]
structure mayP (S : Stt) : Prop where
 floor : numB S.floor = true
 len : S.rev.length ≤ 32
 lo : -1 ≤ S.act
 hi : S.act ≤ 1
 rev : revP S.rev S.rev.length
 a0 : S.act = 0 → S.m0.length ≠ 0 ∧ S.d0 = true
 a1 : S.act = 1 → S.m1.length ≠ 0 ∧ S.d1 = true
 s0 : slotB S.m0 S.d0 S.t0 = true
 s1 : slotB S.m1 S.d1 S.t1 = true
theorem ret_bool {a b : Bool} (h : a = true ↔ b = true) : Ending.returned (.bool a) = .returned (.bool b) := by rw [Bool.eq_iff_iff.2 h]
theorem number_any (n : Int) (w : World) : Calls Tryz.prog 304 #[.int .i64 n] w fun e w' => e = .returned (.bool (numB n)) ∧ w' = w := by
 unfold numB
 by_cases h : 0 ≤ n
 · go_enter Tryz.func304, Tryz.ntmps304
   go_wp2_with fail
   go_ret
   exact ⟨by simp; omega, rfl⟩
 · go_enter Tryz.func304, Tryz.ntmps304
   go_wp2_with fail
   go_ret
   exact ⟨by simp; omega, rfl⟩
theorem slot_any (v : Value) (m : List UInt8) (d : Bool) (t : Int) (w : World) (hm : Sl w v (u8s m)) :
 Calls Tryz.prog 310 #[.agg #[v, .bool d, .int .i64 t]] w fun e w' => e = .returned (.bool (slotB m d t)) ∧ Below w.heap.size w w' := by
 obtain ⟨x, cap, rfl, h2, h3, -, -⟩ := hm
 rw [u8s_len] at *
 unfold maxLen at h3
 by_cases h : m.length = 0
 · have hr : slotB m d t = (!d && decide (t = 0)) := by unfold slotB; rw [if_pos h]
   rw [hr]
   have iw : ((m.length : Nat) : Int) = 0 := by omega
   rw [h]
   go_enter Tryz.func310, Tryz.ntmps310
   go_upto_region 1 with fail
   refine wp_new1 (fun W hsz k1 kb => ?_)
   have e1 := k1.cell (j := 0) rfl
   have e2 := k1.cell (j := 1) rfl
   have e3 := k1.cell (j := 2) rfl
   clear hsz
   cases d with
   | true =>
    go_wp2_with fail
    go_ret
    exact ⟨rfl, kb⟩
   | false =>
    go_wp2_with fail
    go_ret
    exact ⟨ret_bool (by simp), kb⟩
 · have hr : slotB m d t = (decide ((m.length : Int) = 300) && decide (0 ≤ t) && decide (t ≤ 3)) := by unfold slotB; rw [if_neg h]
   rw [hr]
   have iw : ¬ ((m.length : Nat) : Int) = 0 := by omega
   generalize m.length = n at *
   clear hr h
   go_enter Tryz.func310, Tryz.ntmps310
   go_upto_region 1 with fail
   refine wp_new1 (fun W hsz k1 kb => ?_)
   have e1 := k1.cell (j := 0) rfl
   have e2 := k1.cell (j := 1) rfl
   have e3 := k1.cell (j := 2) rfl
   clear hsz
   by_cases c1 : (n : Int) = 300
   · by_cases c2 : 0 ≤ t
     · go_wp2_with fail
       go_ret
       exact ⟨ret_bool (by simp; try omega), kb⟩
     · go_wp2_with fail
       go_ret
       exact ⟨ret_bool (by simp; try omega), kb⟩
   · go_wp2_with fail
     go_ret
     exact ⟨ret_bool (by simp; try omega), kb⟩
theorem cs_r0 {w : World} {g : Nat} {S : Stt} {v : Sv} (k : Arr w g (S.cs v)) : w.rangeAt g 2 [v.m0, .bool S.d0, .int .i64 S.t0] :=
 k.range (fun j hj => by rcases j with _ | _ | _ | j <;> first | rfl | (simp only [List.length_cons, List.length_nil] at hj; omega))
theorem cs_r1 {w : World} {g : Nat} {S : Stt} {v : Sv} (k : Arr w g (S.cs v)) : w.rangeAt g 5 [v.m1, .bool S.d1, .int .i64 S.t1] :=
 k.range (fun j hj => by rcases j with _ | _ | _ | j <;> first | rfl | (simp only [List.length_cons, List.length_nil] at hj; omega))
theorem revP_step {l : List Int} {j : Nat} (h : revP l j) (hj : j < l.length) (h1 : numB l[j] = true) (h2 : ∀ h0 : 0 < j, l[j - 1] < l[j]) : revP l (j + 1) := by
 intro i hi hij
 by_cases e : i = j
 · subst e; exact ⟨h1, h2⟩
 · exact h i hi zOm
theorem i64_in' {n m : Int} (e : n = m) (h : -9223372036854775808 ≤ m ∧ m ≤ 9223372036854775807) : IntKind.i64.wrap n = m := by rw [e]; exact i64_in h
theorem slice_of {w : World} {v : Value} {xs : List Value} (h : Sl w v xs) : ∃ a cap, v = .slice a xs.length cap ∧ xs.length ≤ cap ∧ cap ≤ 9223372036854775807 := by
 obtain ⟨a, cap, h1, h2, h3, -⟩ := h
 exact ⟨a, cap, h1, h2, by unfold maxLen at h3; omega⟩
def MayPost (S : Stt) (w : World) (e : Ending) (w' : World) : Prop := ∃ r, e = .returned (.bool r) ∧ (r = true ↔ mayP S) ∧ Below w.heap.size w w'
theorem may_any (S : Stt) (v : Sv) (w : World) (h : StOk w S v) :
 Calls Tryz.prog 280 #[.agg (S.cs v).toArray] w (MayPost S w) := by
 obtain ⟨f, l, m0, d0, t0, m1, d1, t1, a⟩ := S
 obtain ⟨vr, v0, v1⟩ := v
 obtain ⟨hr, h0, h1⟩ := h
 simp only at hr h0 h1
 obtain ⟨ar, cr, rfl, hc1, hc2⟩ := slice_of hr
 obtain ⟨a0, c0, rfl, hc3, hc4⟩ := slice_of h0
 obtain ⟨a1, c1, rfl, hc5, hc6⟩ := slice_of h1
 rw [ints_len] at hr hc1
 rw [u8s_len] at h0 hc3 h1 hc5
 simp only [ints_len, u8s_len]
 have hno : ∀ (w' : World), ¬ mayP ⟨f, l, m0, d0, t0, m1, d1, t1, a⟩ → Below w.heap.size w w' → MayPost ⟨f, l, m0, d0, t0, m1, d1, t1, a⟩ w (.returned (.bool false)) w' := fun w' h1 h2 => ⟨false, rfl, by simp [h1], h2⟩
 have hmk := fun b c d e u g i j k => (mayP.mk (S := ⟨f, l, m0, d0, t0, m1, d1, t1, a⟩) b c d e u g i j k)
 simp only at hmk
 replace hr := zH hr
 replace h0 := zH h0
 replace h1 := zH h1
 replace hno := zH hno
 replace hmk := zH hmk
 go_enter Tryz.func280, Tryz.ntmps280
 go_upto_region 1 with fail
 refine wp_new1 (fun W hsz k1 kb => ?_)
 have k1 : Arr W w.heap.size (Stt.cs ⟨f, l, m0, d0, t0, m1, d1, t1, a⟩ ⟨.slice ar l.length cr, .slice a0 m0.length c0, .slice a1 m1.length c1⟩) := k1
 have x0 := k1.cell (j := 0) rfl
 have x1 := k1.cell (j := 1) rfl
 have x2 := k1.cell (j := 2) rfl
 have x3 := k1.cell (j := 3) rfl
 have x5 := k1.cell (j := 5) rfl
 have x6 := k1.cell (j := 6) rfl
 have x8 := k1.cell (j := 8) rfl
 simp only at x0 x1 x2 x3 x5 x6 x8
 have r0 := cs_r0 k1
 have r1 := cs_r1 k1
 simp only at r0 r1
 clear hsz
 replace k1 := zH k1
 replace r0 := zH r0
 replace r1 := zH r1
 go_wp2_with fail
 refine (number_any _ _).mono ?_
 rintro e w' ⟨rfl, hw⟩
 rw [hw]
 clear hw w'
 by_cases q1 : numB f = true
 rotate_left
 · rw [show numB f = false by simpa using q1]
   go_wp2_with fail
   go_ret
   exact hno.out _ (fun h => q1 h.floor) kb
 rw [q1]
 have q1 := zH q1
 by_cases q2 : 32 < l.length
 · have iw : (32 : Int) < (l.length : Int) := by omega
   go_wp2_with fail
   go_ret
   exact hno.out _ (fun h => by have := h.len; simp only at this; omega) kb
 by_cases q3 : a < -1
 · have iw : ¬ (32 : Int) < (l.length : Int) := by omega
   go_wp2_with fail
   go_ret
   exact hno.out _ (fun h => by have := h.lo; simp only at this; omega) kb
 by_cases q4 : 2 ≤ a
 · have iw : ¬ (32 : Int) < (l.length : Int) := by omega
   go_wp2_with fail
   go_ret
   exact hno.out _ (fun h => by have := h.hi; simp only at this; omega) kb
 have iw : ¬ (32 : Int) < (l.length : Int) := by omega
 have hlen : l.length ≤ 32 := by omega
 have iw2 : ¬ a < -1 := q3
 have iw3 : ¬ 2 ≤ a := q4
 go_wp2_with fail
 go_loopw [28] (fun jv wr => wr = W ∧ ∃ j : Nat, j ≤ l.length ∧ jv = .int .i64 j ∧ revP l j) (fun jv _ => l.length - (intOf jv).toNat)
 case atStart => exact ⟨rfl, 0, by omega, rfl, fun i _ h => absurd h zOm⟩
 case round =>
  obtain ⟨hwr, j, hj, rfl, hrv⟩ := hrel
  rw [hwr]
  clear hwr wr
  have hrv := zH hrv
  by_cases hlt : j < l.length
  · obtain ⟨b, o, rfl, -, -, -, hcc⟩ := hr.out.at (by rw [ints_len]; omega)
    have hc0 := hcc j _ (ints_get hlt)
    have hw0 : W.cell? ⟨b, o + j, none⟩ = some (.int .i64 l[j]) := by rw [kb.cell (World.block_lt_of_cell? w _ hc0)]; exact hc0
    have hstep := zH (revP_step hrv.out hlt)
    have hbad : ¬ (numB l[j] = true ∧ ∀ h0 : 0 < j, l[j - 1] < l[j]) → ¬ mayP ⟨f, l, m0, d0, t0, m1, d1, t1, a⟩ := fun h1 h2 => h1 (h2.rev j hlt hlt)
    replace hbad := zH hbad
    cases j with
    | zero =>
     obtain ⟨z, hz⟩ : ∃ z, l[0] = z := ⟨_, rfl⟩
     simp only [hz, Nat.add_zero] at hw0 hstep hbad
     clear hc0 hcc
     replace hz := zH hz
     go_wp2_with fail
     refine (number_any _ _).mono ?_
     rintro e w' ⟨rfl, hw⟩
     rw [hw]
     clear hw w'
     by_cases q5 : numB z = true
     · rw [q5]
       go_wp2_with fail
       refine ⟨⟨by trivial, 1, by omega, rfl, ?_⟩, by simp [intOf]; omega⟩
       exact hstep.out q5 (fun h => absurd h zOm)
     · rw [show numB z = false by simpa using q5]
       go_wp2_with fail
       go_ret
       exact hno.out _ (hbad.out (fun h => q5 h.1)) kb
    | succ i =>
     have hc1' := hcc i _ (ints_get (show i < l.length by omega))
     have hw1 : W.cell? ⟨b, o + i, none⟩ = some (.int .i64 l[i]) := by rw [kb.cell (World.block_lt_of_cell? w _ hc1')]; exact hc1'
     obtain ⟨z, hz⟩ : ∃ z, l[i + 1] = z := ⟨_, rfl⟩
     obtain ⟨y, hy⟩ : ∃ y, l[i] = y := ⟨_, rfl⟩
     simp only [Nat.add_sub_cancel, hz, hy] at hw0 hw1 hstep hbad
     clear hc0 hcc hc1'
     replace hz := zH hz
     replace hy := zH hy
     have iwj : IntKind.i64.wrap ((i : Int) + 1 - 1) = (i : Int) := i64_in' zOm zOm
     go_wp2_with fail
     refine (number_any _ _).mono ?_
     rintro e w' ⟨rfl, hw⟩
     rw [hw]
     clear hw w'
     by_cases q5 : numB z = true
     · rw [q5]
       by_cases q6 : y < z
       · have q7 : ¬ z ≤ y := by omega
         go_wp2_with fail
         refine ⟨⟨by trivial, i + 1 + 1, by omega, by go_num, ?_⟩, by simp [intOf]; omega⟩
         exact hstep.out q5 (fun _ => q6)
       · have q7 : z ≤ y := by omega
         go_wp2_with fail
         go_ret
         exact hno.out _ (hbad.out (fun h => by have := h.2 zOm; omega)) kb
     · rw [show numB z = false by simpa using q5]
       go_wp2_with fail
       go_ret
       exact hno.out _ (hbad.out (fun h => q5 h.1)) kb
  · obtain rfl : j = l.length := by omega
    go_upto_region 9 with fail
    clear hlt hj
    have ha : a = -1 ∨ a = 0 ∨ a = 1 := by omega
    clear q2 q3 q4 iw iw2 iw3
    rcases ha with rfl | rfl | rfl
    · have hmk2 := zH (fun b0 b1 => hmk.out q1.out hlen zDc zDc hrv.out (fun h => absurd h (by simp)) (fun h => absurd h (by simp)) b0 b1)
      clear hmk
      go_upto_region 11 with fail
      go_wp2_with (first | (refine wpList_load_mid2 rfl _ _ rfl _ _ rfl zKr _ r0.out zLn ?_) | fail)
      refine (slot_any _ _ _ _ _ (h0.out.below kb)).mono ?_
      rintro e w3 ⟨rfl, hb3⟩
      have r1 := zH (cs_r1 (k1.out.below hb3))
      have kb := bel kb hb3
      clear hb3 x0 x1 x2 x3 x5 x6 x8 r0 k1
      cases s0 : slotB m0 d0 t0 with
      | false =>
       replace hmk2 := zH hmk2
       go_wp2_with fail
       go_ret
       exact hno.out _ (fun h => by have := h.s0; simp only [s0] at this; cases this) kb
      | true =>
       have s0 := zH s0
       go_wp2_with (first | (refine wpList_load_mid2 rfl _ _ rfl _ _ rfl zKr _ r1.out zLn ?_) | fail)
       refine (slot_any _ _ _ _ _ (h1.out.below kb)).mono ?_
       rintro e w4 ⟨rfl, hb4⟩
       have kb := bel kb hb4
       clear hb4 r1
       cases s1 : slotB m1 d1 t1 with
       | false =>
        go_wp2_with fail
        go_ret
        exact hno.out _ (fun h => by have := h.s1; simp only [s1] at this; cases this) kb
       | true =>
        have s1 := zH s1
        go_wp2_with fail
        go_ret
        exact ⟨_, rfl, by simp only [true_iff]; exact hmk2.out s0.out s1.out, kb⟩
    · by_cases q2 : m0.length = 0
      · have iw : ((m0.length : Nat) : Int) = 0 := by omega
        go_wp2_with fail
        go_ret
        exact hno.out _ (fun h => (h.a0 rfl).1 q2) kb
      have iw : ¬ ((m0.length : Nat) : Int) = 0 := by omega
      cases d0 with
      | false =>
       go_wp2_with fail
       go_ret
       exact hno.out _ (fun h => by have := (h.a0 rfl).2; simp at this) kb
      | true =>
       have hmk2 := zH (fun b0 b1 => hmk.out q1.out hlen zDc zDc hrv.out (fun _ => ⟨q2, rfl⟩) (fun h => absurd h zDc) b0 b1)
       clear hmk
       go_upto_region 11 with fail
       go_wp2_with (first | (refine wpList_load_mid2 rfl _ _ rfl _ _ rfl zKr _ r0.out zLn ?_) | fail)
       refine (slot_any _ _ _ _ _ (h0.out.below kb)).mono ?_
       rintro e w3 ⟨rfl, hb3⟩
       have r1 := zH (cs_r1 (k1.out.below hb3))
       have kb := bel kb hb3
       clear hb3 x0 x1 x2 x3 x5 x6 x8 r0 k1
       cases s0 : slotB m0 true t0 with
       | false =>
        replace hmk2 := zH hmk2
        go_wp2_with fail
        go_ret
        exact hno.out _ (fun h => by have := h.s0; simp only [s0] at this; cases this) kb
       | true =>
        have s0 := zH s0
        go_wp2_with (first | (refine wpList_load_mid2 rfl _ _ rfl _ _ rfl zKr _ r1.out zLn ?_) | fail)
        refine (slot_any _ _ _ _ _ (h1.out.below kb)).mono ?_
        rintro e w4 ⟨rfl, hb4⟩
        have kb := bel kb hb4
        clear hb4 r1
        cases s1 : slotB m1 d1 t1 with
        | false =>
         go_wp2_with fail
         go_ret
         exact hno.out _ (fun h => by have := h.s1; simp only [s1] at this; cases this) kb
        | true =>
         have s1 := zH s1
         go_wp2_with fail
         go_ret
         exact ⟨_, rfl, by simp only [true_iff]; exact hmk2.out s0.out s1.out, kb⟩
    · by_cases q2 : m1.length = 0
      · have iw : ((m1.length : Nat) : Int) = 0 := by omega
        go_wp2_with fail
        go_ret
        exact hno.out _ (fun h => (h.a1 rfl).1 q2) kb
      have iw : ¬ ((m1.length : Nat) : Int) = 0 := by omega
      cases d1 with
      | false =>
       go_wp2_with fail
       go_ret
       exact hno.out _ (fun h => by have := (h.a1 rfl).2; simp at this) kb
      | true =>
       have hmk2 := zH (fun b0 b1 => hmk.out q1.out hlen zDc zDc hrv.out (fun h => absurd h zDc) (fun _ => ⟨q2, rfl⟩) b0 b1)
       clear hmk
       go_upto_region 11 with fail
       go_wp2_with (first | (refine wpList_load_mid2 rfl _ _ rfl _ _ rfl zKr _ r0.out zLn ?_) | fail)
       refine (slot_any _ _ _ _ _ (h0.out.below kb)).mono ?_
       rintro e w3 ⟨rfl, hb3⟩
       have r1 := zH (cs_r1 (k1.out.below hb3))
       have kb := bel kb hb3
       clear hb3 x0 x1 x2 x3 x5 x6 x8 r0 k1
       cases s0 : slotB m0 d0 t0 with
       | false =>
        replace hmk2 := zH hmk2
        go_wp2_with fail
        go_ret
        exact hno.out _ (fun h => by have := h.s0; simp only [s0] at this; cases this) kb
       | true =>
        have s0 := zH s0
        go_wp2_with (first | (refine wpList_load_mid2 rfl _ _ rfl _ _ rfl zKr _ r1.out zLn ?_) | fail)
        refine (slot_any _ _ _ _ _ (h1.out.below kb)).mono ?_
        rintro e w4 ⟨rfl, hb4⟩
        have kb := bel kb hb4
        clear hb4 r1
        cases s1 : slotB m1 true t1 with
        | false =>
         go_wp2_with fail
         go_ret
         exact hno.out _ (fun h => by have := h.s1; simp only [s1] at this; cases this) kb
        | true =>
         have s1 := zH s1
         go_wp2_with fail
         go_ret
         exact ⟨_, rfl, by simp only [true_iff]; exact hmk2.out s0.out s1.out, kb⟩
def newS : Stt := ⟨0, [], [], false, 0, [], false, 0, -1⟩
def nilSv : Sv := ⟨.slice none 0 0, .slice none 0 0, .slice none 0 0⟩
def tgt (a : Int) : Int := if a = 0 then 1 else 0
theorem target_any (S : Stt) (v : Sv) (w : World) : Calls Tryz.prog 298 #[.agg (S.cs v).toArray] w fun e w' => e = .returned (.int .i64 (tgt S.act)) ∧ Below w.heap.size w w' := by
 obtain ⟨f, l, m0, d0, t0, m1, d1, t1, a⟩ := S
 simp only [Stt.cs, tgt]
 by_cases h : a = 0
 · rw [if_pos h]
   go_enter Tryz.func298, Tryz.ntmps298
   go_wp2_with fail
   go_ret
   exact ⟨rfl, below_alloc _ _⟩
 · rw [if_neg h]
   go_enter Tryz.func298, Tryz.ntmps298
   go_wp2_with fail
   go_ret
   exact ⟨rfl, below_alloc _ _⟩
noncomputable def mayB (S : Stt) : Bool := @decide (mayP S) (Classical.propDecidable _)
theorem mayB_iff (S : Stt) : mayB S = true ↔ mayP S := by unfold mayB; simp
theorem mayPost_b {S : Stt} {w : World} {e : Ending} {w' : World} (h : MayPost S w e w') : e = .returned (.bool (mayB S)) ∧ Below w.heap.size w w' := by
 obtain ⟨r, rfl, h1, h2⟩ := h
 refine ⟨?_, h2⟩
 rw [← mayB_iff] at h1
 rw [Bool.eq_iff_iff.2 h1]
theorem mayb_any (S : Stt) (v : Sv) (w : World) (h : StOk w S v) : Calls Tryz.prog 280 #[.agg (S.cs v).toArray] w fun e w' => e = .returned (.bool (mayB S)) ∧ Below w.heap.size w w' :=
 (may_any S v w h).mono fun _ _ h => mayPost_b h
structure StOff (g : Nat) (v : Sv) : Prop where
 rv : v.rv.ownBlock ≠ some g
 m0 : v.m0.ownBlock ≠ some g
 m1 : v.m1.ownBlock ≠ some g
theorem StOwn.off {B g : Nat} {w : World} {S : Stt} {v : Sv} (h : StOwn B w S v) (hg : w.heap.size ≤ g) : StOff g v :=
 ⟨fun e => by have := (h.rv.lt g e).2; omega, fun e => by have := (h.m0.lt g e).2; omega, fun e => by have := (h.m1.lt g e).2; omega⟩
theorem StOwn.kept {B g : Nat} {w w' : World} {S : Stt} {v : Sv} (h : StOwn B w S v) (hg : w.grownBy w' (some g)) (ho : StOff g v) : StOwn B w' S v :=
 ⟨own_keptN h.rv hg ho.rv, own_keptN h.m0 hg ho.m0, own_keptN h.m1 hg ho.m1⟩
theorem StOwn.same {B : Nat} {w : World} {S S' : Stt} {v : Sv} (h : StOwn B w S v) (h1 : S'.rev = S.rev) (h2 : S'.m0 = S.m0) (h3 : S'.m1 = S.m1) : StOwn B w S' v := by
 obtain ⟨r, a, b⟩ := h
 exact ⟨by rw [h1]; exact r, by rw [h2]; exact a, by rw [h3]; exact b⟩
theorem StOwn.grown {B g : Nat} {w w' : World} {S : Stt} {v : Sv} (h : StOwn B w S v) (hg : w.grownBy w' (some g)) (hb : g < B) : StOwn B w' S v := ⟨own_grown h.rv hg hb, own_grown h.m0 hg hb, own_grown h.m1 hg hb⟩
noncomputable def pickS (S : Stt) (b0 b1 : Bool) : Int × Bool :=
 if mayB S = true then
  (if S.act = 0 then (if (S.d1 && decide (S.t1 < 3) && b1) = true then (1, true) else if b0 = true then (0, false) else (-1, false))
  else if S.act = 1 then (if (S.d0 && decide (S.t0 < 3) && b0) = true then (0, true) else if b1 = true then (1, false) else (-1, false))
  else (if (S.d0 && decide (S.t0 < 3) && b0) = true then (0, true) else (-1, false)))
 else (-1, false)
theorem tup2 {a a' : Int} {b b' : Bool} {p : Int × Bool} (h : p = (a, b)) (h1 : a' = a) (h2 : b' = b) : Ending.returned (.tuple #[.int .i64 a', .bool b']) = .returned (.tuple #[.int .i64 p.1, .bool p.2]) := by rw [h, h1, h2]
theorem pick_any (S : Stt) (v : Sv) (b0 b1 : Bool) (w : World) (h : StOk w S v) : Calls Tryz.prog 260 #[.agg (S.cs v).toArray, .agg #[.bool b0, .bool b1]] w fun e w' => e = .returned (.tuple #[.int .i64 (pickS S b0 b1).1, .bool (pickS S b0 b1).2]) ∧ Below w.heap.size w w' := by
 have ho := zH h
 clear h
 obtain ⟨pp, hpp⟩ : ∃ p, pickS S b0 b1 = p := ⟨_, rfl⟩
 rw [hpp]
 replace hpp := zH hpp
 go_enter Tryz.func260, Tryz.ntmps260
 go_upto_region 1 with fail
 refine wp_new2 (fun W hsz k1 k2 kb => ?_)
 have k1 : Arr W w.heap.size (S.cs v) := k1
 have k2 : Arr W (w.heap.size + 1) [.bool b0, .bool b1] := k2
 clear hsz
 replace k2 := zH k2
 go_wp2_with (first | (refine zLd ?_) | fail)
 refine (mayb_any S v _ (ho.out.below kb)).mono ?_
 rintro e w1 ⟨he, hb⟩
 have k1 := k1.below hb
 have k2 := k2.out.below hb
 have kb := bel kb hb
 clear hb
 cases hm : mayB S with
 | false =>
  have hp : Hid (pp = (-1, false)) := zH (by rw [← hpp.out]; unfold pickS; rw [hm]; rfl)
  rw [hm] at he
  subst he
  clear hm k1 k2 hpp
  go_wp2_with fail
  go_ret2
  exact ⟨tup2 hp.out rfl rfl, kb⟩
 | true =>
  rw [hm] at he
  subst he
  have hmp := (mayB_iff S).1 hm
  have hlo := hmp.lo
  have hhi := hmp.hi
  have hpk := hpp.out
  unfold pickS at hpk
  rw [if_pos hm] at hpk
  replace hpk := zH hpk
  replace hm := zH hm
  clear hmp hpp
  replace k2 := zH k2
  go_wp2_with (first | (refine zLd ?_) | fail)
  refine (target_any S v _).mono ?_
  rintro e w2 ⟨he, hb⟩
  have k1 := k1.below hb
  have k2 := k2.out.below hb
  have kb := bel kb hb
  clear hb
  obtain ⟨f, l, m0, d0, t0, m1, d1, t1, a⟩ := S
  simp only at hlo hhi hpk he
  have ha : a = -1 ∨ a = 0 ∨ a = 1 := by omega
  clear hlo hhi
  rcases ha with rfl | rfl | rfl
  all_goals
   (have x3 := k1.cell (j := 3) rfl)
   (have x4 := k1.cell (j := 4) rfl)
   (have x6 := k1.cell (j := 6) rfl)
   (have x7 := k1.cell (j := 7) rfl)
   (have x8 := k1.cell (j := 8) rfl)
   (have y0 := k2.cell (j := 0) rfl)
   (have y1 := k2.cell (j := 1) rfl)
   (simp only at x3 x4 x6 x7 x8)
   (clear k1 k2)
  · replace he : e = .returned (.int .i64 0) := he
    subst he
    have hp := hpk.out
    by_cases ht : t0 < 3
    · simp only [ht] at hp
      clear hpk
      cases d0 <;> cases b0 <;> cases b1 <;> simp at hp <;> replace hp := zH hp.symm
      all_goals
       go_wp2_with fail
       go_ret2
       exact ⟨tup2 hp.out rfl rfl, kb⟩
    · simp only [ht] at hp
      clear hpk
      cases d0 <;> cases b0 <;> cases b1 <;> simp at hp <;> replace hp := zH hp.symm
      all_goals
       go_wp2_with fail
       go_ret2
       exact ⟨tup2 hp.out rfl rfl, kb⟩
  · replace he : e = .returned (.int .i64 1) := he
    subst he
    have hp := hpk.out
    by_cases ht : t1 < 3
    · simp only [ht] at hp
      clear hpk
      cases d1 <;> cases b0 <;> cases b1 <;> simp at hp <;> replace hp := zH hp.symm
      all_goals
       go_wp2_with fail
       go_ret2
       exact ⟨tup2 hp.out rfl rfl, kb⟩
    · simp only [ht] at hp
      clear hpk
      cases d1 <;> cases b0 <;> cases b1 <;> simp at hp <;> replace hp := zH hp.symm
      all_goals
       go_wp2_with fail
       go_ret2
       exact ⟨tup2 hp.out rfl rfl, kb⟩
  · replace he : e = .returned (.int .i64 0) := he
    subst he
    have hp := hpk.out
    by_cases ht : t0 < 3
    · simp only [ht] at hp
      clear hpk
      cases d0 <;> cases b0 <;> cases b1 <;> simp at hp <;> replace hp := zH hp.symm
      all_goals
       go_wp2_with fail
       go_ret2
       exact ⟨tup2 hp.out rfl rfl, kb⟩
    · simp only [ht] at hp
      clear hpk
      cases d0 <;> cases b0 <;> cases b1 <;> simp at hp <;> replace hp := zH hp.symm
      all_goals
       go_wp2_with fail
       go_ret2
       exact ⟨tup2 hp.out rfl rfl, kb⟩
theorem mnum_bad (g : Nat) (w : World) (hc : Cur w g [] true) :
 Calls Tryz.prog 292 #[.pointer (some ⟨g, 0, none⟩)] w fun e w' => e = .returned (.agg (bytn 32 0).toArray) ∧ Below w.heap.size w w' := by
 have hsz1 : Hid ((Tryz.prog.info? 5).map (·.size) = some 1) := zH zKr
 have cR := zH (fun w' (hb : Below w.heap.size w w') => same_below (raw_bad g [] 32 w' (hc.below hb)))
 clear hc
 go_enter Tryz.func292, Tryz.ntmps292
 go_upto_region 2 with fail
 refine wp_new2 (fun W hsz k2 k3 kb => ?_)
 replace k2 : Arr W w.heap.size (bytn 32 0) := k2
 replace k3 : Arr W (w.heap.size + 1) (bytn 32 0) := k3
 obtain ⟨g2, hg2⟩ : ∃ g, w.heap.size = g := ⟨_, rfl⟩
 rw [hg2] at k2 k3 ⊢
 have hw2 : w.heap.size ≤ g2 := by omega
 clear hsz hg2
 refine Tx.start (fun w' => Below (W).heap.size (W) w') 3 4 rfl zKr ?_
 have hS_1 : Below (W).heap.size (W) (World.drew W) := (Below.refl _ _).drew
 refine Tx.seg2 (A := ?_) 2 3 zKr (by exact hS_1) [0, 1] zKr ?_ ?_
 rotate_left
 · intro w' hB
   exact zRd
 refine Tx.eff 2 7 rfl zDk (fun K hK => ?_)
 go_simp
 refine (cR.out _ (bel kb hS_1)).mono ?_
 rintro e w_2 ⟨rfl, hb_2⟩
 have hS_2 := ext_trans hS_1 (Nat.le_refl _) hb_2
 refine hK (fun w' => Below (W).heap.size (W) w') _ _ hS_2 (fun _ h => h) ?_
 clear hK K hb_2 hS_1
 try simp only [Act.put, zSa, zSz, zSs]
 refine Tx.bar 15 rfl zDk (fun K hK => ?_)
 replace k2 := k2.below hS_2
 replace k3 := k3.below hS_2
 replace kb := bel kb hS_2
 clear hS_2
 refine step_copyN rfl _ _ 26 26 rfl 5 Tryz.underlying26 hsz1.out (g2 + 1) 0 32 32 rfl _ k3 (by rw [bytn_len]; decide) _ rfl [] (Sl.nil _) (fun u hu => by cases hu) 0 rfl (bytn 32 0) (by simp) (fun W3 k3 hg hsz => ?_)
 replace k2 := k2.kept hg zOm
 replace kb := below_gr kb hg zOm kb.size
 refine hK (fun _ => True) 9999 _ _ ?_
 clear hK K
 try simp only [Act.put]
 try simp only [zSa, zSz, zSs]
 refine Tx.done zKr ?_
 go_wp2_with (first | (refine wpList_load_arr2 rfl _ _ rfl _ rfl zDk _ k3 (by rw [bytn_len]; kernel_rfl) ?_) | (refine wpl_storeG rfl _ _ _ rfl _ (bytn 32 0) rfl rfl _ k2 (by rw [bytn_len]; kernel_rfl) (by rw [bytn_len]) (bytn_one _ _) (fun w9 k2 hg hsz => ?_)))
 have qb := below_gr kb hg hw2 kb.size
 exact bodyPost_ret (results_arr2 Tryz.results292 _ _ _ rfl zKr _ k2 (by rw [bytn_len]; kernel_rfl)) rfl ⟨rfl, qb⟩
theorem msig_bad (g : Nat) (w : World) (hc : Cur w g [] true) :
 Calls Tryz.prog 293 #[.pointer (some ⟨g, 0, none⟩)] w fun e w' => e = .returned (.agg (bytn 64 0).toArray) ∧ Below w.heap.size w w' := by
 have hsz1 : Hid ((Tryz.prog.info? 5).map (·.size) = some 1) := zH zKr
 have cR := zH (fun w' (hb : Below w.heap.size w w') => same_below (raw_bad g [] 64 w' (hc.below hb)))
 clear hc
 go_enter Tryz.func293, Tryz.ntmps293
 go_upto_region 2 with fail
 refine wp_new2 (fun W hsz k2 k3 kb => ?_)
 replace k2 : Arr W w.heap.size (bytn 64 0) := k2
 replace k3 : Arr W (w.heap.size + 1) (bytn 64 0) := k3
 obtain ⟨g2, hg2⟩ : ∃ g, w.heap.size = g := ⟨_, rfl⟩
 rw [hg2] at k2 k3 ⊢
 have hw2 : w.heap.size ≤ g2 := by omega
 clear hsz hg2
 refine Tx.start (fun w' => Below (W).heap.size (W) w') 3 4 rfl zKr ?_
 have hS_3 : Below (W).heap.size (W) (World.drew W) := (Below.refl _ _).drew
 refine Tx.seg2 (A := ?_) 2 3 zKr (by exact hS_3) [0, 1] zKr ?_ ?_
 rotate_left
 · intro w' hB
   exact zRd
 refine Tx.eff 2 7 rfl zDk (fun K hK => ?_)
 go_simp
 refine (cR.out _ (bel kb hS_3)).mono ?_
 rintro e w_4 ⟨rfl, hb_4⟩
 have hS_4 := ext_trans hS_3 (Nat.le_refl _) hb_4
 refine hK (fun w' => Below (W).heap.size (W) w') _ _ hS_4 (fun _ h => h) ?_
 clear hK K hb_4 hS_3
 try simp only [Act.put, zSa, zSz, zSs]
 refine Tx.bar 15 rfl zDk (fun K hK => ?_)
 replace k2 := k2.below hS_4
 replace k3 := k3.below hS_4
 replace kb := bel kb hS_4
 clear hS_4
 refine step_copyN rfl _ _ 26 26 rfl 5 Tryz.underlying26 hsz1.out (g2 + 1) 0 64 64 rfl _ k3 (by rw [bytn_len]; decide) _ rfl [] (Sl.nil _) (fun u hu => by cases hu) 0 rfl (bytn 64 0) (by simp) (fun W3 k3 hg hsz => ?_)
 replace k2 := k2.kept hg zOm
 replace kb := below_gr kb hg zOm kb.size
 refine hK (fun _ => True) 9999 _ _ ?_
 clear hK K
 try simp only [Act.put]
 try simp only [zSa, zSz, zSs]
 refine Tx.done zKr ?_
 go_wp2_with (first | (refine wpList_load_arr2 rfl _ _ rfl _ rfl zDk _ k3 (by rw [bytn_len]; kernel_rfl) ?_) | (refine wpl_storeG rfl _ _ _ rfl _ (bytn 64 0) rfl rfl _ k2 (by rw [bytn_len]; kernel_rfl) (by rw [bytn_len]) (bytn_one _ _) (fun w9 k2 hg hsz => ?_)))
 have qb := below_gr kb hg hw2 kb.size
 exact bodyPost_ret (results_arr2 Tryz.results293 _ _ _ rfl zKr _ k2 (by rw [bytn_len]; kernel_rfl)) rfl ⟨rfl, qb⟩
def mnZ : List Value := .int .i64 0 :: .int .i64 0 :: (bytn 32 0 ++ (.slice none 0 0 :: .int .i64 0 :: (bytn 32 0 ++ (bytn 64 0 ++ bytn 64 0))))
theorem mnZ_facts : mnZ.length = 196 ∧ (mnZ[1]? = some (.int .i64 0) ∧ mnZ[34]? = some (.slice none 0 0) ∧ mnZ[35]? = some (.int .i64 0)) ∧ (mnZ.set 1 (.int .i64 0) = mnZ ∧ mnZ.set 34 (.slice none 0 0) = mnZ ∧ mnZ.set 35 (.int .i64 0) = mnZ) ∧
 (putAt 2 (bytn 32 0) mnZ = mnZ ∧ putAt 36 (bytn 32 0) mnZ = mnZ ∧ putAt 68 (bytn 64 0) mnZ = mnZ ∧ putAt 132 (bytn 64 0) mnZ = mnZ) :=
 ⟨by kernel_rfl, ⟨by kernel_rfl, by kernel_rfl, by kernel_rfl⟩, ⟨by kernel_rfl, by kernel_rfl, by kernel_rfl⟩, by kernel_rfl, by kernel_rfl, by kernel_rfl, by kernel_rfl⟩
theorem mnZ_one : ∀ v ∈ mnZ, v.oneCell' = true := by
 intro v hv
 simp only [mnZ, List.mem_cons, List.mem_append] at hv
 rcases hv with rfl | rfl | h | rfl | rfl | h | h | h <;> first | rfl | exact bytn_one _ _ _ h
theorem intS_bad : intS [] true = (0, [], true) := by decide +kernel
theorem Cur.keptE {w w' : World} {g k : Nat} {bad : Bool} (h : Cur w g [] bad) (hg : w.grownBy w' (some k)) (hk : k ≠ g) : Cur w' g [] bad := by
 have hlt := h.lt
 obtain ⟨v, h1, h2, h3, h4, h5⟩ := h
 have hb := hg.block g hlt (by simp only [ne_eq, Option.some.injEq]; exact fun e => hk e.symm)
 refine ⟨v, by rw [World.cell?_of_block (a := ⟨g, 0, none⟩) hb]; exact h1, by rw [World.cell?_of_block (a := ⟨g, 1, none⟩) hb]; exact h2, by rw [World.frozen?_of_block (a := ⟨g, 0, none⟩) hb]; exact h3, by rw [World.frozen?_of_block (a := ⟨g, 1, none⟩) hb]; exact h4, ?_⟩
 rcases h5 with h | ⟨b, o, cap, rfl, q1, q2, q3, q4, q5⟩
 · exact .inl h
 · exact .inr ⟨b, o, cap, rfl, q1, q2, q3, Nat.lt_of_lt_of_le q4 hg.size, fun j u hu => by simp [u8s] at hu⟩
theorem int_bad (g : Nat) (w : World) (hc : Cur w g [] true) : Calls Tryz.prog 232 #[.pointer (some ⟨g, 0, none⟩)] w fun e w' => e = .returned (.int .i64 0) ∧ w.grownBy w' (some g) ∧ Cur w' g [] true := by
 have h := int_any g [] true w hc zDc
 rw [intS_bad] at h
 exact h
theorem mread_short (vb : Value) (bs : List UInt8) (hb3 : bs.length ≤ 3) (w : World) (hs : Sl w vb (u8s bs)) :
 Calls Tryz.prog 247 #[vb] w fun e w' => e = .returned (.tuple #[.agg mnZ.toArray, .int .i64 4]) ∧ Below w.heap.size w w' := by
 have hone := zH mnZ_one
 have hZ0 : mnZ = mnZ := rfl
 obtain ⟨hlen, ⟨x1, x34, x35⟩, ⟨s1, s34, s35⟩, p2, p36, p68, p132⟩ := mnZ_facts
 obtain ⟨X, hX⟩ : ∃ X, mnZ = X := ⟨_, rfl⟩
 rw [hX] at hlen x1 x34 x35 s1 s34 s35 p2 p36 p68 p132 hone ⊢
 clear hZ0
 replace hX := zH hX
 replace hlen := zH hlen
 replace x1 := zH x1
 replace x34 := zH x34
 replace x35 := zH x35
 replace s1 := zH s1
 replace s34 := zH s34
 replace s35 := zH s35
 replace p2 := zH p2
 replace p36 := zH p36
 replace p68 := zH p68
 replace p132 := zH p132
 have cN := zH (fun w' (hb : Below w.heap.size w w') => packNew_any vb bs w' (hs.below hb) zOm)
 replace hb3 := zH hb3
 clear hs
 go_enter Tryz.func247, Tryz.ntmps247
 go_upto_region 1 with fail
 refine wp_new1 (fun W hsz k2 kb => ?_)
 replace k2 : Arr W w.heap.size X := (congrArg (Arr W w.heap.size) ((by kernel_rfl : _ = mnZ).trans hX.out)).mp k2
 obtain ⟨g2, hg2⟩ : ∃ g, w.heap.size = g := ⟨_, rfl⟩
 rw [hg2] at k2 ⊢
 have hw2 : w.heap.size ≤ g2 := by omega
 clear hsz hg2
 go_wp2_with fail
 refine (cN.out _ kb).mono ?_
 rintro e w1 ⟨gc, rfl, hgc, kc, hb⟩
 have h2c := k2.lt
 have h2gc : g2 < gc := by omega
 replace k2 := k2.below hb
 replace kb := bel kb hb
 have cW := zH (raw_no gc bs 4 w1 kc (.inr (by have := hb3.out; omega)))
 clear hb hgc cN h2c kc
 go_wp2_with fail
 refine cW.out.mono ?_
 rintro e w2 ⟨rfl, hg, kc⟩
 replace k2 := k2.kept hg zOm
 replace kb := below_gr kb hg zOm kb.size
 clear cW hg
 have hst : (convert 26 9 (.slice none 0 0)).run Tryz.prog w2 = .ok (.string ⟨#[]⟩) w2 := strBk (bs := []) (Sl.nil _)
 have cI := zH (int_bad gc _ kc)
 clear kc
 go_wp2_with fail
 refine cI.out.mono ?_
 rintro e w3 ⟨rfl, hg, kc⟩
 replace k2 := k2.kept hg zOm
 replace kb := below_gr kb hg zOm kb.size
 clear cI hg
 clear hst
 go_upto_region 4 with (first | (refine wpList_builta rfl _ _ rfl mnZ.toArray zKr ?_; rw [hX.out]) | (refine wpl_storeG rfl _ _ _ rfl _ X rfl rfl _ (Arr.new _ _ _) (by rw [hlen.out]; kernel_rfl) (by rw [hlen.out]; kernel_rfl) hone.out (fun w4 k6 hg hsz => ?_)))
 have hb := below_fresh hg
 have hc3 := kc.lt
 replace k2 := k2.below hb
 replace kc := kc.below hb
 replace kb := bel kb hb
 obtain ⟨g6, hg6⟩ : ∃ g, w3.heap.size = g := ⟨_, rfl⟩
 rw [hg6] at k6 hc3 ⊢
 have hw6 : w.heap.size ≤ g6 := by omega
 clear hb hsz hg hg6
 have cI := zH (int_bad gc _ kc)
 clear kc
 go_wp2_with fail
 refine cI.out.mono ?_
 rintro e w5 ⟨rfl, hg, kc⟩
 replace k2 := k2.kept hg zOm
 replace k6 := k6.kept hg zOm
 replace kb := below_gr kb hg zOm kb.size
 clear cI hg
 have q1 := k6.cell x1.out
 have q2 := k6.frozen 1
 go_upto_region 5 with fail
 clear q1 q2
 refine code_cellG k6 (fun w6 k6 hg hsz => ?_)
 replace k2 := k2.kept hg zOm
 replace kb := below_gr kb hg zOm kb.size
 replace kc := Cur.keptE kc hg zOm
 clear hg hsz
 rw [s1.out] at k6
 have cS := zH (mnum_bad gc _ kc)
 go_wp2_with fail
 refine cS.out.mono ?_
 rintro e w7 ⟨rfl, hb⟩
 replace k2 := k2.below hb
 replace k6 := k6.below hb
 replace kc := kc.below hb
 replace kb := bel kb hb
 clear hb cS
 go_upto_region 6 with (refine wpl_storeMG rfl _ _ _ rfl g6 2 (bytn 32 0) rfl rfl _ k6 (by rw [bytn_len]; kernel_rfl) (by rw [bytn_len, hlen.out]; decide) (bytn_one _ _) (fun w8 k6 hg => ?_))
 rw [p2.out] at k6
 replace k2 := k2.kept hg zOm
 replace kb := below_gr kb hg zOm kb.size
 replace kc := Cur.keptE kc hg zOm
 clear hg
 have cW := zH (raw_bad gc [] 80 _ kc)
 go_wp2_with fail
 refine cW.out.mono ?_
 rintro e wR ⟨rfl, hw⟩
 subst hw
 clear cW
 have q1 := k6.cell x34.out
 have q2 := k6.frozen 34
 go_upto_region 7 with fail
 clear q1 q2
 refine code_cellG k6 (fun w10 k6 hg hsz => ?_)
 replace k2 := k2.kept hg zOm
 replace kb := below_gr kb hg zOm kb.size
 replace kc := Cur.keptE kc hg zOm
 clear hg hsz
 rw [s34.out] at k6
 have cI := zH (int_bad gc _ kc)
 clear kc
 go_wp2_with fail
 refine cI.out.mono ?_
 rintro e w11 ⟨rfl, hg, kc⟩
 replace k2 := k2.kept hg zOm
 replace k6 := k6.kept hg zOm
 replace kb := below_gr kb hg zOm kb.size
 clear cI hg
 have q1 := k6.cell x35.out
 have q2 := k6.frozen 35
 go_upto_region 8 with fail
 clear q1 q2
 refine code_cellG k6 (fun w12 k6 hg hsz => ?_)
 replace k2 := k2.kept hg zOm
 replace kb := below_gr kb hg zOm kb.size
 replace kc := Cur.keptE kc hg zOm
 clear hg hsz
 rw [s35.out] at k6
 have cS := zH (mnum_bad gc _ kc)
 go_wp2_with fail
 refine cS.out.mono ?_
 rintro e wS ⟨rfl, hb⟩
 replace k2 := k2.below hb
 replace k6 := k6.below hb
 replace kc := kc.below hb
 replace kb := bel kb hb
 clear hb cS
 go_upto_region 9 with (refine wpl_storeMG rfl _ _ _ rfl g6 36 (bytn 32 0) rfl rfl _ k6 (by rw [bytn_len]; kernel_rfl) (by rw [bytn_len, hlen.out]; decide) (bytn_one _ _) (fun w8 k6 hg => ?_))
 rw [p36.out] at k6
 replace k2 := k2.kept hg zOm
 replace kb := below_gr kb hg zOm kb.size
 replace kc := Cur.keptE kc hg zOm
 clear hg
 have cS := zH (msig_bad gc _ kc)
 go_wp2_with fail
 refine cS.out.mono ?_
 rintro e wS ⟨rfl, hb⟩
 replace k2 := k2.below hb
 replace k6 := k6.below hb
 replace kc := kc.below hb
 replace kb := bel kb hb
 clear hb cS
 go_upto_region 10 with (refine wpl_storeMG rfl _ _ _ rfl g6 68 (bytn 64 0) rfl rfl _ k6 (by rw [bytn_len]; kernel_rfl) (by rw [bytn_len, hlen.out]; decide) (bytn_one _ _) (fun w8 k6 hg => ?_))
 rw [p68.out] at k6
 replace k2 := k2.kept hg zOm
 replace kb := below_gr kb hg zOm kb.size
 replace kc := Cur.keptE kc hg zOm
 clear hg
 have cS := zH (msig_bad gc _ kc)
 go_wp2_with fail
 refine cS.out.mono ?_
 rintro e wS ⟨rfl, hb⟩
 replace k2 := k2.below hb
 replace k6 := k6.below hb
 replace kc := kc.below hb
 replace kb := bel kb hb
 clear hb cS
 go_upto_region 11 with (refine wpl_storeMG rfl _ _ _ rfl g6 132 (bytn 64 0) rfl rfl _ k6 (by rw [bytn_len]; kernel_rfl) (by rw [bytn_len, hlen.out]; decide) (bytn_one _ _) (fun w8 k6 hg => ?_))
 replace k2 := k2.kept hg zOm
 replace kb := below_gr kb hg zOm kb.size
 replace kc := Cur.keptE kc hg zOm
 clear hg k6
 have cE := end_any gc [] true _ kc
 rw [show endS [] true = false from rfl] at cE
 replace cE := zH cE
 go_wp2_with fail
 refine cE.out.mono ?_
 rintro e wE ⟨rfl, hw⟩
 subst hw
 clear cE kc
 go_wp2_with (first | (refine wpList_builta rfl _ _ rfl mnZ.toArray zKr ?_; rw [hX.out]) | (refine wpl_storeG rfl _ _ _ rfl _ X rfl rfl _ k2 (by rw [hlen.out]; kernel_rfl) (by rw [hlen.out]) hone.out (fun w9 k2 hg hsz => ?_)))
 have qb := below_gr kb hg hw2 kb.size
 exact bodyPost_ret (results_arr_tmp Tryz.results247 _ _ g2 _ rfl Tryz.underlying143 rfl X k2 (by rw [hlen.out]; kernel_rfl) _ rfl) rfl ⟨rfl, qb⟩
def stZ : List Value := [.int .i64 0, .slice none 0 0, .slice none 0 0, .bool false, .int .i64 0, .slice none 0 0, .bool false, .int .i64 0, .int .i64 (-1)]
theorem stZ_eq : newS.cs nilSv = stZ := rfl
def kpV (k : Nat) : Value := .iface 191 (.pointer (some ⟨k, 0, none⟩))
def coZ (k r s : Nat) (bt : Int) : List Value := kpV k :: (bytn 32 r ++ (bytn 32 s ++ (stZ ++ (.int .i64 bt :: bytn 32 0))))
theorem coZ_st {k r s : Nat} {bt : Int} {j : Nat} (hj : j < 9) : (coZ k r s bt)[65 + j]? = stZ[j]? := by
 rw [coZ, show 65 + j = (64 + j) + 1 by omega, List.getElem?_cons_succ, List.getElem?_append_right (by rw [bytn_len]; omega), bytn_len, List.getElem?_append_right (by rw [bytn_len]; omega), bytn_len, show 64 + j - 32 - 32 = j by omega, List.getElem?_append_left (by simp [stZ]; omega)]
theorem coZ_bt (k r s : Nat) (bt : Int) : (coZ k r s bt)[74]? = some (.int .i64 bt) := by
 rw [coZ, show (74 : Nat) = 73 + 1 from rfl, List.getElem?_cons_succ, List.getElem?_append_right (by rw [bytn_len]; omega), bytn_len, List.getElem?_append_right (by rw [bytn_len]; omega), bytn_len, List.getElem?_append_right (by simp [stZ])]
 rfl
theorem coZ_set (k r s : Nat) (bt b2 : Int) : (coZ k r s bt).set 74 (.int .i64 b2) = coZ k r s b2 := by
 rw [coZ, coZ, show (74 : Nat) = 73 + 1 from rfl, List.set_cons_succ, List.set_append_right _ _ (by rw [bytn_len]; omega), bytn_len, List.set_append_right _ _ (by rw [bytn_len]; omega), bytn_len, List.set_append_right _ _ (by simp [stZ])]
 rfl
theorem cnew_any (k r s : Nat) (w : World) :
 Calls Tryz.prog 131 #[kpV k, .agg (bytn 32 r).toArray, .agg (bytn 32 s).toArray, .agg stZ.toArray] w fun e w' => ∃ c, e = .returned (.pointer (some ⟨c, 0, none⟩)) ∧ w.heap.size ≤ c ∧ Arr w' c (coZ k r s (-1)) ∧ Below w.heap.size w w' := by
 obtain ⟨X, hX⟩ : ∃ X, coZ k r s (-1) = X := ⟨_, rfl⟩
 rw [hX]
 replace hX := zH hX
 go_enter Tryz.func131, Tryz.ntmps131
 go_upto_region 1 with fail
 refine wp_new3 (fun W hsz k5 k6 k7 kb => ?_)
 replace k5 : Arr W w.heap.size (bytn 32 r) := k5
 replace k6 : Arr W (w.heap.size + 1) (bytn 32 s) := k6
 replace k7 : Arr W (w.heap.size + 1 + 1) stZ := k7
 clear hsz
 go_wp2_with (first | (refine wpList_load_arr2 rfl _ _ rfl _ rfl zDk _ k5 (by rw [bytn_len]; kernel_rfl) ?_) | (refine wpList_load_arr2 rfl _ _ rfl _ rfl zDk _ k6 (by rw [bytn_len]; kernel_rfl) ?_) | (refine wpList_load_arr2 rfl _ _ rfl _ rfl zDk _ k7 zKr ?_) | (refine wpList_builta rfl _ _ rfl (coZ k r s (-1)).toArray zKr ?_; rw [hX.out]))
 go_ret
 exact ⟨_, rfl, kb.size, Arr.new _ _ _, bel kb (below_alloc _ _)⟩
theorem may_none (c k r s i : Nat) (bt : Int) (hi : i < 2) (w : World) (k0 : Arr w c (coZ k r s bt)) :
 Calls Tryz.prog 259 #[.pointer (some ⟨c, 0, none⟩), .int .i64 (i : Int)] w fun e w' => e = .returned (.bool false) ∧ Below w.heap.size w w' := by
 have hone := zH mnZ_one
 have hlen := zH mnZ_facts.1
 have cR := zH (mread_short (.slice none 0 0) [] zDc w (Sl.nil _))
 obtain ⟨X, hX⟩ : ∃ X, mnZ = X := ⟨_, rfl⟩
 rw [hX] at hone hlen cR
 have h2 := k0.cell (coZ_st (j := 2) zDc)
 have h5 := k0.cell (coZ_st (j := 5) zDc)
 have i0 : (0 : Int) ≤ (i : Int) := by omega
 have i1 : (i : Int) < 2 := by omega
 clear hX
 have hcel : w.cell? ⟨c, 67 + i * 3, none⟩ = some (.slice none 0 0) := by
  have : i = 0 ∨ i = 1 := by omega
  rcases this with rfl | rfl
  · exact h2
  · exact h5
 clear h2 h5 k0
 have kb := Below.refl w.heap.size w
 go_enter Tryz.func259, Tryz.ntmps259
 go_wp2_with fail
 refine cR.out.mono ?_
 rintro e w1 ⟨rfl, hb⟩
 replace kb := bel kb hb
 clear hb cR hcel i0 i1
 go_upto_region 2 with (refine wpl_storeG rfl _ _ _ rfl _ X rfl rfl _ (Arr.new _ _ _) (by rw [hlen.out]; kernel_rfl) (by rw [hlen.out]; kernel_rfl) hone.out (fun w4 k6 hg hsz => ?_))
 replace kb := bel kb (below_fresh hg)
 clear hg hsz k6 hlen hone
 refine Tx.start (fun w' => Below (w4).heap.size (w4) w') 9999 21 rfl zKr ?_
 have hS_1 : Below (w4).heap.size (w4) (World.drew w4) := (Below.refl _ _).drew
 refine Tx.seg (A := ?_) 14 127 zKr (by exact hS_1) [0, 1, 2, 3, 4, 5, 6] zKr ?_ ?_
 rotate_left
 · intro w' hB
   exact zRd
 refine Tx.eff 7 255 rfl zDk (fun K hK => ?_)
 go_simp
 refine hK (fun w' => Below (w4).heap.size (w4) w') _ _ hS_1 (fun _ h => h) ?_
 clear hK K
 try simp only [Act.put, zSa, zSz, zSs]
 refine Tx.seg (A := ?_) 0 2097151 zKr (by exact hS_1) [8, 9, 10, 11, 12, 13, 14, 15, 16, 17, 18, 19, 20] zKr ?_ ?_
 rotate_left
 · intro w' hB
   exact zRd
 refine Tx.done zKr ?_
 have kb := bel kb hS_1
 go_wp2_with fail
 go_ret
 exact ⟨rfl, kb⟩
theorem pick_newS : pickS newS false false = (-1, false) := by
 unfold pickS newS
 split
 · rw [if_neg zDc, if_neg zDc, if_neg zDc]
 · rfl
theorem newS_ok (w : World) : StOk w newS nilSv := ⟨Sl.nil _, Sl.nil _, Sl.nil _⟩
theorem boot_fresh (c k r s : Nat) (bt : Int) (w : World) (k0 : Arr w c (coZ k r s bt)) :
 Calls Tryz.prog 208 #[.pointer (some ⟨c, 0, none⟩)] w fun e w' => e = .returned (.int .i64 18) ∧ Arr w' c (coZ k r s (-1)) ∧ Ch [c] w w' := by
 obtain ⟨X, hX⟩ : ∃ X, coZ k r s bt = X := ⟨_, rfl⟩
 have hXq : Hid (∀ j, j < stZ.length → X[65 + j]? = stZ[j]?) := zH (by rw [← hX]; exact fun _ hj => coZ_st hj)
 have hXs : Hid (X.set 74 (.int .i64 (-1)) = coZ k r s (-1)) := zH (by rw [← hX]; exact coZ_set _ _ _ _ _)
 have hXc : Hid (X[74]? = some (.int .i64 bt)) := zH (by rw [← hX]; exact coZ_bt _ _ _ _)
 have c0 := zH (show Calls Tryz.prog 259 #[.pointer (some ⟨c, 0, none⟩), .int .i64 0] w _ from may_none c k r s 0 bt zDc w k0)
 have c1 := zH (fun w' (hb : Below w.heap.size w w') => show Calls Tryz.prog 259 #[.pointer (some ⟨c, 0, none⟩), .int .i64 1] w' _ from may_none c k r s 1 bt zDc w' (k0.below hb))
 have cP := zH (fun w' => show Calls Tryz.prog 260 #[.agg stZ.toArray, .agg #[.bool false, .bool false]] w' fun e w'' => e = .returned (.tuple #[.int .i64 (-1), .bool false]) ∧ Below w'.heap.size w' w'' by
  have q := pick_any newS nilSv false false w' (newS_ok w')
  rw [pick_newS, stZ_eq] at q
  exact q)
 rw [hX] at k0
 clear hX
 have hlt := k0.lt
 have kb := Below.refl w.heap.size w
 go_enter Tryz.func208, Tryz.ntmps208
 go_wp2_with fail
 refine c0.out.mono ?_
 rintro e w1 ⟨rfl, hb⟩
 replace kb := bel kb hb
 clear hb c0
 go_wp2_with fail
 refine (c1.out _ kb).mono ?_
 rintro e w2 ⟨rfl, hb⟩
 replace kb := bel kb hb
 clear hb c1
 go_upto_region 2 with fail
 have k0 := k0.below kb
 have k1 : Arr (w2.alloc (.cells #[.bool false, .bool false] 325)) w2.heap.size [.bool false, .bool false] := Arr.new _ _ _
 have kb2 := below_alloc w2 (.cells #[.bool false, .bool false] 325)
 replace k0 := k0.below kb2
 replace kb := bel kb kb2
 have hsz := kb.size
 obtain ⟨W, hW⟩ : ∃ W, w2.alloc (.cells #[.bool false, .bool false] 325) = W := ⟨_, rfl⟩
 obtain ⟨g, hg⟩ : ∃ g, w2.heap.size = g := ⟨_, rfl⟩
 rw [hW] at k0 k1 kb ⊢
 rw [hg] at k1 ⊢
 clear kb2 hW hg hsz
 replace k1 := zH k1
 refine Tx.start (fun w' => Below (W).heap.size (W) w') 9999 11 rfl zKr ?_
 have hS_1 : Below (W).heap.size (W) (World.drew W) := (Below.refl _ _).drew
 refine Tx.seg (A := ?_) 6 31 zKr (by exact hS_1) [0, 1, 2, 3, 4] zKr ?_ ?_
 rotate_left
 · intro w' hB
   have yr := (k0.below hB).range (o := 65) (cs := stZ) (hXq.out)
   have y1 := k1.out.below hB
   exact zRm
 refine Tx.eff 5 63 rfl zDk (fun K hK => ?_)
 go_simp
 refine (cP.out _).mono ?_
 rintro e w_2 ⟨rfl, hb_2⟩
 have hS_2 := ext_trans hS_1 (Nat.le_refl _) hb_2
 refine hK (fun w' => Below (W).heap.size (W) w') _ _ hS_2 (fun _ h => h) ?_
 clear hK K hb_2 hS_1
 try simp only [Act.put, zSa, zSz, zSs]
 refine Tx.seg (A := ?_) 0 2047 zKr (by exact hS_2) [6, 7, 8, 9, 10] zKr ?_ ?_
 rotate_left
 · intro w' hB
   exact zRd
 refine Tx.done zKr ?_
 have k0 := k0.below hS_2
 have kb := bel kb hS_2
 clear hS_2
 have f74 := k0.frozen 74
 have x74 := k0.cell hXc.out
 go_upto_region 8 with fail
 refine code_cellG k0 (fun w7 k7 hg hsz => ?_)
 rw [hXs.out] at k7
 have hc := zH ((Ch.of_below (M := [c]) kb).trans (Ch.of_gr hg (by simp)))
 clear hg hsz kb f74 x74 hXs hXc hXq
 go_wp2_with fail
 go_ret
 exact ⟨rfl, k7, hc.out⟩
theorem ta_feed (v : Value) (w : World) : (Instr.typeAssert (.iface 279 v) 20 273 true).run Tryz.prog w = .ok (.tuple #[.slice none 0 0, .bool false]) w := by kernel_rfl
theorem ta_block (v : Value) (w : World) : (Instr.typeAssert (.iface 279 v) 20 275 true).run Tryz.prog w = .ok (.tuple #[.agg #[.int .i64 0, .slice none 0 0, .int .i64 0], .bool false]) w := by kernel_rfl
theorem ta_commit (v : Value) (w : World) : (Instr.typeAssert (.iface 279 v) 20 278 true).run Tryz.prog w = .ok (.tuple #[.agg #[], .bool false]) w := by kernel_rfl
theorem ta_boot (v : Value) (w : World) : (Instr.typeAssert (.iface 279 v) 20 279 true).run Tryz.prog w = .ok (.tuple #[v, .bool true]) w := by kernel_rfl
theorem move4 (bv : Value) (n : Int) (w : World) :
 Calls Tryz.prog 204 #[.agg #[.int .i64 4, bv, .int .i64 n]] w fun e w' => e = .returned (.iface 279 (.agg #[])) ∧ Below w.heap.size w w' := by
 go_enter Tryz.func204, Tryz.ntmps204
 go_wp2_with fail
 go_ret
 exact ⟨rfl, below_alloc _ _⟩
theorem do4 (c k r s : Nat) (bt : Int) (bv : Value) (n : Int) (w : World) (k0 : Arr w c (coZ k r s bt)) :
 Calls Tryz.prog 149 #[.pointer (some ⟨c, 0, none⟩), .agg #[.int .i64 4, bv, .int .i64 n]] w fun e w' => e = .returned (.tuple #[.slice none 0 0, .int .i64 18]) ∧ Arr w' c (coZ k r s (-1)) ∧ Ch [c] w w' := by
 have cM := zH (fun w' => move4 bv n w')
 have cB := zH (fun w' (hb : Below w.heap.size w w') => boot_fresh c k r s bt w' (k0.below hb))
 clear k0
 have f1 := ta_feed (.agg #[])
 have f2 := ta_block (.agg #[])
 have f3 := ta_commit (.agg #[])
 have f4 := ta_boot (.agg #[])
 go_enter Tryz.func149, Tryz.ntmps149
 go_upto_region 1 with fail
 have kb := below_alloc w (.cells #[.int .i64 4, bv, .int .i64 n] 90)
 have k1 : Arr (w.alloc (.cells #[.int .i64 4, bv, .int .i64 n] 90)) w.heap.size [.int .i64 4, bv, .int .i64 n] := Arr.new _ _ _
 obtain ⟨W, hW⟩ : ∃ W, w.alloc (.cells #[.int .i64 4, bv, .int .i64 n] 90) = W := ⟨_, rfl⟩
 obtain ⟨g, hg⟩ : ∃ g, w.heap.size = g := ⟨_, rfl⟩
 rw [hW] at kb k1 ⊢
 rw [hg] at k1 ⊢
 clear hW hg
 go_wp2_with (refine zLd ?_)
 refine (cM.out _).mono ?_
 rintro e w1 ⟨rfl, hb⟩
 replace kb := bel kb hb
 clear hb k1 cM
 go_wp2_with fail
 replace kb := bel kb (below_alloc w1 (.cells #[] 279))
 refine (cB.out _ kb).mono ?_
 rintro e w2 ⟨rfl, k2, hc⟩
 have hq := (Ch.of_below (M := [c]) kb).trans hc
 clear cB kb hc f1 f2 f3 f4
 replace hq := zH hq
 go_wp2_with fail
 go_ret2
 exact ⟨rfl, k2, hq.out⟩
def st0 : List Value := [.int .i64 0, .slice none 0 0, .slice none 0 0, .bool false, .int .i64 0, .slice none 0 0, .bool false, .int .i64 0, .int .i64 0]
theorem stZ_one : ∀ u ∈ stZ, u.oneCell' = true := by
 intro u hu
 simp only [stZ, List.mem_cons, List.not_mem_nil, or_false] at hu
 rcases hu with rfl | rfl | rfl | rfl | rfl | rfl | rfl | rfl | rfl <;> rfl
theorem snew_any (w : World) : Calls Tryz.prog 187 #[] w fun e w' => e = .returned (.agg stZ.toArray) ∧ Below w.heap.size w w' := by
 go_enter Tryz.func187, Tryz.ntmps187
 go_upto_region 1 with fail
 refine wp_new1 (fun W hsz k2 kb => ?_)
 replace k2 : Arr W w.heap.size st0 := k2
 clear hsz
 go_wp2_with (first | (refine wpList_builta rfl _ _ rfl stZ.toArray zKr ?_) | (refine wpl_storeG rfl _ _ _ rfl _ stZ rfl rfl _ k2 zKr (by rfl) stZ_one (fun w4 k6 hg hsz => ?_)))
 have kb := below_gr kb hg (Nat.le_refl _) kb.size
 exact bodyPost_ret ((results_arr2 Tryz.results187 _ _ _ rfl zKr _ (by first | assumption | exact Arr.setRow zAm _) zLn) ) rfl ⟨rfl, kb⟩
theorem dstate_nil (w : World) : Calls Tryz.prog 128 #[.slice none 0 0] w fun e w' => e = .returned (.tuple #[.agg stZ.toArray, .int .i64 0]) ∧ Below w.heap.size w w' := by
 have cN := zH (fun w => snew_any w)
 go_enter Tryz.func128, Tryz.ntmps128
 go_upto_region 1 with fail
 refine wp_new1 (fun W hsz k2 kb => ?_)
 replace k2 : Arr W w.heap.size st0 := k2
 clear hsz
 go_wp2_with fail
 refine (cN.out _).mono ?_
 rintro e w1 ⟨rfl, hb⟩
 replace k2 := k2.below hb
 replace kb := bel kb hb
 clear hb cN
 go_wp2_with (refine wpl_storeG rfl _ _ _ rfl _ stZ rfl rfl _ k2 zKr (by rfl) stZ_one (fun w4 k6 hg hsz => ?_))
 have kb := below_gr kb hg (Nat.le_refl _) kb.size
 exact bodyPost_ret (results_arr_tmp Tryz.results128 _ _ _ _ rfl Tryz.underlying105 rfl stZ k6 zKr _ rfl) rfl ⟨rfl, kb⟩
theorem vnew_any (p g i : Nat) (F : Fl) (w : World) (kf : FlAt w p g F) (hlen : 32768 ≤ F.b.length) (hi : i < 2) :
 Calls Tryz.prog 130 #[.pointer (some ⟨p, 0, none⟩), .int .i64 (i : Int)] w fun e w' => ∃ a, e = .returned (.tuple #[.pointer (some ⟨a, 0, none⟩), .int .i64 0]) ∧ Below w.heap.size w w' := by
 obtain ⟨L, hL⟩ : ∃ L, F.b.length / 256 = L := ⟨_, rfl⟩
 have hL64 : (128 : Int) ≤ (L : Int) := by omega
 have cS := zH (fsize_any p g F w kf)
 rw [hL] at cS
 have i0 : (0 : Int) ≤ (i : Int) := by omega
 have i1 : (i : Int) ≤ 1 := by omega
 have i2 : IntKind.i64.wrap ((i : Int) * 32) = (i : Int) * 32 := i64_in zOm
 have i3 : IntKind.i64.wrap (64 + (i : Int) * 32) = 64 + (i : Int) * 32 := i64_in zOm
 clear kf hlen hL hi
 go_enter Tryz.func130, Tryz.ntmps130
 go_wp2_with fail
 refine cS.out.mono ?_
 rintro e w1 ⟨rfl, hw⟩
 obtain rfl : w = w1 := hw.symm
 clear cS
 go_wp2_with fail
 go_ret2
 exact ⟨_, rfl, below_alloc _ _⟩
end Go.Proofs.YtibdgkhkhmdihaaGreatDoor
