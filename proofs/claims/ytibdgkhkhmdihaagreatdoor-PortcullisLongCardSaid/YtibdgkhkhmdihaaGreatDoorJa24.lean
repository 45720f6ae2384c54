import Derived.Test.YtibdgkhkhmdihaaGreatDoorJa23
import Derived.Test.YtibdgkhkhmdihaaGreatDoorJa01
import Derived.Test.YtibdgkhkhmdihaaGreatDoorJa08
import Derived.Test.YtibdgkhkhmdihaaGreatDoorJa04
import Derived.Deep.RegionHeld3
import Derived.Deep.CutRange
import Derived.Deep.CutBlock
import Derived.StillTailTactics

namespace Go.Proofs.YtibdgkhkhmdihaaGreatDoor
open Go.RowKit
set_option maxHeartbeats 4000000 in
set_option maxRecDepth 100000 in
theorem begin_fresh (b p q g r s m : Nat) (F : Fl) (w : World) (k0 : BkAt w b p q g r s 0 (m : Int) (.slice none 0 0) 0 false F) (hop : F.op = -1) (hd : F.dead = false) (hm0 : 0 < m) (hm : m ≤ 1000000) (hf : Unmarked F) :
    Calls Tryz.prog 186 #[.pointer (some ⟨b, 0, none⟩)] w fun e w' => e = .returned (.int .i64 0) ∧
      (∃ F', F'.b = wrB F.b 0 (recL s 1 []) ∧ F'.op = -1 ∧ F'.dead = false ∧ BkAt w' b p q g r s 1 (m : Int) (.slice none 0 0) 0 false F') ∧ Ch [p, g, q, b] w w' := by
  have hI0 : ((0 : Nat) : Int) = 0 := rfl
  have cC := Lib.hid (fun w' (hb : Below w.heap.size w w') => same_below (ocount_any q (some ⟨p, 0, none⟩) r s 0 m w' (k0.ot.below hb)))
  have cM := Lib.hid (fun w' (hb : Below w.heap.size w w') => same_below (omost_any q (some ⟨p, 0, none⟩) r s 0 m w' (k0.ot.below hb)))
  have cH := Lib.hid (fun num w' (hb : Below w.heap.size w w') => has_none b p q g r s 0 m num (.slice none 0 0) 0 false F w' (k0.bk.below hb) (k0.ot.below hb) (k0.fl.below hb) hd k0.len hf)
  have c0 : Hid (∀ w', Below w.heap.size w w' → w'.cell? ⟨b, 1, none⟩ = some (.pointer (some ⟨q, 0, none⟩))) := Lib.hid (fun w' hb => (k0.bk.below hb).cell (j := 1) rfl)
  have hne : ((0 : Int) == (m : Int)) = false := by simp; omega
  have hne2 : ((m : Int) == 0) = false := by simp; omega
  replace k0 := Lib.hid k0
  replace hop := Lib.hid hop
  replace hd := Lib.hid hd
  replace hm := Lib.hid hm
  replace hm0 := Lib.hid hm0
  have kb := Below.refl w.heap.size w
  have h1 := c0.out w kb
  clear hf hI0
  go_enter Tryz.func186, Tryz.ntmps186
  go_wp2_with fail
  refine (cC.out _ kb).mono ?_
  rintro e w1 ⟨rfl, hb⟩
  replace kb := bel kb hb
  clear hb h1
  have h1 := c0.out w1 kb
  go_wp2_with fail
  refine (cM.out _ kb).mono ?_
  rintro e w2 ⟨rfl, hb⟩
  replace kb := bel kb hb
  clear hb h1
  go_wp2_with fail
  refine (cH.out 1 _ kb).mono ?_
  rintro e w3 ⟨rfl, hb⟩
  replace kb := bel kb hb
  clear hb
  go_wp2_with fail
  refine (cH.out 0 _ kb).mono ?_
  rintro e w4 ⟨rfl, hb⟩
  replace kb := bel kb hb
  have k4 := k0.out.below kb
  have h3 := k4.bk.cell (j := 3) rfl
  have f3 := k4.bk.frozen 3
  have hc4 := Lib.hid (Ch.of_below (M := [p, g, q, b]) kb)
  clear hb cC cM cH c0 hne hne2 kb
  have h2 := k4.bk.cell (j := 2) rfl
  have h2' : (w4.setCell ⟨b, 3, none⟩ (.int .i64 1)).cell? ⟨b, 2, none⟩ = some (.slice none 0 0) := (k4.bk.set 3 (.int .i64 1)).cell (j := 2) rfl
  have hcs : Ch [b] w4 (w4.setCell ⟨b, 3, none⟩ (.int .i64 1)) := Ch.of_gr (gr_cell w4 b 3 _) (by simp)
  have k5 : BkAt (w4.setCell ⟨b, 3, none⟩ (.int .i64 1)) b p q g r s ((0 : Nat) : Int) (m : Int) (.slice none 0 0) 1 false F :=
    ⟨k4.bk.set 3 (.int .i64 1), k4.ot.ch hcs (by simp; exact Ne.symm k4.bq), k4.fl.ch hcs (by simp; exact Ne.symm k4.bp) (by simp; exact Ne.symm k4.bg), k4.bp, k4.bq, k4.bg, k4.qp, k4.qg, by decide, k4.len⟩
  have cW := Lib.hid (show Calls Tryz.prog 229 #[.pointer (some ⟨b, 0, none⟩), .slice none 0 0] (w4.setCell ⟨b, 3, none⟩ (.int .i64 1)) _ from bwrite_never b p q g r s 0 m 1 (.slice none 0 0) false F none 0 [] _ k5 hop.out hd.out hm0.out hm.out (by decide) (Sl.nil _) (fun y e => by cases e))
  have hc5 := Lib.hid (hc4.out.trans (hcs.mono (by simp)))
  clear k4 k5 hcs hc4 h2
  go_wp2_with fail
  refine cW.out.mono ?_
  rintro e w5 ⟨rfl, ⟨v, F', hv, -, hb, ho, hde, kk⟩, hc⟩
  obtain rfl := hv.2 (by simp)
  have hbH := Lib.hid hb
  have hoH := Lib.hid ho
  have hdH := Lib.hid hde
  clear h3 f3 h2' hv hb ho hde cW
  go_wp2_with fail
  go_ret
  exact ⟨rfl, ⟨F', hbH.out, hoH.out, hdH.out, kk⟩, hc5.out.trans hc⟩
/-- What is kept. -/
theorem bload_nil (b p q g r s : Nat) (c m : Int) (half : Nat) (dead : Bool) (F : Fl) (w : World) (k0 : BkAt w b p q g r s c m (.slice none 0 0) half dead F) :
    Calls Tryz.prog 129 #[.pointer (some ⟨b, 0, none⟩)] w fun e w' => e = .returned (.slice none 0 0) ∧ w' = w := by
  have h2 := k0.bk.cell (j := 2) rfl
  clear k0
  go_enter Tryz.func129, Tryz.ntmps129
  go_wp2_with fail
  refine (clone_nil _).mono ?_
  rintro e w1 ⟨rfl, hw⟩
  obtain rfl : w = w1 := hw.symm
  go_wp2_with fail
  go_ret
  exact ⟨rfl, rfl⟩
/-- A bank that has just been opened over a new flash. -/
def BkNew (p q g r s m : Nat) (F : Fl) (w : World) (e : Ending) (w' : World) : Prop := ∃ b F', e = .returned (.tuple #[.pointer (some ⟨b, 0, none⟩), .int .i64 0]) ∧ w.heap.size ≤ b ∧
  F'.b = wrB F.b 0 (recL s 1 []) ∧ F'.op = -1 ∧ F'.dead = false ∧ BkAt w' b p q g r s 1 (m : Int) (.slice none 0 0) 0 false F' ∧ Ch [p, g, q] w w'
set_option maxHeartbeats 2000000 in
set_option maxRecDepth 100000 in
theorem bopen_fresh (p q g r s m : Nat) (F : Fl) (w : World) (ko : Arr w q (otv (some ⟨p, 0, none⟩) r s 0 (m : Int))) (kf : FlAt w p g F) (hqp : q ≠ p) (hqg : q ≠ g) (hlen : 16384 ≤ F.b.length) (hop : F.op = -1) (hd : F.dead = false) (hm0 : 0 < m) (hm : m ≤ 1000000) (hf : Unmarked F) :
    Calls Tryz.prog 127 #[.pointer (some ⟨p, 0, none⟩), .pointer (some ⟨q, 0, none⟩)] w (BkNew p q g r s m F w) := by
  have hpl := kf.lt
  have hql := ko.lt
  obtain ⟨L, hL⟩ : ∃ L, F.b.length / 256 = L := ⟨_, rfl⟩
  have hL64 : (64 : Int) ≤ (L : Int) := by omega
  have cS := Lib.hid (fsize_any p g F w kf)
  have cD := Lib.hid (fdead_any p g F w kf)
  rw [hL] at cS
  rw [hd] at cD
  have kB : BkAt (w.alloc (.cells #[.pointer (some ⟨p, 0, none⟩), .pointer (some ⟨q, 0, none⟩), .slice none 0 0, .int .i64 0, .bool false] 251)) w.heap.size p q g r s 0 (m : Int) (.slice none 0 0) 0 false F :=
    ⟨Arr.new w _ _, ko.alloc _, kf.below (below_alloc _ _), by omega, by omega, by omega, hqp, hqg, by decide, hlen⟩
  have cB := Lib.hid (begin_fresh w.heap.size p q g r s m F _ kB hop hd hm0 hm hf)
  clear kB ko kf hqp hqg hlen hop hd hm0 hm hf hL
  go_enter Tryz.func127, Tryz.ntmps127
  go_wp2_with fail
  refine cS.out.mono ?_
  rintro e w1 ⟨rfl, hw⟩
  obtain rfl : w = w1 := hw.symm
  go_wp2_with fail
  refine cD.out.mono ?_
  rintro e w1 ⟨rfl, hw⟩
  obtain rfl : w = w1 := hw.symm
  clear cS cD
  go_wp2_with fail
  refine cB.out.mono ?_
  rintro e w1 ⟨rfl, ⟨F', hb, ho, hde, kk⟩, hc⟩
  have hcd := Lib.hid (Ch.drop (M := [p, g, q]) (Ch.of_below (below_alloc w _)) hc (fun k hk => by
    simp only [List.mem_cons, List.not_mem_nil, or_false] at hk ⊢
    rcases hk with h | h | h | h
    · exact .inl (.inl h)
    · exact .inl (.inr (.inl h))
    · exact .inl (.inr (.inr h))
    · exact .inr (by omega)))
  have hbH := Lib.hid hb
  have hoH := Lib.hid ho
  have hdH := Lib.hid hde
  clear hb ho hde cB hc
  go_wp2_with fail
  go_ret2
  exact ⟨w.heap.size, F', rfl, Nat.le_refl _, hbH.out, hoH.out, hdH.out, kk, hcd.out⟩
end Go.Proofs.YtibdgkhkhmdihaaGreatDoor


namespace Go.Proofs.YtibdgkhkhmdihaaGreatDoor
open Go.RowKit
/-- The reference's cursor in block g over the bytes bs that v holds: what is left, and whether it is bad. -/
def RCur (w : World) (g : Nat) (v : Value) (bs rest : List UInt8) (bad : Bool) : Prop :=
  ∃ k : Nat, k ≤ bs.length ∧ rest = (if bad = true then [] else bs.drop k) ∧ w.cell? ⟨g, 0, none⟩ = some v ∧ w.cell? ⟨g, 1, none⟩ = some (.int .i64 k) ∧ w.cell? ⟨g, 2, none⟩ = some (.bool bad) ∧
    w.frozen? ⟨g, 1, none⟩ = false ∧ w.frozen? ⟨g, 2, none⟩ = false ∧ Sl w v (u8s bs) ∧ (0 < bs.length → ∀ a n c, v = .slice (some a) n c → a.block < g)
theorem RCur.lt {w : World} {g : Nat} {v : Value} {bs rest : List UInt8} {bad : Bool} (h : RCur w g v bs rest bad) : g < w.heap.size := by
  obtain ⟨k, -, -, h1, _⟩ := h
  exact World.block_lt_of_cell? w _ h1
theorem RCur.below {w w' : World} {g : Nat} {v : Value} {bs rest : List UInt8} {bad : Bool} (h : RCur w g v bs rest bad) (hg : Below w.heap.size w w') : RCur w' g v bs rest bad := by
  have hlt := h.lt
  obtain ⟨k, h1, h2, h3, h4, h5, h6, h7, h8, h9⟩ := h
  exact ⟨k, h1, h2, by rw [hg.cell (p := ⟨g, 0, none⟩) hlt]; exact h3, by rw [hg.cell (p := ⟨g, 1, none⟩) hlt]; exact h4, by rw [hg.cell (p := ⟨g, 2, none⟩) hlt]; exact h5,
    by rw [hg.frozen (p := ⟨g, 1, none⟩) hlt]; exact h6, by rw [hg.frozen (p := ⟨g, 2, none⟩) hlt]; exact h7, h8.below hg, h9⟩
/-- Its bytes, in a world in which block g alone is written. -/
theorem Sl.kept {w w' : World} {g : Nat} {v : Value} {xs : List Value} (h : Sl w v xs) (hg : w.grownBy w' (some g)) (hv : 0 < xs.length → ∀ a n c, v = .slice (some a) n c → a.block < g) : Sl w' v xs := by
  obtain ⟨a, c, rfl, h2, h3, h4, h5⟩ := h
  refine ⟨a, c, rfl, h2, h3, h4, fun x hx j u hu => ?_⟩
  subst hx
  have hj := (List.getElem?_eq_some_iff.1 hu).1
  have := hv (by omega) x _ _ rfl
  refine hg.cell (h5 x rfl j u hu) ?_
  have e : (x.add j).block = x.block := by unfold Addr.add; split <;> rfl
  simp only [ne_eq, Option.some.injEq]
  rw [e]
  omega
end Go.Proofs.YtibdgkhkhmdihaaGreatDoor


namespace Go.Proofs.YtibdgkhkhmdihaaGreatDoor
open Go.RowKit
/-- A store into one's own block: the cell holds it, the others are as they were. -/
theorem cell_set {w : World} {g o j : Nat} {u u0 : Value} (h : w.cell? ⟨g, o, none⟩ = some u0) : (w.setCell ⟨g, o, none⟩ u).cell? ⟨g, j, none⟩ = if j = o then some u else w.cell? ⟨g, j, none⟩ := by
  by_cases hj : j = o
  · subst hj; rw [if_pos rfl, World.cell?_setCell_same _ _ _ h]
  · rw [if_neg hj, World.cell?_setCell_other _ _ _ _ (fun e => hj (by cases e; rfl))]
theorem bits_and_255 (n : Int) : bits .and .i64 n 255 = n % 256 := by
  unfold bits
  simp only [BitVec.toNat_and]
  have e : (BitVec.ofInt IntKind.i64.bits 255).toNat = 255 := by decide
  rw [e]
  have e2 : (BitVec.ofInt IntKind.i64.bits n).toNat = (n % 18446744073709551616).toNat := by simp [IntKind.bits]
  rw [e2, show (255 : Nat) = 2 ^ 8 - 1 from rfl, Nat.and_two_pow_sub_one_eq_mod _ 8]
  have h0 : 0 ≤ n % 18446744073709551616 := by omega
  rw [IntWalk.i64_in _ (by omega)]
  omega
/-- The byte that is written into place 7 - k. -/
theorem be8_low (N : Int) (k : Nat) (hk : k < 8) : bits .and .i64 (N / 2 ^ (8 * k)) 255 % 256 = (((be8 N).getD (7 - k) 0).toNat : Int) := by
  rw [bits_and_255]
  have hl : 7 - k < (be8 N).length := by rw [be8_len]; omega
  have e : (be8 N).getD (7 - k) 0 = (be8 N)[7 - k] := by simp [List.getD, List.getElem?_eq_getElem hl]
  rw [e]
  simp only [be8, List.getElem_map, List.getElem_range]
  rw [show 7 - (7 - k) = k by omega]
  have h0 : 0 ≤ N % 18446744073709551616 := by omega
  have e3 : (UInt8.ofNat ((N % 18446744073709551616).toNat / 2 ^ (8 * k) % 256)).toNat = (N % 18446744073709551616).toNat / 2 ^ (8 * k) % 256 := by simp
  rw [e3]
  have hkk : k = 0 ∨ k = 1 ∨ k = 2 ∨ k = 3 ∨ k = 4 ∨ k = 5 ∨ k = 6 ∨ k = 7 := by omega
  rcases hkk with rfl | rfl | rfl | rfl | rfl | rfl | rfl | rfl <;> simp only [Nat.reduceMul, Nat.reducePow, Int.reducePow, Nat.mul_zero, Nat.pow_zero, Int.pow_zero] <;> omega
/-- The array of eight bytes when the last k are written. -/
def XAt (w : World) (g : Nat) (N : Int) (k : Nat) : Prop := ∀ m, m < 8 → w.cell? ⟨g, m, none⟩ = some (.int .u8 (if 8 - k ≤ m then (((be8 N).getD m 0).toNat : Int) else 0)) ∧ w.frozen? ⟨g, m, none⟩ = false
theorem XAt.step {w : World} {g : Nat} {N : Int} {k : Nat} (h : XAt w g N k) (hk : k < 8) :
    XAt (w.setCell ⟨g, 7 - k, none⟩ (.int .u8 (bits .and .i64 (N / 2 ^ (8 * k)) 255 % 256))) g N (k + 1) := by
  intro m hm
  obtain ⟨h1, h2⟩ := h (7 - k) (by omega)
  obtain ⟨h3, h4⟩ := h m hm
  refine ⟨?_, (World.frozen?_setCell _ _ _ _).trans h4⟩
  rw [cell_set h1]
  split
  · rename_i e
    subst e
    rw [if_pos (by omega), be8_low N k hk]
  · rename_i e
    rw [h3]
    by_cases h5 : 8 - k ≤ m
    · rw [if_pos h5, if_pos (by omega)]
    · rw [if_neg h5, if_neg (by omega)]
theorem XAt.done {w : World} {g : Nat} {N : Int} (h : XAt w g N 8) : Sl w (.slice (some ⟨g, 0, none⟩) 8 8) (u8s (be8 N)) := by
  refine ⟨some ⟨g, 0, none⟩, 8, by rw [u8s_len, be8_len], by rw [u8s_len, be8_len]; decide, by decide, fun h => (by cases h), fun x hx => ?_⟩
  cases hx
  intro j u hu
  have hj : j < 8 := by
    have := (List.getElem?_eq_some_iff.1 hu).1
    rwa [u8s_len, be8_len] at this
  have hl : j < (be8 N).length := by rw [be8_len]; exact hj
  have h1 := (h j hj).1
  rw [if_pos (by omega)] at h1
  rw [Addr.add_lit, Nat.zero_add, h1]
  rw [u8s_get _ _ hl] at hu
  simpa [List.getD, List.getElem?_eq_getElem hl] using hu
end Go.Proofs.YtibdgkhkhmdihaaGreatDoor


namespace Go.Proofs.YtibdgkhkhmdihaaGreatDoor
open Go.RowKit
/-- A state. -/
structure Stt where
  floor : Int
  rev : List Int
  m0 : List UInt8
  d0 : Bool
  t0 : Int
  m1 : List UInt8
  d1 : Bool
  t1 : Int
  act : Int
/-- Where its lists lie. -/
structure Sv where
  rv : Value
  m0 : Value
  m1 : Value
def ints (l : List Int) : List Value := l.map (.int .i64)
theorem ints_len (l : List Int) : (ints l).length = l.length := by simp [ints]
theorem ints_get {l : List Int} {j : Nat} (h : j < l.length) : (ints l)[j]? = some (.int .i64 l[j]) := by simp [ints, h]
/-- Its cells. -/
def Stt.cs (S : Stt) (v : Sv) : List Value := [.int .i64 S.floor, v.rv, v.m0, .bool S.d0, .int .i64 S.t0, v.m1, .bool S.d1, .int .i64 S.t1, .int .i64 S.act]
/-- The lists lie there. -/
structure StOk (w : World) (S : Stt) (v : Sv) : Prop where
  rv : Sl w v.rv (ints S.rev)
  m0 : Sl w v.m0 (u8s S.m0)
  m1 : Sl w v.m1 (u8s S.m1)
theorem StOk.below {w w' : World} {S : Stt} {v : Sv} (h : StOk w S v) (hb : Below w.heap.size w w') : StOk w' S v := ⟨h.rv.below hb, h.m0.below hb, h.m1.below hb⟩
/-- They lie in memory of their own, from B on. -/
structure StOwn (B : Nat) (w : World) (S : Stt) (v : Sv) : Prop where
  rv : w.ownsRow B 3 1 v.rv S.rev.length (ints S.rev)
  m0 : w.ownsRow B 5 1 v.m0 S.m0.length (u8s S.m0)
  m1 : w.ownsRow B 5 1 v.m1 S.m1.length (u8s S.m1)
theorem StOwn.ok {B : Nat} {w : World} {S : Stt} {v : Sv} (h : StOwn B w S v) : StOk w S v := ⟨Sl.of_own h.rv, Sl.of_own h.m0, Sl.of_own h.m1⟩
theorem StOwn.below {B : Nat} {w w' : World} {S : Stt} {v : Sv} (h : StOwn B w S v) (hb : Below w.heap.size w w') : StOwn B w' S v := ⟨own_below h.rv hb, own_below h.m0 hb, own_below h.m1 hb⟩
theorem StOwn.mono {B B' : Nat} {w : World} {S : Stt} {v : Sv} (h : StOwn B w S v) (hb : B' ≤ B) : StOwn B' w S v := ⟨own_mono h.rv hb, own_mono h.m0 hb, own_mono h.m1 hb⟩
/-- Its cells are one cell each. -/
theorem StOk.one {w : World} {S : Stt} {v : Sv} (h : StOk w S v) : ∀ u ∈ S.cs v, u.oneCell' = true := by
  obtain ⟨⟨_, _, h1, -⟩, ⟨_, _, h2, -⟩, ⟨_, _, h3, -⟩⟩ := h
  intro u hu
  simp only [Stt.cs, List.mem_cons, List.not_mem_nil, or_false] at hu
  rcases hu with rfl | rfl | rfl | rfl | rfl | rfl | rfl | rfl | rfl <;> first | rfl | (rw [h1]; rfl) | (rw [h2]; rfl) | (rw [h3]; rfl)
def numB (n : Int) : Bool := decide (0 ≤ n) && decide (n ≤ 2147483647)
def slotB (m : List UInt8) (d : Bool) (t : Int) : Bool := if m.length = 0 then (!d && decide (t = 0)) else (decide ((m.length : Int) = 300) && decide (0 ≤ t) && decide (t ≤ 3))
def revP (l : List Int) (j : Nat) : Prop := ∀ i (h : i < l.length), i < j → numB l[i] = true ∧ ∀ h0 : 0 < i, l[i - 1] < l[i]
/-- A state that may be. -/
structure mayP (S : Stt) : Prop where
  floor : numB S.floor = true
  len : S.rev.length ≤ 32
  lo : -1 ≤ S.act
  hi : S.act ≤ 1
  rev : revP S.rev S.rev.length
  a0 : S.act = 0 → S.m0.length ≠ 0 ∧ S.d0 = true
  a1 : S.act = 1 → S.m1.length ≠ 0 ∧ S.d1 = true
  s0 : slotB S.m0 S.d0 S.t0 = true
  s1 : slotB S.m1 S.d1 S.t1 = true
theorem ret_bool {a b : Bool} (h : a = true ↔ b = true) : Ending.returned (.bool a) = .returned (.bool b) := by rw [Bool.eq_iff_iff.2 h]
theorem number_any (n : Int) (w : World) : Calls Tryz.prog 304 #[.int .i64 n] w fun e w' => e = .returned (.bool (numB n)) ∧ w' = w := by
  unfold numB
  by_cases h : 0 ≤ n
  · go_enter Tryz.func304, Tryz.ntmps304
    go_wp2_with fail
    go_ret
    exact ⟨by simp; omega, rfl⟩
  · go_enter Tryz.func304, Tryz.ntmps304
    go_wp2_with fail
    go_ret
    exact ⟨by simp; omega, rfl⟩
theorem slot_any (v : Value) (m : List UInt8) (d : Bool) (t : Int) (w : World) (hm : Sl w v (u8s m)) :
    Calls Tryz.prog 310 #[.agg #[v, .bool d, .int .i64 t]] w fun e w' => e = .returned (.bool (slotB m d t)) ∧ Below w.heap.size w w' := by
  obtain ⟨x, cap, rfl, h2, h3, -, -⟩ := hm
  rw [u8s_len] at *
  unfold maxLen at h3
  by_cases h : m.length = 0
  · have hr : slotB m d t = (!d && decide (t = 0)) := by unfold slotB; rw [if_pos h]
    rw [hr]
    have iw : ((m.length : Nat) : Int) = 0 := by omega
    rw [h]
    go_enter Tryz.func310, Tryz.ntmps310
    go_upto_region 1 with fail
    refine wp_new1 (fun W hsz k1 kb => ?_)
    have e1 := k1.cell (j := 0) rfl
    have e2 := k1.cell (j := 1) rfl
    have e3 := k1.cell (j := 2) rfl
    clear hsz
    cases d with
    | true =>
      go_wp2_with fail
      go_ret
      exact ⟨rfl, kb⟩
    | false =>
      go_wp2_with fail
      go_ret
      exact ⟨ret_bool (by simp), kb⟩
  · have hr : slotB m d t = (decide ((m.length : Int) = 300) && decide (0 ≤ t) && decide (t ≤ 3)) := by unfold slotB; rw [if_neg h]
    rw [hr]
    have iw : ¬ ((m.length : Nat) : Int) = 0 := by omega
    generalize m.length = n at *
    clear hr h
    go_enter Tryz.func310, Tryz.ntmps310
    go_upto_region 1 with fail
    refine wp_new1 (fun W hsz k1 kb => ?_)
    have e1 := k1.cell (j := 0) rfl
    have e2 := k1.cell (j := 1) rfl
    have e3 := k1.cell (j := 2) rfl
    clear hsz
    by_cases c1 : (n : Int) = 300
    · by_cases c2 : 0 ≤ t
      · go_wp2_with fail
        go_ret
        exact ⟨ret_bool (by simp; try omega), kb⟩
      · go_wp2_with fail
        go_ret
        exact ⟨ret_bool (by simp; try omega), kb⟩
    · go_wp2_with fail
      go_ret
      exact ⟨ret_bool (by simp; try omega), kb⟩
end Go.Proofs.YtibdgkhkhmdihaaGreatDoor


namespace Go.Proofs.YtibdgkhkhmdihaaGreatDoor
open Go.RowKit
theorem cs_r0 {w : World} {g : Nat} {S : Stt} {v : Sv} (k : Arr w g (S.cs v)) : w.rangeAt g 2 [v.m0, .bool S.d0, .int .i64 S.t0] :=
  k.range (fun j hj => by rcases j with _ | _ | _ | j <;> first | rfl | (simp only [List.length_cons, List.length_nil] at hj; omega))
theorem cs_r1 {w : World} {g : Nat} {S : Stt} {v : Sv} (k : Arr w g (S.cs v)) : w.rangeAt g 5 [v.m1, .bool S.d1, .int .i64 S.t1] :=
  k.range (fun j hj => by rcases j with _ | _ | _ | j <;> first | rfl | (simp only [List.length_cons, List.length_nil] at hj; omega))
theorem revP_step {l : List Int} {j : Nat} (h : revP l j) (hj : j < l.length) (h1 : numB l[j] = true) (h2 : ∀ h0 : 0 < j, l[j - 1] < l[j]) : revP l (j + 1) := by
  intro i hi hij
  by_cases e : i = j
  · subst e; exact ⟨h1, h2⟩
  · exact h i hi (by omega)
theorem i64_in' {n m : Int} (e : n = m) (h : -9223372036854775808 ≤ m ∧ m ≤ 9223372036854775807) : IntKind.i64.wrap n = m := by rw [e]; exact i64_in h
theorem slice_of {w : World} {v : Value} {xs : List Value} (h : Sl w v xs) : ∃ a cap, v = .slice a xs.length cap ∧ xs.length ≤ cap ∧ cap ≤ 9223372036854775807 := by
  obtain ⟨a, cap, h1, h2, h3, -⟩ := h
  exact ⟨a, cap, h1, h2, by unfold maxLen at h3; omega⟩
/-- What May answers. -/
def MayPost (S : Stt) (w : World) (e : Ending) (w' : World) : Prop := ∃ r, e = .returned (.bool r) ∧ (r = true ↔ mayP S) ∧ Below w.heap.size w w'
set_option maxHeartbeats 8000000 in
set_option maxRecDepth 100000 in
theorem may_any (S : Stt) (v : Sv) (w : World) (h : StOk w S v) :
    Calls Tryz.prog 280 #[.agg (S.cs v).toArray] w (MayPost S w) := by
  obtain ⟨f, l, m0, d0, t0, m1, d1, t1, a⟩ := S
  obtain ⟨vr, v0, v1⟩ := v
  obtain ⟨hr, h0, h1⟩ := h
  simp only at hr h0 h1
  obtain ⟨ar, cr, rfl, hc1, hc2⟩ := slice_of hr
  obtain ⟨a0, c0, rfl, hc3, hc4⟩ := slice_of h0
  obtain ⟨a1, c1, rfl, hc5, hc6⟩ := slice_of h1
  rw [ints_len] at hr hc1
  rw [u8s_len] at h0 hc3 h1 hc5
  simp only [ints_len, u8s_len]
  have hno : ∀ (w' : World), ¬ mayP ⟨f, l, m0, d0, t0, m1, d1, t1, a⟩ → Below w.heap.size w w' → MayPost ⟨f, l, m0, d0, t0, m1, d1, t1, a⟩ w (.returned (.bool false)) w' := fun w' h1 h2 => ⟨false, rfl, by simp [h1], h2⟩
  have hmk := fun b c d e u g i j k => (mayP.mk (S := ⟨f, l, m0, d0, t0, m1, d1, t1, a⟩) b c d e u g i j k)
  simp only at hmk
  replace hr := Lib.hid hr
  replace h0 := Lib.hid h0
  replace h1 := Lib.hid h1
  replace hno := Lib.hid hno
  replace hmk := Lib.hid hmk
  go_enter Tryz.func280, Tryz.ntmps280
  go_upto_region 1 with fail
  refine wp_new1 (fun W hsz k1 kb => ?_)
  have k1 : Arr W w.heap.size (Stt.cs ⟨f, l, m0, d0, t0, m1, d1, t1, a⟩ ⟨.slice ar l.length cr, .slice a0 m0.length c0, .slice a1 m1.length c1⟩) := k1
  have x0 := k1.cell (j := 0) rfl
  have x1 := k1.cell (j := 1) rfl
  have x2 := k1.cell (j := 2) rfl
  have x3 := k1.cell (j := 3) rfl
  have x5 := k1.cell (j := 5) rfl
  have x6 := k1.cell (j := 6) rfl
  have x8 := k1.cell (j := 8) rfl
  simp only at x0 x1 x2 x3 x5 x6 x8
  have r0 := cs_r0 k1
  have r1 := cs_r1 k1
  simp only at r0 r1
  clear hsz
  replace k1 := Lib.hid k1
  replace r0 := Lib.hid r0
  replace r1 := Lib.hid r1
  go_wp2_with fail
  refine (number_any _ _).mono ?_
  rintro e w' ⟨rfl, hw⟩
  rw [hw]
  clear hw w'
  by_cases q1 : numB f = true
  rotate_left
  · rw [show numB f = false by simpa using q1]
    go_wp2_with fail
    go_ret
    exact hno.out _ (fun h => q1 h.floor) kb
  rw [q1]
  have q1 := Lib.hid q1
  by_cases q2 : 32 < l.length
  · have iw : (32 : Int) < (l.length : Int) := by omega
    go_wp2_with fail
    go_ret
    exact hno.out _ (fun h => by have := h.len; simp only at this; omega) kb
  by_cases q3 : a < -1
  · have iw : ¬ (32 : Int) < (l.length : Int) := by omega
    go_wp2_with fail
    go_ret
    exact hno.out _ (fun h => by have := h.lo; simp only at this; omega) kb
  by_cases q4 : 2 ≤ a
  · have iw : ¬ (32 : Int) < (l.length : Int) := by omega
    go_wp2_with fail
    go_ret
    exact hno.out _ (fun h => by have := h.hi; simp only at this; omega) kb
  have iw : ¬ (32 : Int) < (l.length : Int) := by omega
  have hlen : l.length ≤ 32 := by omega
  have iw2 : ¬ a < -1 := q3
  have iw3 : ¬ 2 ≤ a := q4
  go_wp2_with fail
  go_loopw [28] (fun jv wr => wr = W ∧ ∃ j : Nat, j ≤ l.length ∧ jv = .int .i64 j ∧ revP l j) (fun jv _ => l.length - (intOf jv).toNat)
  case atStart => exact ⟨rfl, 0, by omega, rfl, fun i _ h => absurd h (by omega)⟩
  case round =>
    obtain ⟨hwr, j, hj, rfl, hrv⟩ := hrel
    rw [hwr]
    clear hwr wr
    have hrv := Lib.hid hrv
    by_cases hlt : j < l.length
    · obtain ⟨b, o, rfl, -, -, -, hcc⟩ := hr.out.at (by rw [ints_len]; omega)
      have hc0 := hcc j _ (ints_get hlt)
      have hw0 : W.cell? ⟨b, o + j, none⟩ = some (.int .i64 l[j]) := by rw [kb.cell (World.block_lt_of_cell? w _ hc0)]; exact hc0
      have hstep := Lib.hid (revP_step hrv.out hlt)
      have hbad : ¬ (numB l[j] = true ∧ ∀ h0 : 0 < j, l[j - 1] < l[j]) → ¬ mayP ⟨f, l, m0, d0, t0, m1, d1, t1, a⟩ := fun h1 h2 => h1 (h2.rev j hlt hlt)
      replace hbad := Lib.hid hbad
      cases j with
      | zero =>
        obtain ⟨z, hz⟩ : ∃ z, l[0] = z := ⟨_, rfl⟩
        simp only [hz, Nat.add_zero] at hw0 hstep hbad
        clear hc0 hcc
        replace hz := Lib.hid hz
        go_wp2_with fail
        refine (number_any _ _).mono ?_
        rintro e w' ⟨rfl, hw⟩
        rw [hw]
        clear hw w'
        by_cases q5 : numB z = true
        · rw [q5]
          go_wp2_with fail
          refine ⟨⟨by trivial, 1, by omega, rfl, ?_⟩, by simp [intOf]; omega⟩
          exact hstep.out q5 (fun h => absurd h (by omega))
        · rw [show numB z = false by simpa using q5]
          go_wp2_with fail
          go_ret
          exact hno.out _ (hbad.out (fun h => q5 h.1)) kb
      | succ i =>
        have hc1' := hcc i _ (ints_get (show i < l.length by omega))
        have hw1 : W.cell? ⟨b, o + i, none⟩ = some (.int .i64 l[i]) := by rw [kb.cell (World.block_lt_of_cell? w _ hc1')]; exact hc1'
        obtain ⟨z, hz⟩ : ∃ z, l[i + 1] = z := ⟨_, rfl⟩
        obtain ⟨y, hy⟩ : ∃ y, l[i] = y := ⟨_, rfl⟩
        simp only [Nat.add_sub_cancel, hz, hy] at hw0 hw1 hstep hbad
        clear hc0 hcc hc1'
        replace hz := Lib.hid hz
        replace hy := Lib.hid hy
        have iwj : IntKind.i64.wrap ((i : Int) + 1 - 1) = (i : Int) := i64_in' (by omega) (by omega)
        go_wp2_with fail
        refine (number_any _ _).mono ?_
        rintro e w' ⟨rfl, hw⟩
        rw [hw]
        clear hw w'
        by_cases q5 : numB z = true
        · rw [q5]
          by_cases q6 : y < z
          · have q7 : ¬ z ≤ y := by omega
            go_wp2_with fail
            refine ⟨⟨by trivial, i + 1 + 1, by omega, by go_num, ?_⟩, by simp [intOf]; omega⟩
            exact hstep.out q5 (fun _ => q6)
          · have q7 : z ≤ y := by omega
            go_wp2_with fail
            go_ret
            exact hno.out _ (hbad.out (fun h => by have := h.2 (by omega); omega)) kb
        · rw [show numB z = false by simpa using q5]
          go_wp2_with fail
          go_ret
          exact hno.out _ (hbad.out (fun h => q5 h.1)) kb
    · obtain rfl : j = l.length := by omega
      go_upto_region 9 with fail
      clear hlt hj
      have ha : a = -1 ∨ a = 0 ∨ a = 1 := by omega
      clear q2 q3 q4 iw iw2 iw3
      rcases ha with rfl | rfl | rfl
      · have hmk2 := Lib.hid (fun b0 b1 => hmk.out q1.out hlen (by decide) (by decide) hrv.out (fun h => absurd h (by simp)) (fun h => absurd h (by simp)) b0 b1)
        clear hmk
        go_upto_region 11 with fail
        go_wp2_with (first | (refine wpList_load_mid2 rfl _ _ rfl _ _ rfl (by kernel_rfl) _ r0.out (by first | (rw [lims_len]; kernel_rfl) | (rw [el_rep]; kernel_rfl) | (rw [el_len]; kernel_rfl) | (rw [byts_len]; kernel_rfl) | (rw [us_len]; kernel_rfl) | (rw [bytn_len]; kernel_rfl) | (rw [ens_len, digs_len]; kernel_rfl) | (rw [ptL_len]; kernel_rfl) | (rw [pcs_len]; kernel_rfl) | kernel_rfl) ?_) | fail)
        refine (slot_any _ _ _ _ _ (h0.out.below kb)).mono ?_
        rintro e w3 ⟨rfl, hb3⟩
        have r1 := Lib.hid (cs_r1 (k1.out.below hb3))
        have kb := bel kb hb3
        clear hb3 x0 x1 x2 x3 x5 x6 x8 r0 k1
        cases s0 : slotB m0 d0 t0 with
        | false =>
          replace hmk2 := Lib.hid hmk2
          go_wp2_with fail
          go_ret
          exact hno.out _ (fun h => by have := h.s0; simp only [s0] at this; cases this) kb
        | true =>
          have s0 := Lib.hid s0
          go_wp2_with (first | (refine wpList_load_mid2 rfl _ _ rfl _ _ rfl (by kernel_rfl) _ r1.out (by first | (rw [lims_len]; kernel_rfl) | (rw [el_rep]; kernel_rfl) | (rw [el_len]; kernel_rfl) | (rw [byts_len]; kernel_rfl) | (rw [us_len]; kernel_rfl) | (rw [bytn_len]; kernel_rfl) | (rw [ens_len, digs_len]; kernel_rfl) | (rw [ptL_len]; kernel_rfl) | (rw [pcs_len]; kernel_rfl) | kernel_rfl) ?_) | fail)
          refine (slot_any _ _ _ _ _ (h1.out.below kb)).mono ?_
          rintro e w4 ⟨rfl, hb4⟩
          have kb := bel kb hb4
          clear hb4 r1
          cases s1 : slotB m1 d1 t1 with
          | false =>
            go_wp2_with fail
            go_ret
            exact hno.out _ (fun h => by have := h.s1; simp only [s1] at this; cases this) kb
          | true =>
            have s1 := Lib.hid s1
            go_wp2_with fail
            go_ret
            exact ⟨_, rfl, by simp only [true_iff]; exact hmk2.out s0.out s1.out, kb⟩
      · by_cases q2 : m0.length = 0
        · have iw : ((m0.length : Nat) : Int) = 0 := by omega
          go_wp2_with fail
          go_ret
          exact hno.out _ (fun h => (h.a0 rfl).1 q2) kb
        have iw : ¬ ((m0.length : Nat) : Int) = 0 := by omega
        cases d0 with
        | false =>
          go_wp2_with fail
          go_ret
          exact hno.out _ (fun h => by have := (h.a0 rfl).2; simp at this) kb
        | true =>
          have hmk2 := Lib.hid (fun b0 b1 => hmk.out q1.out hlen (by decide) (by decide) hrv.out (fun _ => ⟨q2, rfl⟩) (fun h => absurd h (by decide)) b0 b1)
          clear hmk
          go_upto_region 11 with fail
          go_wp2_with (first | (refine wpList_load_mid2 rfl _ _ rfl _ _ rfl (by kernel_rfl) _ r0.out (by first | (rw [lims_len]; kernel_rfl) | (rw [el_rep]; kernel_rfl) | (rw [el_len]; kernel_rfl) | (rw [byts_len]; kernel_rfl) | (rw [us_len]; kernel_rfl) | (rw [bytn_len]; kernel_rfl) | (rw [ens_len, digs_len]; kernel_rfl) | (rw [ptL_len]; kernel_rfl) | (rw [pcs_len]; kernel_rfl) | kernel_rfl) ?_) | fail)
          refine (slot_any _ _ _ _ _ (h0.out.below kb)).mono ?_
          rintro e w3 ⟨rfl, hb3⟩
          have r1 := Lib.hid (cs_r1 (k1.out.below hb3))
          have kb := bel kb hb3
          clear hb3 x0 x1 x2 x3 x5 x6 x8 r0 k1
          cases s0 : slotB m0 true t0 with
          | false =>
            replace hmk2 := Lib.hid hmk2
            go_wp2_with fail
            go_ret
            exact hno.out _ (fun h => by have := h.s0; simp only [s0] at this; cases this) kb
          | true =>
            have s0 := Lib.hid s0
            go_wp2_with (first | (refine wpList_load_mid2 rfl _ _ rfl _ _ rfl (by kernel_rfl) _ r1.out (by first | (rw [lims_len]; kernel_rfl) | (rw [el_rep]; kernel_rfl) | (rw [el_len]; kernel_rfl) | (rw [byts_len]; kernel_rfl) | (rw [us_len]; kernel_rfl) | (rw [bytn_len]; kernel_rfl) | (rw [ens_len, digs_len]; kernel_rfl) | (rw [ptL_len]; kernel_rfl) | (rw [pcs_len]; kernel_rfl) | kernel_rfl) ?_) | fail)
            refine (slot_any _ _ _ _ _ (h1.out.below kb)).mono ?_
            rintro e w4 ⟨rfl, hb4⟩
            have kb := bel kb hb4
            clear hb4 r1
            cases s1 : slotB m1 d1 t1 with
            | false =>
              go_wp2_with fail
              go_ret
              exact hno.out _ (fun h => by have := h.s1; simp only [s1] at this; cases this) kb
            | true =>
              have s1 := Lib.hid s1
              go_wp2_with fail
              go_ret
              exact ⟨_, rfl, by simp only [true_iff]; exact hmk2.out s0.out s1.out, kb⟩
      · by_cases q2 : m1.length = 0
        · have iw : ((m1.length : Nat) : Int) = 0 := by omega
          go_wp2_with fail
          go_ret
          exact hno.out _ (fun h => (h.a1 rfl).1 q2) kb
        have iw : ¬ ((m1.length : Nat) : Int) = 0 := by omega
        cases d1 with
        | false =>
          go_wp2_with fail
          go_ret
          exact hno.out _ (fun h => by have := (h.a1 rfl).2; simp at this) kb
        | true =>
          have hmk2 := Lib.hid (fun b0 b1 => hmk.out q1.out hlen (by decide) (by decide) hrv.out (fun h => absurd h (by decide)) (fun _ => ⟨q2, rfl⟩) b0 b1)
          clear hmk
          go_upto_region 11 with fail
          go_wp2_with (first | (refine wpList_load_mid2 rfl _ _ rfl _ _ rfl (by kernel_rfl) _ r0.out (by first | (rw [lims_len]; kernel_rfl) | (rw [el_rep]; kernel_rfl) | (rw [el_len]; kernel_rfl) | (rw [byts_len]; kernel_rfl) | (rw [us_len]; kernel_rfl) | (rw [bytn_len]; kernel_rfl) | (rw [ens_len, digs_len]; kernel_rfl) | (rw [ptL_len]; kernel_rfl) | (rw [pcs_len]; kernel_rfl) | kernel_rfl) ?_) | fail)
          refine (slot_any _ _ _ _ _ (h0.out.below kb)).mono ?_
          rintro e w3 ⟨rfl, hb3⟩
          have r1 := Lib.hid (cs_r1 (k1.out.below hb3))
          have kb := bel kb hb3
          clear hb3 x0 x1 x2 x3 x5 x6 x8 r0 k1
          cases s0 : slotB m0 d0 t0 with
          | false =>
            replace hmk2 := Lib.hid hmk2
            go_wp2_with fail
            go_ret
            exact hno.out _ (fun h => by have := h.s0; simp only [s0] at this; cases this) kb
          | true =>
            have s0 := Lib.hid s0
            go_wp2_with (first | (refine wpList_load_mid2 rfl _ _ rfl _ _ rfl (by kernel_rfl) _ r1.out (by first | (rw [lims_len]; kernel_rfl) | (rw [el_rep]; kernel_rfl) | (rw [el_len]; kernel_rfl) | (rw [byts_len]; kernel_rfl) | (rw [us_len]; kernel_rfl) | (rw [bytn_len]; kernel_rfl) | (rw [ens_len, digs_len]; kernel_rfl) | (rw [ptL_len]; kernel_rfl) | (rw [pcs_len]; kernel_rfl) | kernel_rfl) ?_) | fail)
            refine (slot_any _ _ _ _ _ (h1.out.below kb)).mono ?_
            rintro e w4 ⟨rfl, hb4⟩
            have kb := bel kb hb4
            clear hb4 r1
            cases s1 : slotB m1 true t1 with
            | false =>
              go_wp2_with fail
              go_ret
              exact hno.out _ (fun h => by have := h.s1; simp only [s1] at this; cases this) kb
            | true =>
              have s1 := Lib.hid s1
              go_wp2_with fail
              go_ret
              exact ⟨_, rfl, by simp only [true_iff]; exact hmk2.out s0.out s1.out, kb⟩
end Go.Proofs.YtibdgkhkhmdihaaGreatDoor


namespace Go.Proofs.YtibdgkhkhmdihaaGreatDoor
open Go.RowKit
/-- The state of nothing. -/
def newS : Stt := ⟨0, [], [], false, 0, [], false, 0, -1⟩
def nilSv : Sv := ⟨.slice none 0 0, .slice none 0 0, .slice none 0 0⟩
def tgt (a : Int) : Int := if a = 0 then 1 else 0
theorem target_any (S : Stt) (v : Sv) (w : World) : Calls Tryz.prog 298 #[.agg (S.cs v).toArray] w fun e w' => e = .returned (.int .i64 (tgt S.act)) ∧ Below w.heap.size w w' := by
  obtain ⟨f, l, m0, d0, t0, m1, d1, t1, a⟩ := S
  simp only [Stt.cs, tgt]
  by_cases h : a = 0
  · rw [if_pos h]
    go_enter Tryz.func298, Tryz.ntmps298
    go_wp2_with fail
    go_ret
    exact ⟨rfl, below_alloc _ _⟩
  · rw [if_neg h]
    go_enter Tryz.func298, Tryz.ntmps298
    go_wp2_with fail
    go_ret
    exact ⟨rfl, below_alloc _ _⟩
end Go.Proofs.YtibdgkhkhmdihaaGreatDoor


namespace Go.Proofs.YtibdgkhkhmdihaaGreatDoor
open Go.RowKit
/-- May a state be? -/
noncomputable def mayB (S : Stt) : Bool := @decide (mayP S) (Classical.propDecidable _)
theorem mayB_iff (S : Stt) : mayB S = true ↔ mayP S := by unfold mayB; simp
theorem mayPost_b {S : Stt} {w : World} {e : Ending} {w' : World} (h : MayPost S w e w') : e = .returned (.bool (mayB S)) ∧ Below w.heap.size w w' := by
  obtain ⟨r, rfl, h1, h2⟩ := h
  refine ⟨?_, h2⟩
  rw [← mayB_iff] at h1
  rw [Bool.eq_iff_iff.2 h1]
theorem mayb_any (S : Stt) (v : Sv) (w : World) (h : StOk w S v) : Calls Tryz.prog 280 #[.agg (S.cs v).toArray] w fun e w' => e = .returned (.bool (mayB S)) ∧ Below w.heap.size w w' :=
  (may_any S v w h).mono fun _ _ h => mayPost_b h
/-- None of the lists lies in block g. -/
structure StOff (g : Nat) (v : Sv) : Prop where
  rv : v.rv.ownBlock ≠ some g
  m0 : v.m0.ownBlock ≠ some g
  m1 : v.m1.ownBlock ≠ some g
theorem StOwn.off {B g : Nat} {w : World} {S : Stt} {v : Sv} (h : StOwn B w S v) (hg : w.heap.size ≤ g) : StOff g v :=
  ⟨fun e => by have := (h.rv.lt g e).2; omega, fun e => by have := (h.m0.lt g e).2; omega, fun e => by have := (h.m1.lt g e).2; omega⟩
theorem StOwn.kept {B g : Nat} {w w' : World} {S : Stt} {v : Sv} (h : StOwn B w S v) (hg : w.grownBy w' (some g)) (ho : StOff g v) : StOwn B w' S v :=
  ⟨own_keptN h.rv hg ho.rv, own_keptN h.m0 hg ho.m0, own_keptN h.m1 hg ho.m1⟩
theorem StOwn.same {B : Nat} {w : World} {S S' : Stt} {v : Sv} (h : StOwn B w S v) (h1 : S'.rev = S.rev) (h2 : S'.m0 = S.m0) (h3 : S'.m1 = S.m1) : StOwn B w S' v := by
  obtain ⟨r, a, b⟩ := h
  exact ⟨by rw [h1]; exact r, by rw [h2]; exact a, by rw [h3]; exact b⟩
end Go.Proofs.YtibdgkhkhmdihaaGreatDoor


namespace Go.Proofs.YtibdgkhkhmdihaaGreatDoor
open Go.RowKit
theorem StOwn.grown {B g : Nat} {w w' : World} {S : Stt} {v : Sv} (h : StOwn B w S v) (hg : w.grownBy w' (some g)) (hb : g < B) : StOwn B w' S v := ⟨own_grown h.rv hg hb, own_grown h.m0 hg hb, own_grown h.m1 hg hb⟩
end Go.Proofs.YtibdgkhkhmdihaaGreatDoor


namespace Go.Proofs.YtibdgkhkhmdihaaGreatDoor
open Go.RowKit
/-- Which slot is started, and whether it is a trial. -/
noncomputable def pickS (S : Stt) (b0 b1 : Bool) : Int × Bool :=
  if mayB S = true then
    (if S.act = 0 then (if (S.d1 && decide (S.t1 < 3) && b1) = true then (1, true) else if b0 = true then (0, false) else (-1, false))
    else if S.act = 1 then (if (S.d0 && decide (S.t0 < 3) && b0) = true then (0, true) else if b1 = true then (1, false) else (-1, false))
    else (if (S.d0 && decide (S.t0 < 3) && b0) = true then (0, true) else (-1, false)))
  else (-1, false)
theorem tup2 {a a' : Int} {b b' : Bool} {p : Int × Bool} (h : p = (a, b)) (h1 : a' = a) (h2 : b' = b) : Ending.returned (.tuple #[.int .i64 a', .bool b']) = .returned (.tuple #[.int .i64 p.1, .bool p.2]) := by rw [h, h1, h2]
set_option maxHeartbeats 4000000 in
set_option maxRecDepth 100000 in
theorem pick_any (S : Stt) (v : Sv) (b0 b1 : Bool) (w : World) (h : StOk w S v) : Calls Tryz.prog 260 #[.agg (S.cs v).toArray, .agg #[.bool b0, .bool b1]] w fun e w' => e = .returned (.tuple #[.int .i64 (pickS S b0 b1).1, .bool (pickS S b0 b1).2]) ∧ Below w.heap.size w w' := by
  have ho := Lib.hid h
  clear h
  obtain ⟨pp, hpp⟩ : ∃ p, pickS S b0 b1 = p := ⟨_, rfl⟩
  rw [hpp]
  replace hpp := Lib.hid hpp
  go_enter Tryz.func260, Tryz.ntmps260
  go_upto_region 1 with fail
  refine wp_new2 (fun W hsz k1 k2 kb => ?_)
  have k1 : Arr W w.heap.size (S.cs v) := k1
  have k2 : Arr W (w.heap.size + 1) [.bool b0, .bool b1] := k2
  clear hsz
  replace k2 := Lib.hid k2
  go_wp2_with (first | (refine wpList_load_arr2 rfl _ _ rfl _ rfl (by decide +kernel) _ (by assumption) (by first | (rw [lims_len]; kernel_rfl) | (rw [el_rep]; kernel_rfl) | (rw [el_len]; kernel_rfl) | (rw [byts_len]; kernel_rfl) | (rw [us_len]; kernel_rfl) | (rw [bytn_len]; kernel_rfl) | (rw [ens_len, digs_len]; kernel_rfl) | (rw [ptL_len]; kernel_rfl) | (rw [pcs_len]; kernel_rfl) | kernel_rfl) ?_) | fail)
  refine (mayb_any S v _ (ho.out.below kb)).mono ?_
  rintro e w1 ⟨he, hb⟩
  have k1 := k1.below hb
  have k2 := k2.out.below hb
  have kb := bel kb hb
  clear hb
  cases hm : mayB S with
  | false =>
    have hp : Hid (pp = (-1, false)) := Lib.hid (by rw [← hpp.out]; unfold pickS; rw [hm]; rfl)
    rw [hm] at he
    subst he
    clear hm k1 k2 hpp
    go_wp2_with fail
    go_ret2
    exact ⟨tup2 hp.out rfl rfl, kb⟩
  | true =>
    rw [hm] at he
    subst he
    have hmp := (mayB_iff S).1 hm
    have hlo := hmp.lo
    have hhi := hmp.hi
    have hpk := hpp.out
    unfold pickS at hpk
    rw [if_pos hm] at hpk
    replace hpk := Lib.hid hpk
    replace hm := Lib.hid hm
    clear hmp hpp
    replace k2 := Lib.hid k2
    go_wp2_with (first | (refine wpList_load_arr2 rfl _ _ rfl _ rfl (by decide +kernel) _ (by assumption) (by first | (rw [lims_len]; kernel_rfl) | (rw [el_rep]; kernel_rfl) | (rw [el_len]; kernel_rfl) | (rw [byts_len]; kernel_rfl) | (rw [us_len]; kernel_rfl) | (rw [bytn_len]; kernel_rfl) | (rw [ens_len, digs_len]; kernel_rfl) | (rw [ptL_len]; kernel_rfl) | (rw [pcs_len]; kernel_rfl) | kernel_rfl) ?_) | fail)
    refine (target_any S v _).mono ?_
    rintro e w2 ⟨he, hb⟩
    have k1 := k1.below hb
    have k2 := k2.out.below hb
    have kb := bel kb hb
    clear hb
    obtain ⟨f, l, m0, d0, t0, m1, d1, t1, a⟩ := S
    simp only at hlo hhi hpk he
    have ha : a = -1 ∨ a = 0 ∨ a = 1 := by omega
    clear hlo hhi
    rcases ha with rfl | rfl | rfl
    all_goals
      (have x3 := k1.cell (j := 3) rfl)
      (have x4 := k1.cell (j := 4) rfl)
      (have x6 := k1.cell (j := 6) rfl)
      (have x7 := k1.cell (j := 7) rfl)
      (have x8 := k1.cell (j := 8) rfl)
      (have y0 := k2.cell (j := 0) rfl)
      (have y1 := k2.cell (j := 1) rfl)
      (simp only at x3 x4 x6 x7 x8)
      (clear k1 k2)
    · replace he : e = .returned (.int .i64 0) := he
      subst he
      have hp := hpk.out
      by_cases ht : t0 < 3
      · simp only [ht] at hp
        clear hpk
        cases d0 <;> cases b0 <;> cases b1 <;> simp at hp <;> replace hp := Lib.hid hp.symm
        all_goals
          go_wp2_with fail
          go_ret2
          exact ⟨tup2 hp.out rfl rfl, kb⟩
      · simp only [ht] at hp
        clear hpk
        cases d0 <;> cases b0 <;> cases b1 <;> simp at hp <;> replace hp := Lib.hid hp.symm
        all_goals
          go_wp2_with fail
          go_ret2
          exact ⟨tup2 hp.out rfl rfl, kb⟩
    · replace he : e = .returned (.int .i64 1) := he
      subst he
      have hp := hpk.out
      by_cases ht : t1 < 3
      · simp only [ht] at hp
        clear hpk
        cases d1 <;> cases b0 <;> cases b1 <;> simp at hp <;> replace hp := Lib.hid hp.symm
        all_goals
          go_wp2_with fail
          go_ret2
          exact ⟨tup2 hp.out rfl rfl, kb⟩
      · simp only [ht] at hp
        clear hpk
        cases d1 <;> cases b0 <;> cases b1 <;> simp at hp <;> replace hp := Lib.hid hp.symm
        all_goals
          go_wp2_with fail
          go_ret2
          exact ⟨tup2 hp.out rfl rfl, kb⟩
    · replace he : e = .returned (.int .i64 0) := he
      subst he
      have hp := hpk.out
      by_cases ht : t0 < 3
      · simp only [ht] at hp
        clear hpk
        cases d0 <;> cases b0 <;> cases b1 <;> simp at hp <;> replace hp := Lib.hid hp.symm
        all_goals
          go_wp2_with fail
          go_ret2
          exact ⟨tup2 hp.out rfl rfl, kb⟩
      · simp only [ht] at hp
        clear hpk
        cases d0 <;> cases b0 <;> cases b1 <;> simp at hp <;> replace hp := Lib.hid hp.symm
        all_goals
          go_wp2_with fail
          go_ret2
          exact ⟨tup2 hp.out rfl rfl, kb⟩
end Go.Proofs.YtibdgkhkhmdihaaGreatDoor

