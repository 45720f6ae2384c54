/- slots: states as plain values; number, slot, small. -/
import Derived.Test.YtkipejhjpfakpaaMd
import Derived.Test.YtkipejhjpfakpaaCu7
import Derived.Test.YtkipejhjpfakpaaPk5
import Derived.Deep.CutRange
import Derived.Deep.CutBlock
import Derived.StillTailTactics
namespace Go.Proofs.Ytkipejhjpfakpaa
open Go.RowKit

/-- A state. -/
structure Stt where
  floor : Int
  rev : List Int
  m0 : List UInt8
  d0 : Bool
  t0 : Int
  m1 : List UInt8
  d1 : Bool
  t1 : Int
  act : Int

/-- Where its lists lie. -/
structure Sv where
  rv : Value
  m0 : Value
  m1 : Value

def ints (l : List Int) : List Value := l.map (.int .i64)
theorem ints_len (l : List Int) : (ints l).length = l.length := by simp [ints]
theorem ints_get {l : List Int} {j : Nat} (h : j < l.length) : (ints l)[j]? = some (.int .i64 l[j]) := by simp [ints, h]
theorem ints_one (l : List Int) : ∀ u ∈ ints l, u.oneCell' = true := by
  intro u hu
  simp only [ints, List.mem_map] at hu
  obtain ⟨x, -, rfl⟩ := hu
  rfl

/-- Its cells. -/
def Stt.cs (S : Stt) (v : Sv) : List Value := [.int .i64 S.floor, v.rv, v.m0, .bool S.d0, .int .i64 S.t0, v.m1, .bool S.d1, .int .i64 S.t1, .int .i64 S.act]

/-- The lists lie there. -/
structure StOk (w : World) (S : Stt) (v : Sv) : Prop where
  rv : Sl w v.rv (ints S.rev)
  m0 : Sl w v.m0 (u8s S.m0)
  m1 : Sl w v.m1 (u8s S.m1)
theorem StOk.below {w w' : World} {S : Stt} {v : Sv} (h : StOk w S v) (hb : Below w.heap.size w w') : StOk w' S v := ⟨h.rv.below hb, h.m0.below hb, h.m1.below hb⟩

/-- They lie in memory of their own, from B on. -/
structure StOwn (B : Nat) (w : World) (S : Stt) (v : Sv) : Prop where
  rv : w.ownsRow B 3 1 v.rv S.rev.length (ints S.rev)
  m0 : w.ownsRow B 5 1 v.m0 S.m0.length (u8s S.m0)
  m1 : w.ownsRow B 5 1 v.m1 S.m1.length (u8s S.m1)
theorem StOwn.ok {B : Nat} {w : World} {S : Stt} {v : Sv} (h : StOwn B w S v) : StOk w S v := ⟨Sl.of_own h.rv, Sl.of_own h.m0, Sl.of_own h.m1⟩
theorem StOwn.below {B : Nat} {w w' : World} {S : Stt} {v : Sv} (h : StOwn B w S v) (hb : Below w.heap.size w w') : StOwn B w' S v := ⟨own_below h.rv hb, own_below h.m0 hb, own_below h.m1 hb⟩
theorem StOwn.mono {B B' : Nat} {w : World} {S : Stt} {v : Sv} (h : StOwn B w S v) (hb : B' ≤ B) : StOwn B' w S v := ⟨own_mono h.rv hb, own_mono h.m0 hb, own_mono h.m1 hb⟩

/-- Its cells are one cell each. -/
theorem StOk.one {w : World} {S : Stt} {v : Sv} (h : StOk w S v) : ∀ u ∈ S.cs v, u.oneCell' = true := by
  obtain ⟨⟨_, _, h1, -⟩, ⟨_, _, h2, -⟩, ⟨_, _, h3, -⟩⟩ := h
  intro u hu
  simp only [Stt.cs, List.mem_cons, List.not_mem_nil, or_false] at hu
  rcases hu with rfl | rfl | rfl | rfl | rfl | rfl | rfl | rfl | rfl <;> first | rfl | (rw [h1]; rfl) | (rw [h2]; rfl) | (rw [h3]; rfl)
theorem cs_len (S : Stt) (v : Sv) : (S.cs v).length = 9 := rfl

def numB (n : Int) : Bool := decide (0 ≤ n) && decide (n ≤ 2147483647)
theorem numB_iff {n : Int} : numB n = true ↔ 0 ≤ n ∧ n ≤ 2147483647 := by simp [numB]
def slotB (m : List UInt8) (d : Bool) (t : Int) : Bool := if m.length = 0 then (!d && decide (t = 0)) else (decide ((m.length : Int) = 300) && decide (0 ≤ t) && decide (t ≤ 3))
def revP (l : List Int) (j : Nat) : Prop := ∀ i (h : i < l.length), i < j → numB l[i] = true ∧ ∀ h0 : 0 < i, l[i - 1] < l[i]
/-- A state that may be. -/
structure mayP (S : Stt) : Prop where
  floor : numB S.floor = true
  len : S.rev.length ≤ 32
  lo : -1 ≤ S.act
  hi : S.act ≤ 1
  rev : revP S.rev S.rev.length
  a0 : S.act = 0 → S.m0.length ≠ 0 ∧ S.d0 = true
  a1 : S.act = 1 → S.m1.length ≠ 0 ∧ S.d1 = true
  s0 : slotB S.m0 S.d0 S.t0 = true
  s1 : slotB S.m1 S.d1 S.t1 = true

theorem ret_bool {a b : Bool} (h : a = true ↔ b = true) : Ending.returned (.bool a) = .returned (.bool b) := by rw [Bool.eq_iff_iff.2 h]

theorem number_any (n : Int) (w : World) : Calls Try.prog 45 #[.int .i64 n] w fun e w' => e = .returned (.bool (numB n)) ∧ w' = w := by
  unfold numB
  by_cases h : 0 ≤ n
  · go_enter Try.func45, Try.ntmps45
    go_wp2_with fail
    go_ret
    exact ⟨by simp; omega, rfl⟩
  · go_enter Try.func45, Try.ntmps45
    go_wp2_with fail
    go_ret
    exact ⟨by simp; omega, rfl⟩

theorem small_any (n : Int) (w : World) : Calls Try.prog 37 #[.int .i64 n] w fun e w' => e = .returned (.bool (numB n)) ∧ w' = w := by
  unfold numB
  by_cases h : 0 ≤ n
  · go_enter Try.func37, Try.ntmps37
    go_wp2_with fail
    go_ret
    exact ⟨by simp; omega, rfl⟩
  · go_enter Try.func37, Try.ntmps37
    go_wp2_with fail
    go_ret
    exact ⟨by simp; omega, rfl⟩

theorem slot_any (v : Value) (m : List UInt8) (d : Bool) (t : Int) (w : World) (hm : Sl w v (u8s m)) :
    Calls Try.prog 46 #[.agg #[v, .bool d, .int .i64 t]] w fun e w' => e = .returned (.bool (slotB m d t)) ∧ Below w.heap.size w w' := by
  obtain ⟨x, cap, rfl, h2, h3, -, -⟩ := hm
  rw [u8s_len] at *
  unfold maxLen at h3
  by_cases h : m.length = 0
  · have hr : slotB m d t = (!d && decide (t = 0)) := by unfold slotB; rw [if_pos h]
    rw [hr]
    have iw : ((m.length : Nat) : Int) = 0 := by omega
    rw [h]
    go_enter Try.func46, Try.ntmps46
    go_upto_region 1 with fail
    refine wp_new1 (fun W hsz k1 kb => ?_)
    have e1 := k1.cell (j := 0) rfl
    have e2 := k1.cell (j := 1) rfl
    have e3 := k1.cell (j := 2) rfl
    clear hsz
    cases d with
    | true =>
      go_wp2_with fail
      go_ret
      exact ⟨rfl, kb⟩
    | false =>
      go_wp2_with fail
      go_ret
      exact ⟨ret_bool (by simp), kb⟩
  · have hr : slotB m d t = (decide ((m.length : Int) = 300) && decide (0 ≤ t) && decide (t ≤ 3)) := by unfold slotB; rw [if_neg h]
    rw [hr]
    have iw : ¬ ((m.length : Nat) : Int) = 0 := by omega
    generalize m.length = n at *
    clear hr h
    go_enter Try.func46, Try.ntmps46
    go_upto_region 1 with fail
    refine wp_new1 (fun W hsz k1 kb => ?_)
    have e1 := k1.cell (j := 0) rfl
    have e2 := k1.cell (j := 1) rfl
    have e3 := k1.cell (j := 2) rfl
    clear hsz
    by_cases c1 : (n : Int) = 300
    · by_cases c2 : 0 ≤ t
      · go_wp2_with fail
        go_ret
        exact ⟨ret_bool (by simp; try omega), kb⟩
      · go_wp2_with fail
        go_ret
        exact ⟨ret_bool (by simp; try omega), kb⟩
    · go_wp2_with fail
      go_ret
      exact ⟨ret_bool (by simp; try omega), kb⟩

end Go.Proofs.Ytkipejhjpfakpaa
