/- pack's cursor: Raw, where the bytes are there. -/
import Derived.Test.YtkipejhjpfakpaaCu2
namespace Go.Proofs.Ytkipejhjpfakpaa
open Go.RowKit

theorem Sl.take {w : World} {b o n cap m : Nat} {bs : List UInt8} (hm : m ≤ n) (hn : bs.length = n) (hc : n ≤ cap) (hx : cap ≤ maxLen) (h : ∀ j u, (u8s bs)[j]? = some u → w.cell? ⟨b, o + j, none⟩ = some u) :
    Sl w (.slice (some ⟨b, o, none⟩) m cap) (u8s (bs.take m)) := by
  have hl : (bs.take m).length = m := by rw [List.length_take]; omega
  refine ⟨some ⟨b, o, none⟩, cap, by rw [u8s_len, hl], by rw [u8s_len, hl]; omega, hx, fun h => (by cases h), fun x hx => ?_⟩
  cases hx
  intro j u hu
  rw [Addr.add_lit]
  refine h j u ?_
  have hj : j < m := by
    have := (List.getElem?_eq_some_iff.1 hu).1
    rwa [u8s_len, hl] at this
  rw [← hu]
  simp [u8s, hj]

set_option maxHeartbeats 1000000 in
set_option maxRecDepth 100000 in
theorem raw_nil (g : Nat) (w : World) (h0 : w.cell? ⟨g, 0, none⟩ = some (.slice none 0 0)) (h1 : w.cell? ⟨g, 1, none⟩ = some (.bool false)) (f0 : w.frozen? ⟨g, 0, none⟩ = false) :
    Calls Try.prog 53 #[.pointer (some ⟨g, 0, none⟩), .int .i64 0] w fun e w' => e = .returned (.slice none 0 0) ∧ w' = w.setCell ⟨g, 0, none⟩ (.slice none 0 0) := by
  go_enter Try.func53, Try.ntmps53
  go_wp2_with fail
  refine wp_scope_none ?_
  go_wp2_with fail
  refine (clone_nil w).mono ?_
  rintro e w1 ⟨rfl, rfl⟩
  go_wp2_with fail
  try rw [Exit.noGoto_ret]
  go_ret
  exact ⟨rfl, rfl⟩

/-- What Raw leaves: the bytes, in memory of their own; the rest in the cursor. -/
def RawPost (w : World) (g b o cap m : Nat) (rest : List UInt8) (e : Ending) (w' : World) : Prop :=
  ∃ v w1 ao, e = .returned v ∧ w1.ownsRow w.heap.size 5 1 v m (u8s (rest.take m)) ∧ Below w.heap.size w w1 ∧ (m < rest.length → ao = some ⟨b, o + m, none⟩) ∧ (∃ o', ao = some ⟨b, o', none⟩) ∧
      w' = w1.setCell ⟨g, 0, none⟩ (.slice ao (rest.length - m) (cap - m))

set_option maxHeartbeats 1000000 in
set_option maxRecDepth 100000 in
theorem raw_some (g b o cap m : Nat) (rest : List UInt8) (w : World) (h0 : w.cell? ⟨g, 0, none⟩ = some (.slice (some ⟨b, o, none⟩) rest.length cap)) (h1 : w.cell? ⟨g, 1, none⟩ = some (.bool false)) (f0 : w.frozen? ⟨g, 0, none⟩ = false)
    (hc : rest.length ≤ cap) (hx : cap ≤ maxLen) (hm : m ≤ rest.length) (hr : rest.length ≤ 140737488355328) (hcs : Hid (∀ j u, (u8s rest)[j]? = some u → w.cell? ⟨b, o + j, none⟩ = some u)) :
    Calls Try.prog 53 #[.pointer (some ⟨g, 0, none⟩), .int .i64 m] w (RawPost w g b o cap m rest) := by
  have hlt := World.block_lt_of_cell? w _ h0
  have hs := Lib.hid (Sl.take hm rfl hc hx hcs.out)
  have e1 : (0 : Int) ≤ (m : Int) := by omega
  have e2 : (m : Int) ≤ (rest.length : Int) := by omega
  have e3 : (rest.length : Int) ≤ (cap : Int) := by omega
  go_enter Try.func53, Try.ntmps53
  go_wp2_with fail
  refine wp_scope_none ?_
  go_wp2_with fail
  refine (clone_any _ (rest.take m) w hs.out (by rw [List.length_take]; omega)).mono ?_
  rintro e w1 ⟨v1, rfl, hown, hbel, -⟩
  have g0 := hbel.cell (p := ⟨g, 0, none⟩) hlt
  have g1 := hbel.frozen (p := ⟨g, 0, none⟩) hlt
  have hown' := Lib.hid hown
  clear hown
  go_wp2_with fail
  all_goals (try rw [Exit.noGoto_ret])
  all_goals go_ret
  · refine ⟨v1, w1, some ⟨b, o, none⟩, rfl, ?_, hbel, fun h => by omega, ⟨o, rfl⟩, by simp⟩
    have := hown'.out
    rwa [List.length_take, Nat.min_eq_left hm] at this
  · refine ⟨v1, w1, some ⟨b, o + m, none⟩, rfl, ?_, hbel, fun h => rfl, ⟨o + m, rfl⟩, rfl⟩
    have := hown'.out
    rwa [List.length_take, Nat.min_eq_left hm] at this

/-- What is read when so many bytes are wanted; what is left; whether the cursor is bad. -/
def rawS (rest : List UInt8) (bad : Bool) (n : Int) : List UInt8 × List UInt8 × Bool :=
  if bad = true then ([], rest, true) else if n < 0 ∨ (rest.length : Int) < n then ([], [], true) else (rest.take n.toNat, rest.drop n.toNat, false)

/-- A method's end: a list of bytes of its own, the cursor's block alone written. -/
def CurPost (w : World) (g : Nat) (r : List UInt8 × List UInt8 × Bool) (e : Ending) (w' : World) : Prop :=
  ∃ v, e = .returned v ∧ w'.ownsRow w.heap.size 5 1 v r.1.length (u8s r.1) ∧ w.grownBy w' (some g) ∧ Cur w' g r.2.1 r.2.2

theorem own_set {w : World} {base : Nat} {e : TypeId} {size : Nat} {v : Value} {n : Nat} {xs : List Value} {g o : Nat} {u : Value} (h : w.ownsRow base e size v n xs) (hg : g < base) : (w.setCell ⟨g, o, none⟩ u).ownsRow base e size v n xs :=
  ownsRow_setCell_below h (by simpa using hg) u

theorem raw_any (g : Nat) (rest : List UInt8) (bad : Bool) (n : Int) (w : World) (hc : Cur w g rest bad) (hr : rest.length ≤ 140737488355328) :
    Calls Try.prog 53 #[.pointer (some ⟨g, 0, none⟩), .int .i64 n] w (CurPost w g (rawS rest bad n)) := by
  cases bad with
  | true =>
    refine (raw_bad g rest n w hc).mono ?_
    rintro e w' ⟨rfl, rfl⟩
    exact ⟨_, rfl, World.ownsRow_nil _ _ _ _, World.grownBy.refl _ _, hc⟩
  | false =>
    by_cases hn : n < 0 ∨ (rest.length : Int) < n
    · refine (raw_no g rest n w hc hn).mono ?_
      rintro e w' ⟨rfl, h1, h2⟩
      have e1 : rawS rest false n = ([], [], true) := by simp [rawS, hn]
      rw [e1]
      exact ⟨_, rfl, World.ownsRow_nil _ _ _ _, h1, h2⟩
    · have e1 : rawS rest false n = (rest.take n.toNat, rest.drop n.toNat, false) := by simp [rawS, hn]
      rw [e1]
      obtain ⟨m, rfl⟩ : ∃ m : Nat, n = m := ⟨n.toNat, by omega⟩
      have hm : m ≤ rest.length := by omega
      have hlt := hc.lt
      obtain ⟨v, h0, h1, f0, f1, hb⟩ := hc
      rcases hb with ⟨rfl, rfl⟩ | ⟨b, o, cap, rfl, h2, h3, h4, h5, h6⟩
      · obtain rfl : m = 0 := by simpa using hm
        refine (raw_nil g w h0 h1 f0).mono ?_
        rintro e w' ⟨rfl, rfl⟩
        refine ⟨_, rfl, World.ownsRow_nil _ _ _ _, grownBy_set (World.grownBy.refl _ _), .slice none 0 0, ?_, ?_, ?_, ?_, .inl ⟨rfl, rfl⟩⟩
        · rw [World.cell?_setCell_same _ _ _ h0]
        · rw [World.cell?_setCell_other _ _ _ _ (by simp)]; exact h1
        · rw [World.frozen?_setCell]; exact f0
        · rw [World.frozen?_setCell]; exact f1
      · refine (raw_some g b o cap m rest w h0 h1 f0 h2 h3 hm hr h6).mono ?_
        rintro e w' ⟨v, w1, ao, rfl, k1, k2, k3, ⟨o', k4⟩, rfl⟩
        simp only [Int.toNat_natCast]
        have hg1 : w1.cell? ⟨g, 0, none⟩ = some (.slice (some ⟨b, o, none⟩) rest.length cap) := by rw [k2.cell (p := ⟨g, 0, none⟩) hlt]; exact h0
        have hlen : (rest.drop m).length = rest.length - m := List.length_drop
        refine ⟨v, rfl, ?_, grownBy_set (below_grownBy k2 _), .slice ao (rest.length - m) (cap - m), ?_, ?_, ?_, ?_, .inr ⟨b, o', cap - m, by rw [k4, hlen], by show (rest.drop m).length ≤ _; omega, by unfold maxLen at *; omega, h4, ?_, ?_⟩⟩
        · rw [List.length_take, Nat.min_eq_left hm]; exact own_set k1 hlt
        · rw [World.cell?_setCell_same _ _ _ hg1]
        · rw [World.cell?_setCell_other _ _ _ _ (by simp), k2.cell (p := ⟨g, 1, none⟩) hlt]; exact h1
        · rw [World.frozen?_setCell, k2.frozen (p := ⟨g, 0, none⟩) hlt]; exact f0
        · rw [World.frozen?_setCell, k2.frozen (p := ⟨g, 1, none⟩) hlt]; exact f1
        · have := k2.size; simp only [World.setCell, Array.size_modify]; omega
        · intro j u hu
          have hj : j < rest.length - m := by
            have := (List.getElem?_eq_some_iff.1 hu).1
            rwa [u8s_len, hlen] at this
          have e2 := k3 (by omega)
          rw [k4] at e2
          cases e2
          rw [World.cell?_setCell_other _ _ _ _ (by simp), k2.cell (p := ⟨b, o + m + j, none⟩) h5, Nat.add_assoc]
          refine h6 (m + j) u ?_
          rw [← hu]
          simp [u8s]

end Go.Proofs.Ytkipejhjpfakpaa
