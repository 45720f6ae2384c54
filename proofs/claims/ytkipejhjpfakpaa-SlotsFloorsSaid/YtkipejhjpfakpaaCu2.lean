/- pack's cursor: Raw. -/
import Derived.Test.YtkipejhjpfakpaaCu1
import Derived.Test.YtkipejhjpfakpaaJmp
namespace Go.Proofs.Ytkipejhjpfakpaa
open Go.RowKit

set_option maxHeartbeats 1000000 in
set_option maxRecDepth 100000 in
theorem raw_bad (g : Nat) (rest : List UInt8) (n : Int) (w : World) (hc : Cur w g rest true) :
    Calls Try.prog 53 #[.pointer (some ⟨g, 0, none⟩), .int .i64 n] w fun e w' => e = .returned (.slice none 0 0) ∧ w' = w := by
  obtain ⟨v, h0, h1, f0, f1, -⟩ := hc
  go_enter Try.func53, Try.ntmps53
  go_wp2_with fail
  go_step3
  go_wp2_with fail
  try rw [Exit.noGoto_ret]
  go_ret
  exact ⟨rfl, rfl⟩

theorem cur_gone {w : World} {g : Nat} {v : Value} {bad : Bool} (h0 : w.cell? ⟨g, 0, none⟩ = some v) (h1 : w.cell? ⟨g, 1, none⟩ = some (.bool bad)) (f0 : w.frozen? ⟨g, 0, none⟩ = false) (f1 : w.frozen? ⟨g, 1, none⟩ = false) :
    w.grownBy ((w.setCell ⟨g, 0, none⟩ (.slice none 0 0)).setCell ⟨g, 1, none⟩ (.bool true)) (some g) ∧ Cur ((w.setCell ⟨g, 0, none⟩ (.slice none 0 0)).setCell ⟨g, 1, none⟩ (.bool true)) g [] true := by
  have h1' : (w.setCell ⟨g, 0, none⟩ (.slice none 0 0)).cell? ⟨g, 1, none⟩ = some (.bool bad) := by
    rw [World.cell?_setCell_other _ _ _ _ (by simp)]; exact h1
  refine ⟨grownBy_set (grownBy_set (World.grownBy.refl _ _)), .slice none 0 0, ?_, ?_, ?_, ?_, .inl ⟨rfl, rfl⟩⟩
  · rw [World.cell?_setCell_other _ _ _ _ (by simp), World.cell?_setCell_same _ _ _ h0]
  · rw [World.cell?_setCell_same _ _ _ h1']
  · rw [World.frozen?_setCell, World.frozen?_setCell]; exact f0
  · rw [World.frozen?_setCell, World.frozen?_setCell]; exact f1

set_option maxHeartbeats 1000000 in
set_option maxRecDepth 100000 in
theorem raw_no (g : Nat) (rest : List UInt8) (n : Int) (w : World) (hc : Cur w g rest false) (hn : n < 0 ∨ (rest.length : Int) < n) :
    Calls Try.prog 53 #[.pointer (some ⟨g, 0, none⟩), .int .i64 n] w fun e w' => e = .returned (.slice none 0 0) ∧ w.grownBy w' (some g) ∧ Cur w' g [] true := by
  obtain ⟨v, h0, h1, f0, f1, hb⟩ := hc
  have hsh : ∃ a c, v = .slice a rest.length c := by rcases hb with ⟨rfl, rfl⟩ | ⟨b, o, cap, rfl, _⟩ <;> exact ⟨_, _, rfl⟩
  obtain ⟨a, c, rfl⟩ := hsh
  clear hb
  have hlt := World.block_lt_of_cell? w _ h0
  by_cases hneg : n < 0
  · clear hn
    go_enter Try.func53, Try.ntmps53
    go_wp2_with fail
    refine wp_scope_fwd 0 ?A1 ?W1 rfl ?first1 ?pass1
    case first1 =>
      go_wp2_with fail
      go_step3
      exact jump_at
    case pass1 =>
      go_wp2_with fail
      try rw [Exit.noGoto_ret]
      go_ret
      exact ⟨rfl, cur_gone h0 h1 f0 f1⟩
  · have hbig : (rest.length : Int) < n := hn.resolve_left hneg
    clear hn
    go_enter Try.func53, Try.ntmps53
    go_wp2_with fail
    refine wp_scope_fwd 0 ?A2 ?W2 rfl ?first2 ?pass2
    case first2 =>
      go_wp2_with fail
      go_step3
      exact jump_at
    case pass2 =>
      go_wp2_with fail
      try rw [Exit.noGoto_ret]
      go_ret
      exact ⟨rfl, cur_gone h0 h1 f0 f1⟩

end Go.Proofs.Ytkipejhjpfakpaa
