/- Kinds of a pool's values: slices. -/
import Derived.Test.YtkipejhjpfakpaaGr
namespace Go.Proofs.Ytkipejhjpfakpaa
open Go.RowKit

theorem Sls.new1 {w : World} {v : Value} {b : List UInt8} (h : Sl w v (u8s b)) (T : TypeId) : Sls (w.alloc (.cells #[v] T)) (.slice (some ⟨w.heap.size, 0, none⟩) 1 1) [b] := by
  refine ⟨[v], Sl.new1 _ _ _, rfl, ?_⟩
  intro j a b' ha hb'
  match j with
  | 0 =>
    simp only [List.getElem?_cons_zero, Option.some.injEq] at ha hb'
    subst ha hb'
    exact h.alloc _
  | j + 1 => simp at ha
def Ph.sl (n : Nat) (xs : List Value) : Ph := ⟨fun v w => ∃ d, v = .slice d n n ∧ Sl w v xs, fun _ _ _ ⟨d, h1, h2⟩ hb => ⟨d, h1, h2.below hb⟩, false, fun h => by cases h⟩
def Ph.sls (n : Nat) (ls : List (List UInt8)) : Ph := ⟨fun v w => ∃ d, v = .slice d n n ∧ Sls w v ls, fun _ _ _ ⟨d, h1, h2⟩ hb => ⟨d, h1, h2.below hb⟩, false, fun h => by cases h⟩

end Go.Proofs.Ytkipejhjpfakpaa
