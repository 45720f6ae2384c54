/- A jump forward: from one state, once. -/
import Derived.Test.YtkipejhjpfakpaaMem
import Derived.ScopeJumps
namespace Go.Proofs.Ytkipejhjpfakpaa

section
variable {P : Program} {a : Act} {w : World} {Q : Exit → Act → World → Prop}

theorem jump_at {l : Nat} {A : Act} {W : World} : l = l ∧ A = A ∧ W = W := ⟨rfl, rfl, rfl⟩

/-- A scope that is left by a jump to one of its labels, once, from the state A, W. -/
theorem wp_scope_fwd {c rest : Code} (l : Nat) (A : Act) (W : World) (hf : findLabel c l = some rest) (first : c.wp P (Exit.jump l (fun a' w' => a' = A ∧ w' = W) Q) a w)
    (pass : rest.wp P (Exit.noGoto Q) A W) : (Code.scope c).wp P Q a w := by
  refine wp_scope_jumps l (fun a' w' => a' = A ∧ w' = W) (fun _ _ => 0) hf first ?_
  rintro a' w' ⟨rfl, rfl⟩
  refine Code.wp_mono ?_ pass
  intro e a w h
  cases e <;> first | exact h | exact (h : False).elim

/-- A scope through which the run goes without a jump. -/
theorem wp_scope_none {c : Code} (h : c.wp P (Exit.noGoto Q) a w) : (Code.scope c).wp P Q a w := wp_scope_straight h
end
end Go.Proofs.Ytkipejhjpfakpaa
