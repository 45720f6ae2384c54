/- A cell that a drawn region stores last. -/
import Derived.Test.YtdggikbaemigbaaTx
namespace Go.Proofs.Ytdggikbaemigbaa
open Go.RowKit

section
variable {K : Act → World → Prop} {Q : Exit → Act → World → Prop} {e : Exit} {a : Act} {w : World} {g j : Nat} {xs : List Value} {u : Value}
theorem drew_cell (hg : Arr w.drew g xs) {G : World → Prop}
    (h : ∀ W, Arr W g (xs.set j u) → (∀ k zs, k ≠ g → Arr w.drew k zs → Arr W k zs) → (∀ n w0, n ≤ g → Below n w0 w.drew → Below n w0 W) → G W) : G (w.setCell ⟨g, j, none⟩ u).drew := by
  rw [← World.setCell_drew]
  exact h _ (hg.set j u) (fun _ _ hk h => h.other (a := ⟨g, j, none⟩) hk _) (fun _ _ hn h => h.setCell (p := ⟨g, j, none⟩) hn _)
theorem then_cellD (hg : Arr w.drew g xs)
    (h : ∀ W, Arr W g (xs.set j u) → (∀ k zs, k ≠ g → Arr w.drew k zs → Arr W k zs) → (∀ n w0, n ≤ g → Below n w0 w.drew → Below n w0 W) → Exit.then K Q e a W) : Exit.then K Q e a (w.setCell ⟨g, j, none⟩ u).drew :=
  drew_cell (G := fun W => Exit.then K Q e a W) hg h
theorem inb_cellD {n : Nat} {R : Exit → Act → World → Prop} (hg : Arr w.drew g xs)
    (h : ∀ W, Arr W g (xs.set j u) → (∀ k zs, k ≠ g → Arr w.drew k zs → Arr W k zs) → (∀ n w0, n ≤ g → Below n w0 w.drew → Below n w0 W) → Exit.inBlock n R e a W) : Exit.inBlock n R e a (w.setCell ⟨g, j, none⟩ u).drew :=
  drew_cell (G := fun W => Exit.inBlock n R e a W) hg h
end
end Go.Proofs.Ytdggikbaemigbaa
