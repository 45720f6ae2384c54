/- Stores into a row of one's own. -/
import Derived.Test.YtkipejhjpfakpaaGr
namespace Go.Proofs.Ytkipejhjpfakpaa
open Go.RowKit

theorem own_set1 {w : World} {B : Nat} {e : TypeId} {g n cap j : Nat} {xs : List Value} {u : Value} (h : w.ownsRow B e 1 (.slice (some ⟨g, 0, none⟩) n cap) n xs) :
    (w.setCell ⟨g, j, none⟩ u).ownsRow B e 1 (.slice (some ⟨g, 0, none⟩) n cap) n (xs.set j u) := by
  obtain ⟨h1, h2⟩ := h
  refine ⟨by simpa using h1, ?_⟩
  rcases h2 with ⟨h3, -⟩ | ⟨g', cap', cur, h3, h4, h5, h6, h7, h8, h9⟩
  · cases h3
  · simp only [Value.slice.injEq, Option.some.injEq, Addr.mk.injEq] at h3
    obtain ⟨⟨rfl, -, -⟩, -, rfl⟩ := h3
    refine .inr ⟨g, cap, _, rfl, h4, heap_setCell_same w g j cur e u h5, h6, h7, by simpa using h8, ?_⟩
    rw [Array.toList_setIfInBounds, List.take_set, h9]
theorem own_arr {w : World} {B : Nat} {e : TypeId} {g n cap : Nat} {xs : List Value} (h : w.ownsRow B e 1 (.slice (some ⟨g, 0, none⟩) n cap) n xs) : ∃ C, Arr w g C ∧ n ≤ C.length ∧ C.take n = xs := by
  rcases h.2 with ⟨h3, -⟩ | ⟨g', cap', cur, h3, h4, h5, h6, h7, h8, h9⟩
  · cases h3
  · simp only [Value.slice.injEq, Option.some.injEq, Addr.mk.injEq] at h3
    obtain ⟨⟨rfl, -, -⟩, -, rfl⟩ := h3
    refine ⟨cur.toList, ⟨e, by simpa using h5⟩, ?_, by simpa using h9⟩
    simp; omega
theorem own_cell {w : World} {B : Nat} {e : TypeId} {g n cap j : Nat} {xs : List Value} {u : Value} (h : w.ownsRow B e 1 (.slice (some ⟨g, 0, none⟩) n cap) n xs) (hj : xs[j]? = some u) : w.cell? ⟨g, j, none⟩ = some u := by
  obtain ⟨C, h1, h2, h3⟩ := own_arr h
  refine h1.cell ?_
  rw [← h3, List.getElem?_take] at hj
  split at hj
  · exact hj
  · cases hj

/-- A row of one's own, as a fact that is carried along. -/
def Ow (w : World) (B : Nat) (e : TypeId) (v : Value) (n : Nat) (xs : List Value) : Prop := w.ownsRow B e 1 v n xs
theorem Ow.below {w w' : World} {B : Nat} {e : TypeId} {v : Value} {n : Nat} {xs : List Value} (h : Ow w B e v n xs) (hb : Below w.heap.size w w') : Ow w' B e v n xs := own_below h hb
theorem Ow.grown {w w' : World} {B g : Nat} {e : TypeId} {v : Value} {n : Nat} {xs : List Value} (h : Ow w B e v n xs) (hg : w.grownBy w' (some g)) (hb : g < B) : Ow w' B e v n xs := own_keptN h hg (fun q => by have := (World.ownsRow.lt h g q).1; omega)
theorem Ow.keptN {w w' : World} {B g : Nat} {e : TypeId} {v : Value} {n : Nat} {xs : List Value} (h : Ow w B e v n xs) (hg : w.grownBy w' (some g)) (hne : v.ownBlock = none ∨ v.ownBlock ≠ some g) : Ow w' B e v n xs := h.kept hg hne

section
variable {P : Program} {Q : Exit → Act → World → Prop}

/-- A block that has just been made is forgotten but for what is said of it. -/
theorem Tx.newF {l : List Oper} {S : World → Prop} {B f d : Nat} {a : Act} {w w0 : World} {o : Obj} {F : World → Prop} (hF : F (w0.alloc o)) (hd : ∀ w, F w → F w.drew) (hw : w = w0.alloc o ∨ w = (w0.alloc o).drew)
    (h : ∀ w', F w' → Below w0.heap.size w0 w' → Tx P l Q S B f d a w') : Tx P l Q S B f d a w := by
  rcases hw with rfl | rfl
  · exact h _ hF (below_alloc _ _)
  · exact h _ (hd _ hF) (below_alloc _ _).drew

theorem step_ownG {l : List Oper} {o : Oper} {a : Act} {w : World} {K : Act → World → Prop} {E : Prop} (hw : Region.wanted o (yielded l.toArray a.tmps) = true) (ty : TypeId) (x y : Operand) (ho : o.op = .store ty x y)
    (g j : Nat) (u : Value) (hx : a.eval x = .pointer (some ⟨g, j, none⟩)) (hy : a.eval y = u) (B : Nat) (e : TypeId) (n cap : Nat) (xs : List Value) (hg : w.ownsRow B e 1 (.slice (some ⟨g, 0, none⟩) n cap) n xs) (hi : (P.info? ty).map (·.size) = some 1) (hj : j < n) (hu : u.oneCell' = true)
    (h : ∀ W, W.ownsRow B e 1 (.slice (some ⟨g, 0, none⟩) n cap) n (xs.set j u) → w.grownBy W (some g) → W.heap.size = w.heap.size → K (a.put o.dst undef) W) : if Region.wanted o (yielded l.toArray a.tmps) = true then Oper.wp P o a w K Q else E := by
  obtain ⟨C, h1, h2, h3⟩ := own_arr hg
  rw [if_pos hw]
  unfold Oper.wp execOp
  simp only [ho, hx, hy, Sem.run_bind, Sem.run_pure, Result.andThen_ok, run_store_one h1 (by omega : j < C.length) hi hu]
  exact h _ (own_set1 hg) (gr_cell w g j u) (by simp [World.setCell])

theorem wpl_ownG {w : World} {ops : Array Oper} {rest : List Oper} {o : Oper} {a : Act} (hgd : o.guard = none) (ty : TypeId) (x y : Operand) (ho : o.op = .store ty x y)
    (g j : Nat) (u : Value) (hx : a.eval x = .pointer (some ⟨g, j, none⟩)) (hy : a.eval y = u) (B : Nat) (e : TypeId) (n cap : Nat) (xs : List Value) (hg : w.ownsRow B e 1 (.slice (some ⟨g, 0, none⟩) n cap) n xs) (hi : (P.info? ty).map (·.size) = some 1) (hj : j < n) (hu : u.oneCell' = true)
    (h : ∀ W, W.ownsRow B e 1 (.slice (some ⟨g, 0, none⟩) n cap) n (xs.set j u) → w.grownBy W (some g) → W.heap.size = w.heap.size → wpList P ops Q rest (a.put o.dst undef) W) : wpList P ops Q (o :: rest) a w := by
  obtain ⟨C, h1, h2, h3⟩ := own_arr hg
  refine wpList_plain hgd fun K hK => ?_
  unfold Oper.wp execOp
  simp only [ho, hx, hy, Sem.run_bind, Sem.run_pure, Result.andThen_ok, run_store_one h1 (by omega : j < C.length) hi hu]
  exact hK _ _ (h _ (own_set1 hg) (gr_cell w g j u) (by simp [World.setCell]))
end

end Go.Proofs.Ytkipejhjpfakpaa
