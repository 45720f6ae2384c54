/- pack's cursor in memory, and what its methods do to it. -/
import Derived.Test.YtkipejhjpfakpaaPk7
import Derived.Test.YtkipejhjpfakpaaReg
namespace Go.Proofs.Ytkipejhjpfakpaa
open Go.RowKit

/-- What a cursor in block g has left, in memory that is not block g. -/
def CBuf (w : World) (g : Nat) (v : Value) (rest : List UInt8) : Prop :=
  (v = .slice none 0 0 ∧ rest = []) ∨
  ∃ b o cap, v = .slice (some ⟨b, o, none⟩) rest.length cap ∧ rest.length ≤ cap ∧ cap ≤ maxLen ∧ b < g ∧ b < w.heap.size ∧ ∀ j u, (u8s rest)[j]? = some u → w.cell? ⟨b, o + j, none⟩ = some u

/-- The cursor in block g: what is left, and whether it is bad. -/
def Cur (w : World) (g : Nat) (rest : List UInt8) (bad : Bool) : Prop :=
  ∃ v, w.cell? ⟨g, 0, none⟩ = some v ∧ w.cell? ⟨g, 1, none⟩ = some (.bool bad) ∧ w.frozen? ⟨g, 0, none⟩ = false ∧ w.frozen? ⟨g, 1, none⟩ = false ∧ CBuf w g v rest

theorem CBuf.sl {w : World} {g : Nat} {v : Value} {rest : List UInt8} (h : CBuf w g v rest) : Sl w v (u8s rest) := by
  rcases h with ⟨rfl, rfl⟩ | ⟨b, o, cap, rfl, h1, h2, h3, h4, h5⟩
  · exact Sl.nil w
  · refine ⟨some ⟨b, o, none⟩, cap, by rw [u8s_len], by rw [u8s_len]; exact h1, h2, fun h => (by cases h), fun x hx => ?_⟩
    cases hx
    intro j u hu
    rw [Addr.add_lit]
    exact h5 j u hu

/-- Behind a call that writes to nothing of old but a block that is not the buffer's. -/
theorem CBuf.grown {w w' : World} {g k : Nat} {v : Value} {rest : List UInt8} (h : CBuf w g v rest) (hg : w.grownBy w' (some k)) (hk : k = g ∨ w.heap.size ≤ k) : CBuf w' g v rest := by
  rcases h with h | ⟨b, o, cap, rfl, h1, h2, h3, h4, h5⟩
  · exact .inl h
  · refine .inr ⟨b, o, cap, rfl, h1, h2, h3, Nat.lt_of_lt_of_le h4 hg.size, fun j u hu => ?_⟩
    exact hg.cell (h5 j u hu) (by simp only [ne_eq, Option.some.injEq]; omega)

theorem CBuf.below {w w' : World} {g : Nat} {v : Value} {rest : List UInt8} (h : CBuf w g v rest) (hg : Below w.heap.size w w') : CBuf w' g v rest := by
  rcases h with h | ⟨b, o, cap, rfl, h1, h2, h3, h4, h5⟩
  · exact .inl h
  · refine .inr ⟨b, o, cap, rfl, h1, h2, h3, Nat.lt_of_lt_of_le h4 hg.size, fun j u hu => ?_⟩
    rw [hg.cell (p := ⟨b, o + j, none⟩) h4]
    exact h5 j u hu

theorem Cur.lt {w : World} {g : Nat} {rest : List UInt8} {bad : Bool} (h : Cur w g rest bad) : g < w.heap.size := by
  obtain ⟨v, h1, _⟩ := h
  exact World.block_lt_of_cell? w _ h1

theorem Cur.below {w w' : World} {g : Nat} {rest : List UInt8} {bad : Bool} (h : Cur w g rest bad) (hg : Below w.heap.size w w') : Cur w' g rest bad := by
  have hlt := h.lt
  obtain ⟨v, h1, h2, h3, h4, h5⟩ := h
  exact ⟨v, by rw [hg.cell (p := ⟨g, 0, none⟩) hlt]; exact h1, by rw [hg.cell (p := ⟨g, 1, none⟩) hlt]; exact h2, by rw [hg.frozen (p := ⟨g, 0, none⟩) hlt]; exact h3, by rw [hg.frozen (p := ⟨g, 1, none⟩) hlt]; exact h4, h5.below hg⟩

theorem below_grownBy {w w' : World} (h : Below w.heap.size w w') (row : Option Nat) : w.grownBy w' row := ⟨h.os, h.tape, h.output, h.size, fun k hk _ => h.block k hk⟩

theorem grownBy_trans {a b c : World} {row : Option Nat} (h : a.grownBy b row) (k : b.grownBy c row) : a.grownBy c row :=
  ⟨k.os.trans h.os, k.tape.trans h.tape, k.output.trans h.output, Nat.le_trans h.size k.size, fun i hi hn => (k.block i (Nat.lt_of_lt_of_le hi h.size) hn).trans (h.block i hi hn)⟩

theorem grownBy_set {w w' : World} {g o : Nat} {u : Value} (h : w.grownBy w' (some g)) : w.grownBy (w'.setCell ⟨g, o, none⟩ u) (some g) :=
  grownBy_trans h ⟨rfl, rfl, rfl, by simp [World.setCell], fun k _ hn => Below.heap_setCell _ _ _ _ (by simpa using hn)⟩

/-- pack.New: a cursor at the first byte. -/
theorem packNew_any (vb : Value) (bs : List UInt8) (w : World) (hb : Sl w vb (u8s bs)) (hr : bs.length ≤ 140737488355328) :
    Calls Try.prog 52 #[vb] w fun e w' => ∃ g, e = .returned (.pointer (some ⟨g, 0, none⟩)) ∧ w.heap.size ≤ g ∧ Cur w' g bs false ∧ Below w.heap.size w w' := by
  go_enter Try.func52, Try.ntmps52
  go_wp2_with fail
  refine (clone_any vb bs w hb hr).mono ?_
  rintro e w1 ⟨v1, rfl, hown, hbel, -⟩
  have hv : CBuf w1 w1.heap.size v1 bs := by
    rcases hown.2 with ⟨rfl, h0⟩ | ⟨gb, cap, cur, rfl, h1, h2, h3, h4, h5, h6⟩
    · exact .inl ⟨rfl, List.eq_nil_of_length_eq_zero h0⟩
    · refine .inr ⟨gb, 0, cap, rfl, h3, h4, ?_, (Array.getElem?_eq_some_iff.1 h2).1, fun j u hu => ?_⟩
      · have := (Array.getElem?_eq_some_iff.1 h2).1; omega
      · have := World.ownsRow.cells hown rfl j u hu
        rwa [Addr.add_lit] at this
  clear hown
  have hsh : ∃ a n c, v1 = .slice a n c := by rcases hv with ⟨rfl, _⟩ | ⟨b, o, cap, rfl, _⟩ <;> exact ⟨_, _, _, rfl⟩
  obtain ⟨a, n, c, rfl⟩ := hsh
  have hv' := Lib.hid hv
  clear hv
  go_wp2
  go_ret
  refine ⟨w1.heap.size, rfl, hbel.size, ⟨_, ?_, ?_, ?_, ?_, (hv'.out.below (below_alloc _ _))⟩, hbel.alloc hbel.size _⟩
  · rw [World.cell?_alloc_at _ _ _ _ rfl]; rfl
  · rw [World.cell?_alloc_at _ _ _ _ rfl]; rfl
  · exact World.frozen?_alloc_at _ _ _ _ rfl
  · exact World.frozen?_alloc_at _ _ _ _ rfl

end Go.Proofs.Ytkipejhjpfakpaa
