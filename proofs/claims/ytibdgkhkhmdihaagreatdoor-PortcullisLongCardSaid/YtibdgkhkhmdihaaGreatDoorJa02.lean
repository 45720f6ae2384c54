import Derived.Test.YtibdgkhkhmdihaaGreatDoorJa01
import Derived.OrdersHeld
import Derived.RegionTactic

namespace Go.Proofs.YtibdgkhkhmdihaaGreatDoor
open Go.RowKit
section
variable {P : Program} {ops : Array Oper} {Q : Exit → Act → World → Prop}
theorem wpAnyH_weaken {md : Region.Mode} {S S' : World → Prop} (hSS : ∀ w, S' w → S w) : ∀ (fuel : Nat) (listed : Array Bool) (a : Act) (w : World), wpAnyH P md ops Q S' fuel listed a w → wpAnyH P md ops Q S fuel listed a w
  | 0, _, _, _, h => h
  | fuel + 1, _, _, _, h => ⟨h.1, fun i hi => wpOp_mono (fun a' w' h' => ⟨hSS w' h'.1, wpAnyH_weaken hSS fuel _ a' w' h'.2⟩) (h.2 i hi)⟩
/-- Which of n operations have come up: the bits of d. -/
def mask (n d : Nat) : Array Bool := ((List.range n).map fun i => d.testBit i).toArray
theorem mask_zero (n : Nat) : Array.replicate n false = mask n 0 := by
  apply Array.ext'
  simp only [mask, Array.toList_replicate]
  apply List.ext_getElem <;> simp
theorem mask_set (n d i : Nat) : (mask n d).setIfInBounds i true = mask n (d ||| 2 ^ i) := by
  apply Array.ext'
  simp only [mask, Array.toList_setIfInBounds]
  apply List.ext_getElem
  · simp
  · intro j h1 h2
    rw [List.getElem_set]
    simp only [List.getElem_map, List.getElem_range, Nat.testBit_or, Nat.testBit_two_pow]
    split
    · rename_i e; subst e; simp
    · rename_i e; simp [e]
/-- Q, but nothing at a panic. -/
def NoP (Q : Exit → Act → World → Prop) : Exit → Act → World → Prop
  | .panic _, _, _ => False
  | e, a, w => Q e a w
theorem NoP.imp {Q : Exit → Act → World → Prop} : ∀ (e : Exit) (a : Act) (w : World), NoP Q e a w → Q e a w := fun e a w h => by
  cases e <;> first | exact h | exact (h : False).elim
/-- The region, those of d having come up, S being true of whatever world may come; f operations at most are to come. -/
def Txt (P : Program) (l : List Oper) (Q : Exit → Act → World → Prop) (S : World → Prop) (f d : Nat) (a : Act) (w : World) : Prop :=
  wpAnyH P .any l.toArray (NoP Q) S f (mask l.length d) a w
theorem Txt.start {l : List Oper} {id : Nat} {a : Act} {w : World} (S : World → Prop) (n : Nat) (hn : l.length = n) (hm : P.follows .mixedOrders = true) (h : Txt P l Q S n 0 a w.drew) : (Code.region id l.toArray true).wp P Q a w := by
  refine Code.wp_mono NoP.imp (wp_region_held (S := S) hm ?_)
  subst hn
  rw [mask_zero]
  exact h
/-- Operations that only read, one behind the other, in a world. -/
def rd (P : Program) (l : List Oper) (w : World) : List Nat → Act → Act → Prop
  | [], a, A => a = A
  | i :: is, a, A => ∃ o, l[i]? = some o ∧ ((Region.wanted o (yielded l.toArray a.tmps) = true ∧ ∃ v, (execOp a.eval o).run P w = .ok (.value v) w ∧ rd P l w is (a.put o.dst v) A) ∨
      (Region.wanted o (yielded l.toArray a.tmps) = false ∧ rd P l w is (a.put o.dst undef) A))
theorem rd_nil {l : List Oper} {w : World} {a : Act} : rd P l w [] a a := rfl
theorem rd_take {l : List Oper} {w : World} {i : Nat} {is : List Nat} {a A : Act} {o : Oper} {v : Value} (hi : l[i]? = some o) (hw : Region.wanted o (yielded l.toArray a.tmps) = true)
    (hr : (execOp a.eval o).run P w = .ok (.value v) w) (h : rd P l w is (a.put o.dst v) A) : rd P l w (i :: is) a A := ⟨o, hi, .inl ⟨hw, v, hr, h⟩⟩
theorem rd_skip {l : List Oper} {w : World} {i : Nat} {is : List Nat} {a A : Act} {o : Oper} (hi : l[i]? = some o) (hw : Region.wanted o (yielded l.toArray a.tmps) = false)
    (h : rd P l w is (a.put o.dst undef) A) : rd P l w (i :: is) a A := ⟨o, hi, .inr ⟨hw, h⟩⟩
/-- The slots that operations write. -/
def dsts (l : List Oper) : List Nat → List Nat
  | [] => []
  | i :: is => match l[i]? with | some o => (match o.dst with | some d => d :: dsts l is | none => dsts l is) | none => dsts l is
theorem put_tmps_ne {a : Act} {d d' : Nat} {v : Value} (h : d' ≠ d) : (a.put (some d) v).tmps[d']? = a.tmps[d']? := by
  simp only [Act.put]
  rw [Array.getElem?_setIfInBounds]
  rw [if_neg (fun e => h e.symm)]
theorem put_size {a : Act} {d : Option Nat} {v : Value} : (a.put d v).tmps.size = a.tmps.size := by
  cases d <;> simp [Act.put]
theorem put_tmps_eq {a : Act} {d : Nat} {v : Value} (h : d < a.tmps.size) : (a.put (some d) v).tmps[d]? = some v := by
  simp only [Act.put]
  rw [Array.getElem?_setIfInBounds, if_pos rfl, if_pos h]
/-- A slot that none of them writes stands as it stood. -/
theorem rd_keeps {l : List Oper} {w : World} {d : Nat} : ∀ (is : List Nat) (a A : Act), (dsts l is).contains d = false → rd P l w is a A → A.tmps[d]? = a.tmps[d]?
  | [], a, A, _, h => by rw [show a = A from h]
  | i :: is, a, A, hd, ⟨o, hi, h⟩ => by
    have hd2 : (dsts l is).contains d = false ∧ ∀ v, (a.put o.dst v).tmps[d]? = a.tmps[d]? := by
      cases hdst : o.dst with
      | none => simp only [dsts, hi, hdst] at hd; exact ⟨hd, fun v => rfl⟩
      | some d' =>
        simp only [dsts, hi, hdst, List.contains_cons, Bool.or_eq_false_iff, beq_eq_false_iff_ne] at hd
        exact ⟨hd.2, fun v => put_tmps_ne hd.1⟩
    rcases h with ⟨_, v, _, h⟩ | ⟨_, h⟩
    · rw [rd_keeps is _ A hd2.1 h, hd2.2]
    · rw [rd_keeps is _ A hd2.1 h, hd2.2]
/-- May the operations 'is' be taken in that order, those of d having come up? Those of d' have come up behind them. -/
def segOk (l : List Oper) (size : Nat) : Nat → Nat → Nat → List Nat → Nat → Bool
  | f', f, d, [], d' => f' == f && d == d'
  | f', f, d, i :: is, d' => (match f with | 0 => false | f + 1 => segOk l size f' f (d ||| 2 ^ i) is d') && Region.free .any l.toArray (mask l.length d) i && (Region.ready .any l.toArray (mask l.length d)).contains i &&
      (match l[i]? with | some o => (match o.dst with | some e => decide (e < size) && !(dsts l is).contains e | none => false) | none => false)
theorem rd_step {l : List Oper} {S : World → Prop} {i : Nat} {is : List Nat} {o : Oper} {a A : Act} {w : World} {d : Nat} (hi : l[i]? = some o) (hd : o.dst = some d) (hlt : d < a.tmps.size) (hno : (dsts l is).contains d = false) (hS : S w) (h : ∀ w', S w' → rd P l w' (i :: is) a A) :
    ∃ v, YieldsIf P l.toArray S o v a ∧ ∀ w', S w' → rd P l w' is (a.put o.dst v) A := by
  by_cases hw : Region.wanted o (yielded l.toArray a.tmps) = true
  · have key : ∀ w', S w' → ∃ v, (execOp a.eval o).run P w' = .ok (.value v) w' ∧ rd P l w' is (a.put o.dst v) A := by
      intro w' hS'
      obtain ⟨o', hi', h1⟩ := h w' hS'
      rw [hi] at hi'
      cases hi'
      rcases h1 with ⟨_, h1⟩ | ⟨h1, _⟩
      · exact h1
      · rw [hw] at h1; cases h1
    have same : ∀ w', S w' → ∀ v, rd P l w' is (a.put o.dst v) A → A.tmps[d]? = some v := by
      intro w' _ v h1
      rw [rd_keeps is _ A hno h1, hd, put_tmps_eq hlt]
    obtain ⟨v, h1, h2⟩ := key w hS
    have hv := same w hS v h2
    refine ⟨v, .inl ⟨hw, fun w' hS' => ?_⟩, fun w' hS' => ?_⟩ <;>
    · obtain ⟨v', h1', h2'⟩ := key w' hS'
      have hv' := same w' hS' v' h2'
      rw [hv] at hv'
      cases hv'
      first | exact h1' | exact h2'
  · have hw' : Region.wanted o (yielded l.toArray a.tmps) = false := by simpa using hw
    refine ⟨undef, .inr ⟨hw', rfl⟩, fun w' hS' => ?_⟩
    obtain ⟨o', hi', h1⟩ := h w' hS'
    rw [hi] at hi'
    cases hi'
    rcases h1 with ⟨h1, _⟩ | ⟨_, h1⟩
    · exact absurd h1 hw
    · exact h1
/-- A run of operations that only read, in every world that meets S. -/
theorem Txt.seg {l : List Oper} {S : World → Prop} {w : World} {A : Act} (f' d' : Nat) (hs : Region.noSelect l.toArray = true) (hS : S w) :
    ∀ (is : List Nat) {f d : Nat} {a : Act}, segOk l a.tmps.size f' f d is d' = true → (∀ w', S w' → rd P l w' is a A) → Txt P l Q S f' d' A w → Txt P l Q S f d a w
  | [], f, d, a, hok, h, H => by
    simp only [segOk, Bool.and_eq_true, beq_iff_eq] at hok
    obtain ⟨rfl, rfl⟩ := hok
    rw [show a = A from h w hS]; exact H
  | i :: is, 0, d, a, hok, h, H => by simp [segOk] at hok
  | i :: is, f + 1, d, a, hok, h, H => by
    simp only [segOk, Bool.and_eq_true] at hok
    obtain ⟨⟨⟨hrest, hf⟩, hr⟩, hd⟩ := hok
    cases hi : l[i]? with
    | none => rw [hi] at hd; cases hd
    | some o =>
      rw [hi] at hd
      cases hdst : o.dst with
      | none => simp [hdst] at hd
      | some e =>
        simp only [hdst] at hd
        simp only [Bool.and_eq_true, decide_eq_true_eq, Bool.not_eq_true'] at hd
        obtain ⟨v, hy, hgo⟩ := rd_step (P := P) hi hdst hd.1 hd.2 hS h
        have ih := Txt.seg f' d' hs hS is (f := f) (d := d ||| 2 ^ i) (a := a.put o.dst v) (by rw [put_size]; exact hrest) hgo H
        unfold Txt
        refine wpAnyH_take (oi := o) (v := v) (by simpa using hi) hs hf hr (fun c a w hq => hq) hy hS ?_
        rw [mask_set]
        exact ih
/-- An operation that may change the world; no other may come up beside it. -/
theorem Txt.eff {l : List Oper} {S : World → Prop} {w : World} {f d : Nat} {a : Act} {o : Oper} (i d' : Nat) (ho : l[i]? = some o) (hr : (Region.ready .any l.toArray (mask l.length d) == [i] && (d ||| 2 ^ i) == d') = true)
    (h : ∀ K : Act → World → Prop, (∀ (S' : World → Prop) a' w', S w' → (∀ w'', S' w'' → S w'') → Txt P l Q S' f d' a' w' → K a' w') → if Region.wanted o (yielded l.toArray a.tmps) = true then Oper.wp P o a w K (NoP Q) else K (a.put o.dst undef) w) : Txt P l Q S (f + 1) d a w := by
  simp only [Bool.and_eq_true, beq_iff_eq] at hr
  obtain ⟨hr, rfl⟩ := hr
  unfold Txt
  refine wpAnyH_all hr (by simp) ?_
  intro j hj
  simp only [List.mem_singleton] at hj
  subst hj
  refine wpOp_step (o := o) (by simpa using ho) fun K hK => ?_
  refine h K fun S' a' w' h1 h2 h3 => hK _ _ ⟨h1, ?_⟩
  rw [mask_set]
  exact wpAnyH_weaken h2 _ _ _ _ h3
theorem Txt.done {l : List Oper} {S : World → Prop} {w : World} {f d : Nat} {a : Act} (hk : Region.ready .any l.toArray (mask l.length d) = []) (h : Q .normal a w) : Txt P l Q S f d a w :=
  wpAnyH_done (Q := NoP Q) hk h _
end
end Go.Proofs.YtibdgkhkhmdihaaGreatDoor

