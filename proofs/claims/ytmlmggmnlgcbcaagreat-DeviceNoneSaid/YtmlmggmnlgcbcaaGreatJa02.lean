import Derived.Test.YtmlmggmnlgcbcaaGreatJa01
import Derived.Laws.CopyRow
import Derived.BigFrame

namespace Go.Proofs.YtmlmggmnlgcbcaaGreat
open Go.RowKit
section
variable {P : Program} {ops : Array Oper} {Q : Exit → Act → World → Prop} {md : Region.Mode} {S : World → Prop} {B : Nat}
/-- Whatever order is picked; S holds behind every operation up to the barrier B. -/
def wpAnyB (P : Program) (md : Region.Mode) (ops : Array Oper) (Q : Exit → Act → World → Prop) (S : World → Prop) (B : Nat) : Nat → Array Bool → Act → World → Prop
  | 0, listed, a, w => Region.ready md ops listed = [] ∧ Q .normal a w
  | fuel + 1, listed, a, w =>
    (Region.ready md ops listed = [] → Q .normal a w) ∧
    ∀ i ∈ Region.ready md ops listed, wpOp P ops Q i (fun a' w' => if i = B then wpAny P md ops Q fuel (listed.setIfInBounds i true) a' w' else S w' ∧ wpAnyB P md ops Q S B fuel (listed.setIfInBounds i true) a' w') a w
theorem wpAny_of_B : ∀ (fuel : Nat) (listed : Array Bool) (a : Act) (w : World), wpAnyB P md ops Q S B fuel listed a w → wpAny P md ops Q fuel listed a w
  | 0, _, _, _, h => h
  | fuel + 1, _, _, _, h => ⟨h.1, fun i hi => wpOp_mono (fun a' w' h' => by
      by_cases e : i = B
      · rw [if_pos e] at h'; exact h'
      · rw [if_neg e] at h'; exact wpAny_of_B fuel _ a' w' h'.2) (h.2 i hi)⟩
theorem wpAnyB_first {i : Nat} {oi : Oper} {v : Value} (hi : ops[i]? = some oi) (hsel : ∀ (j : Nat) (o : Oper) cs b, ops[j]? = some o → o.op ≠ .select cs b)
    (hQ : ∀ c a w, Q (.panic c) (a.put oi.dst v) w → Q (.panic c) a w) (hiB : i ≠ B) (hBw : ∀ oB, ops[B]? = some oB → ∃ e ∈ oB.after, Region.binds md e = true ∧ e.on = i) :
    ∀ (fuel : Nat) (listed : Array Bool) (a : Act) (w : World),
      (∀ j oj, ops[j]? = some oj → j ≠ i → listed.getD j true = false → (∀ e ∈ oj.after, Region.binds md e = true → e.on ≠ i) → oi.apart ops oj = true) →
      i ∈ Region.ready md ops listed → YieldsIf P ops S oi v a → S w →
      wpAnyB P md ops Q S B fuel (listed.setIfInBounds i true) (a.put oi.dst v) w → wpAnyB P md ops Q S B (fuel + 1) listed a w := by
  intro fuel
  induction fuel with
  | zero =>
    intro listed a w _ hr hy hS H
    refine ⟨fun h => (by rw [h] at hr; cases hr), fun j hj => ?_⟩
    by_cases hji : j = i
    · subst hji; simp only [if_neg hiB]; exact hy.wpOp hi hS ⟨hS, H⟩
    · have := ready_mono hj hji
      rw [H.1] at this
      cases this
  | succ fuel ih =>
    intro listed a w hfree hr hy hS H
    refine ⟨fun h => (by rw [h] at hr; cases hr), fun j hj => ?_⟩
    by_cases hji : j = i
    · subst hji; simp only [if_neg hiB]; exact hy.wpOp hi hS ⟨hS, H⟩
    · have h1 := H.2 j (ready_mono hj hji)
      obtain ⟨hjun, oj, hoj, hall⟩ := mem_ready.1 hj
      have hnot : ∀ e ∈ oj.after, Region.binds md e = true → e.on ≠ i := fun e he hb heq => by
        have h1 := hall e he hb
        have h0 := (mem_ready.1 hr).1
        rw [heq] at h1
        rcases Nat.lt_or_ge i listed.size with h' | h'
        · simp [h'] at h0 h1; rw [h0] at h1; cases h1
        · simp [Array.getElem?_eq_none h'] at h1
      have hjB : ¬ j = B := fun e => by
        subst e
        obtain ⟨e, he, hb, heq⟩ := hBw oj hoj
        exact hnot e he hb heq
      simp only [if_neg hjB] at h1 ⊢
      have h2 := wpOp_putIf hoj (hfree j oj hoj hji hjun hnot) (fun cs b => hsel i oi cs b hi) (fun cs b => hsel j oj cs b hoj) hQ hy h1
      have hfree' : ∀ k ok, ops[k]? = some ok → k ≠ i → (listed.setIfInBounds j true).getD k true = false →
          (∀ e ∈ ok.after, Region.binds md e = true → e.on ≠ i) → oi.apart ops ok = true := fun k ok hk hki hun hno => by
        refine hfree k ok hk hki ?_ hno
        by_cases hjk : j = k
        · subst hjk; exact hjun
        · rw [getD_set_ne true hjk] at hun; exact hun
      refine wpOp_mono (fun a' w' h3 => ⟨h3.2.1, ih (listed.setIfInBounds j true) a' w' hfree' (ready_mono hr (Ne.symm hji)) h3.1 h3.2.1 ?_⟩) h2
      rw [Array.setIfInBounds_comm _ _ hji]
      exact h3.2.2
theorem wpAnyB_pure {i : Nat} {oi : Oper} {v : Value} (hi : ops[i]? = some oi) (hsel : ∀ (j : Nat) (o : Oper) cs b, ops[j]? = some o → o.op ≠ .select cs b)
    (hQ : ∀ c a w, Q (.panic c) (a.put oi.dst v) w → Q (.panic c) a w) (hiB : i ≠ B) :
    ∀ (fuel : Nat) (listed : Array Bool) (a : Act) (w : World),
      (∀ j oj, ops[j]? = some oj → j ≠ i → listed.getD j true = false → (∀ e ∈ oj.after, Region.binds md e = true → e.on ≠ i) → oi.apart ops oj = true) →
      i ∈ Region.ready md ops listed → Yields P ops oi v a → S w →
      wpAnyB P md ops Q S B fuel (listed.setIfInBounds i true) (a.put oi.dst v) w → wpAnyB P md ops Q S B (fuel + 1) listed a w := by
  intro fuel
  induction fuel with
  | zero =>
    intro listed a w _ hr hy hS H
    refine ⟨fun h => (by rw [h] at hr; cases hr), fun j hj => ?_⟩
    by_cases hji : j = i
    · subst hji; simp only [if_neg hiB]; exact hy.yieldsIf.wpOp hi hS ⟨hS, H⟩
    · have := ready_mono hj hji
      rw [H.1] at this
      cases this
  | succ fuel ih =>
    intro listed a w hfree hr hy hS H
    refine ⟨fun h => (by rw [h] at hr; cases hr), fun j hj => ?_⟩
    by_cases hji : j = i
    · subst hji; simp only [if_neg hiB]; exact hy.yieldsIf.wpOp hi hS ⟨hS, H⟩
    · have h1 := H.2 j (ready_mono hj hji)
      obtain ⟨hjun, oj, hoj, hall⟩ := mem_ready.1 hj
      have hnot : ∀ e ∈ oj.after, Region.binds md e = true → e.on ≠ i := fun e he hb heq => by
        have h1 := hall e he hb
        have h0 := (mem_ready.1 hr).1
        rw [heq] at h1
        rcases Nat.lt_or_ge i listed.size with h' | h'
        · simp [h'] at h0 h1; rw [h0] at h1; cases h1
        · simp [Array.getElem?_eq_none h'] at h1
      have hfree' : ∀ k ok, ops[k]? = some ok → k ≠ i → (listed.setIfInBounds j true).getD k true = false →
          (∀ e ∈ ok.after, Region.binds md e = true → e.on ≠ i) → oi.apart ops ok = true := fun k ok hk hki hun hno => by
        refine hfree k ok hk hki ?_ hno
        by_cases hjk : j = k
        · subst hjk; exact hjun
        · rw [getD_set_ne true hjk] at hun; exact hun
      by_cases hjB : j = B
      · simp only [if_pos hjB] at h1 ⊢
        have h2 := wpOp_put hoj (hfree j oj hoj hji hjun hnot) (fun cs b => hsel i oi cs b hi) (fun cs b => hsel j oj cs b hoj) hQ hy h1
        refine wpOp_mono (fun a' w' h3 => wpAny_first hi hsel hQ fuel (listed.setIfInBounds j true) a' w' hfree' (ready_mono hr (Ne.symm hji)) h3.1 ?_) h2
        rw [Array.setIfInBounds_comm _ _ hji]
        exact h3.2
      · simp only [if_neg hjB] at h1 ⊢
        have h2 := wpOp_put hoj (hfree j oj hoj hji hjun hnot) (fun cs b => hsel i oi cs b hi) (fun cs b => hsel j oj cs b hoj) hQ hy h1
        refine wpOp_mono (fun a' w' h3 => ⟨h3.2.1, ih (listed.setIfInBounds j true) a' w' hfree' (ready_mono hr (Ne.symm hji)) h3.1 h3.2.1 ?_⟩) h2
        rw [Array.setIfInBounds_comm _ _ hji]
        exact h3.2.2
theorem wpAnyB_weaken {S' : World → Prop} (hSS : ∀ w, S' w → S w) : ∀ (fuel : Nat) (listed : Array Bool) (a : Act) (w : World), wpAnyB P md ops Q S' B fuel listed a w → wpAnyB P md ops Q S B fuel listed a w
  | 0, _, _, _, h => h
  | fuel + 1, _, _, _, h => ⟨h.1, fun i hi => wpOp_mono (fun a' w' h' => by
      by_cases e : i = B
      · rw [if_pos e] at h' ⊢; exact h'
      · rw [if_neg e] at h' ⊢; exact ⟨hSS w' h'.1, wpAnyB_weaken hSS fuel _ a' w' h'.2⟩) (h.2 i hi)⟩
end
section
variable {P : Program} {Q : Exit → Act → World → Prop}
/-- The region, those of d having come up; f operations at most are to come; S is true of whatever world may come up to the barrier B. -/
def Tx (P : Program) (l : List Oper) (Q : Exit → Act → World → Prop) (S : World → Prop) (B f d : Nat) (a : Act) (w : World) : Prop :=
  wpAnyB P .any l.toArray (NoP Q) S B f (mask l.length d) a w
theorem Tx.start {l : List Oper} {id : Nat} {a : Act} {w : World} (S : World → Prop) (B n : Nat) (hn : l.length = n) (hm : P.follows .mixedOrders = true) (h : Tx P l Q S B n 0 a w.drew) : (Code.region id l.toArray true).wp P Q a w := by
  refine Code.wp_mono NoP.imp (wp_region_any hm ?_)
  subst hn
  have e : l.toArray.size = l.length := by simp
  rw [e, mask_zero]
  exact wpAny_of_B _ _ _ _ h
/-- The barrier, or none, waits for i. -/
def barOk (l : List Oper) (B i : Nat) : Bool := i != B && (match l[B]? with | some o => o.after.any (fun e => Region.binds .any e && e.on == i) | none => true)
/-- A run of operations that only read, in every world that meets S. -/
theorem Tx.seg {l : List Oper} {S : World → Prop} {B : Nat} {w : World} {A : Act} (f' d' : Nat) (hs : Region.noSelect l.toArray = true) (hS : S w) :
    ∀ (is : List Nat) {f d : Nat} {a : Act}, (segOk l a.tmps.size f' f d is d' && is.all (barOk l B)) = true → (∀ w', S w' → rd P l w' is a A) → Tx P l Q S B f' d' A w → Tx P l Q S B f d a w
  | [], f, d, a, hok, h, H => by
    simp only [segOk, Bool.and_eq_true, beq_iff_eq] at hok
    obtain ⟨⟨rfl, rfl⟩, -⟩ := hok
    rw [show a = A from h w hS]; exact H
  | i :: is, 0, d, a, hok, h, H => by simp [segOk] at hok
  | i :: is, f + 1, d, a, hok, h, H => by
    simp only [segOk, Bool.and_eq_true, List.all_cons] at hok
    obtain ⟨⟨⟨⟨hrest, hf⟩, hr⟩, hd⟩, hb1, hb2⟩ := hok
    cases hi : l[i]? with
    | none => rw [hi] at hd; cases hd
    | some o =>
      rw [hi] at hd
      cases hdst : o.dst with
      | none => simp [hdst] at hd
      | some e =>
        simp only [hdst] at hd
        simp only [Bool.and_eq_true, decide_eq_true_eq, Bool.not_eq_true'] at hd
        obtain ⟨v, hy, hgo⟩ := rd_step (P := P) hi hdst hd.1 hd.2 hS h
        have ih := Tx.seg f' d' hs hS is (f := f) (d := d ||| 2 ^ i) (a := a.put o.dst v) (by rw [put_size, hrest, hb2]; rfl) hgo H
        unfold Tx
        simp only [barOk, Bool.and_eq_true, bne_iff_ne, ne_eq] at hb1
        refine wpAnyB_first (oi := o) (v := v) (by simpa using hi) (Region.noSelect_spec hs) (fun c a w hq => hq) hb1.1 (fun oB hoB => ?_) f _ a w (Region.free_spec (by simpa using hi) hf) (by simpa using hr) hy hS ?_
        · have h2 := hb1.2
          rw [show l[B]? = some oB by simpa using hoB] at h2
          obtain ⟨k, hk, hkb⟩ := Array.any_eq_true.1 h2
          simp only [Bool.and_eq_true, beq_iff_eq] at hkb
          exact ⟨_, Array.getElem_mem hk, hkb.1, hkb.2⟩
        · rw [mask_set]
          exact ih
/-- A run of operations that only reckon: they yield their values in whatever world; the barrier need not wait for them. -/
theorem Tx.pure {l : List Oper} {S : World → Prop} {B : Nat} {w : World} {A : Act} (f' d' : Nat) (hs : Region.noSelect l.toArray = true) (hS : S w) :
    ∀ (is : List Nat) {f d : Nat} {a : Act}, (segOk l a.tmps.size f' f d is d' && !is.contains B) = true → (∀ w', rd P l w' is a A) → Tx P l Q S B f' d' A w → Tx P l Q S B f d a w
  | [], f, d, a, hok, h, H => by
    simp only [segOk, Bool.and_eq_true, beq_iff_eq] at hok
    obtain ⟨⟨rfl, rfl⟩, -⟩ := hok
    rw [show a = A from h w]; exact H
  | i :: is, 0, d, a, hok, h, H => by simp [segOk] at hok
  | i :: is, f + 1, d, a, hok, h, H => by
    simp only [segOk, Bool.and_eq_true, List.contains_cons, Bool.not_or, Bool.not_eq_true', beq_eq_false_iff_ne] at hok
    obtain ⟨⟨⟨⟨hrest, hf⟩, hr⟩, hd⟩, hb1, hb2⟩ := hok
    cases hi : l[i]? with
    | none => rw [hi] at hd; cases hd
    | some o =>
      rw [hi] at hd
      cases hdst : o.dst with
      | none => simp [hdst] at hd
      | some e =>
        simp only [hdst] at hd
        simp only [Bool.and_eq_true, decide_eq_true_eq, Bool.not_eq_true'] at hd
        obtain ⟨v, hy, hgo⟩ := rd_step (P := P) (S := fun _ => True) (w := w) hi hdst hd.1 hd.2 trivial (fun w' _ => h w')
        have ih := Tx.pure f' d' hs hS is (f := f) (d := d ||| 2 ^ i) (a := a.put o.dst v) (by rw [put_size, hrest, hb2]; rfl) (fun w' => hgo w' trivial) H
        have hyy : Yields P l.toArray o v a := hy.imp (fun ⟨h1, h2⟩ => ⟨h1, fun w' => h2 w' trivial⟩) id
        unfold Tx
        refine wpAnyB_pure (oi := o) (v := v) (by simpa using hi) (Region.noSelect_spec hs) (fun c a w hq => hq) (fun e => hb1 e.symm) f _ a w (Region.free_spec (by simpa using hi) hf) (by simpa using hr) hyy hS ?_
        rw [mask_set]
        exact ih
/-- An operation that may change the world, and keeps S; no other may come up beside it. -/
theorem Tx.eff {l : List Oper} {S : World → Prop} {B : Nat} {w : World} {f d : Nat} {a : Act} {o : Oper} (i d' : Nat) (ho : l[i]? = some o) (hr : (Region.ready .any l.toArray (mask l.length d) == [i] && (d ||| 2 ^ i) == d' && i != B) = true)
    (h : ∀ K : Act → World → Prop, (∀ (S' : World → Prop) a' w', S w' → (∀ w'', S' w'' → S w'') → Tx P l Q S' B f d' a' w' → K a' w') → if Region.wanted o (yielded l.toArray a.tmps) = true then Oper.wp P o a w K (NoP Q) else K (a.put o.dst undef) w) : Tx P l Q S B (f + 1) d a w := by
  simp only [Bool.and_eq_true, beq_iff_eq, bne_iff_ne, ne_eq] at hr
  obtain ⟨⟨hr, rfl⟩, hiB⟩ := hr
  unfold Tx
  refine ⟨fun h0 => (by rw [hr] at h0; cases h0), ?_⟩
  rw [hr]
  intro j hj
  simp only [List.mem_singleton] at hj
  subst hj
  refine wpOp_step (o := o) (by simpa using ho) fun K hK => ?_
  refine h K fun S' a' w' h1 h2 h3 => hK _ _ ?_
  rw [if_neg hiB]
  refine ⟨h1, ?_⟩
  rw [mask_set]
  exact wpAnyB_weaken h2 _ _ _ _ h3
/-- The barrier itself; no other may come up beside it. Behind it all begins anew. -/
theorem Tx.bar {l : List Oper} {S : World → Prop} {B : Nat} {w : World} {f d : Nat} {a : Act} {o : Oper} (d' : Nat) (ho : l[B]? = some o) (hr : (Region.ready .any l.toArray (mask l.length d) == [B] && (d ||| 2 ^ B) == d') = true)
    (h : ∀ K : Act → World → Prop, (∀ (S' : World → Prop) (B' : Nat) a' w', Tx P l Q S' B' f d' a' w' → K a' w') → if Region.wanted o (yielded l.toArray a.tmps) = true then Oper.wp P o a w K (NoP Q) else K (a.put o.dst undef) w) : Tx P l Q S B (f + 1) d a w := by
  simp only [Bool.and_eq_true, beq_iff_eq] at hr
  obtain ⟨hr, rfl⟩ := hr
  unfold Tx
  refine ⟨fun h0 => (by rw [hr] at h0; cases h0), ?_⟩
  rw [hr]
  intro j hj
  simp only [List.mem_singleton] at hj
  subst hj
  refine wpOp_step (o := o) (by simpa using ho) fun K hK => ?_
  refine h K fun S' B' a' w' h3 => hK _ _ ?_
  rw [if_pos rfl, mask_set]
  exact wpAny_of_B _ _ _ _ h3
theorem wpAnyB_done {md : Region.Mode} {ops : Array Oper} {S : World → Prop} {B : Nat} {listed : Array Bool} {a : Act} {w : World} (hr : Region.ready md ops listed = []) (h : Q .normal a w) :
    ∀ fuel, wpAnyB P md ops Q S B fuel listed a w
  | 0 => ⟨hr, h⟩
  | _ + 1 => ⟨fun _ => h, by rw [hr]; simp⟩
theorem Tx.done {l : List Oper} {S : World → Prop} {B : Nat} {w : World} {f d : Nat} {a : Act} (hk : Region.ready .any l.toArray (mask l.length d) = []) (h : Q .normal a w) : Tx P l Q S B f d a w :=
  wpAnyB_done (Q := NoP Q) hk h _
/-- Is it a type of arrays or structs? -/
def aggT (P : Program) (ty : TypeId) : Bool := match P.underlying ty with | some (.struct _) => true | some (.array _ _) => true | _ => false
def aggD (d : TypeDesc) : Bool := match d with | .struct _ | .array _ _ => true | _ => false
theorem aggT_spec {ty : TypeId} (h : aggT P ty = true) : ∃ d, P.underlying ty = some d ∧ aggD d = true := by
  unfold aggT at h
  cases hu : P.underlying ty with
  | none => rw [hu] at h; cases h
  | some d => rw [hu] at h; exact ⟨d, rfl, by cases d <;> first | rfl | cases h⟩
theorem rd_load_arr {l : List Oper} {w : World} {i : Nat} {is : List Nat} {a A : Act} {o : Oper} (hi : l[i]? = some o) (hw : Region.wanted o (yielded l.toArray a.tmps) = true) (ty : TypeId) (x : Operand) (ho : o.op = .load ty x)
    (g : Nat) (hx : a.eval x = .pointer (some ⟨g, 0, none⟩)) (ha : aggT P ty = true) (xs : List Value) (hg : Arr w g xs) (hz : (P.info? ty).map (·.size) = some xs.length)
    (h : rd P l w is (a.put o.dst (.agg xs.toArray)) A) : rd P l w (i :: is) a A := by
  obtain ⟨d, hu, hd⟩ := aggT_spec ha
  obtain ⟨T, hg⟩ := hg
  refine rd_take hi hw ?_ h
  unfold execOp
  simp only [ho, hx, Instr.loadAt, Instr.sureAddr, Sem.run_bind, Sem.run_pure, Result.andThen_ok, run_loadVar_row w g T ty _ (0, 0) d hg hu (by cases d <;> first | rfl | cases hd) (by simpa using hz)]
theorem wpList_load_arr2 {ops : Array Oper} {rest : List Oper} {o : Oper} {a : Act} {w : World} (hw : Region.wanted o (yielded ops a.tmps) = true) (ty : TypeId) (x : Operand) (ho : o.op = .load ty x)
    (g : Nat) (hx : a.eval x = .pointer (some ⟨g, 0, none⟩)) (ha : aggT P ty = true) (xs : List Value) (hg : Arr w g xs) (hi : (P.info? ty).map (·.size) = some xs.length)
    (h : wpList P ops Q rest (a.put o.dst (.agg xs.toArray)) w) : wpList P ops Q (o :: rest) a w := by
  obtain ⟨d, hu, hd⟩ := aggT_spec ha
  obtain ⟨T, hg⟩ := hg
  refine wpList_step fun K hK => ?_
  rw [if_pos hw]
  exact wp_load_row ty x ho g hx T _ (0, 0) d hg hu (by cases d <;> first | rfl | cases hd) (by simpa using hi) (hK _ _ h)
theorem step_store_arr {l : List Oper} {o : Oper} {a : Act} {w : World} {K : Act → World → Prop} {E : Prop} (hgd : o.guard = none) (ty : TypeId) (x y : Operand) (ho : o.op = .store ty x y)
    (g : Nat) (ys : List Value) (hx : a.eval x = .pointer (some ⟨g, 0, none⟩)) (hy : a.eval y = .agg ys.toArray) (xs : List Value) (hg : Arr w g xs) (hi : (P.info? ty).map (·.size) = some ys.length)
    (hold : xs.length = ys.length) (h1 : ∀ v ∈ ys, v.oneCell' = true) (h : K (a.put o.dst undef) (w.setRow g ys.toArray)) :
    if Region.wanted o (yielded l.toArray a.tmps) = true then Oper.wp P o a w K Q else E := by
  rw [if_pos (by simp [Region.wanted, hgd])]
  obtain ⟨T, hg⟩ := hg
  exact wp_store_row ty x y ho g _ hx hy T _ hg (by simpa using hi) (by simpa using hold) (by simpa [Array.all_eq_true_iff_forall_mem] using h1) h
theorem results_arr2 {fn : Func} {p : Tmp} {ty : TypeId} (h : fn.results = #[.cell p ty]) (tmps : Array Value) (w : World) (g : Nat)
    (hp : tmps.getD p undef = .pointer (some ⟨g, 0, none⟩)) (ha : aggT P ty = true) (xs : List Value) (hg : Arr w g xs) (hi : (P.info? ty).map (·.size) = some xs.length) :
    (results fn tmps).run P w = .ok (.agg xs.toArray) w := by
  obtain ⟨d, hu, hd⟩ := aggT_spec ha
  exact results_arr h tmps w g d hp hu (by cases d <;> first | rfl | cases hd) xs hg hi
/-- What is known of a value, and stays so behind whatever only makes memory. -/
structure Ph where
  p : Value → World → Prop
  mono : ∀ v w1 w2, p v w1 → Below w1.heap.size w1 w2 → p v w2
  fresh : Bool
  lt : fresh = true → ∀ v w, p v w → ∃ g, v = .pointer (some ⟨g, 0, none⟩) ∧ g < w.heap.size
def Ph.is (x : Value) : Ph := ⟨fun v _ => v = x, fun _ _ _ h _ => h, false, fun h => by cases h⟩
theorem ext_trans {w1 w2 w3 : World} {n : Nat} (h1 : Below n w1 w2) (hn : n ≤ w1.heap.size) (h2 : Below w2.heap.size w2 w3) : Below n w1 w3 :=
  h1.trans (h2.mono (Nat.le_trans hn h1.size))
theorem bel {w w1 w2 : World} (h1 : Below w.heap.size w w1) (h2 : Below w1.heap.size w1 w2) : Below w.heap.size w w2 := ext_trans h1 (Nat.le_refl _) h2
end
end Go.Proofs.YtmlmggmnlgcbcaaGreat


namespace Go.Proofs.YtmlmggmnlgcbcaaGreat
open Go.RowKit
section
variable {K : Act → World → Prop} {Q : Exit → Act → World → Prop} {e : Exit} {a : Act} {w : World} {g j : Nat} {xs : List Value} {u : Value}
end
section
variable {P : Program} {ops : Array Oper} {Q : Exit → Act → World → Prop} {md : Region.Mode} {S : World → Prop} {B : Nat}
/-- What has come up is closed: all that it waits for has come up. -/
def Closed (md : Region.Mode) (ops : Array Oper) (listed : Array Bool) : Prop :=
  ∀ k ok, ops[k]? = some ok → listed.getD k false = true → ∀ e ∈ ok.after, Region.binds md e = true → listed.getD e.on false = true
theorem Closed.set {listed : Array Bool} {j : Nat} (h : Closed md ops listed) (hj : j ∈ Region.ready md ops listed) : Closed md ops (listed.setIfInBounds j true) := by
  intro k ok hk hl e he hb
  by_cases hkj : k = j
  · subst hkj
    obtain ⟨-, o, ho, hall⟩ := mem_ready.1 hj
    rw [hk] at ho
    cases ho
    exact getD_set_true (hall e he hb)
  · rw [getD_set_ne false (Ne.symm hkj)] at hl
    exact getD_set_true (h k ok hk hl e he hb)
theorem wpAnyB_first2 {i : Nat} {oi : Oper} {v : Value} (hi : ops[i]? = some oi) (hsel : ∀ (j : Nat) (o : Oper) cs b, ops[j]? = some o → o.op ≠ .select cs b)
    (hQ : ∀ c a w, Q (.panic c) (a.put oi.dst v) w → Q (.panic c) a w) (hiB : i ≠ B)
    (hBw : ∀ listed, Closed md ops listed → B ∈ Region.ready md ops listed → listed.getD i false = true) :
    ∀ (fuel : Nat) (listed : Array Bool) (a : Act) (w : World), Closed md ops listed →
      (∀ j oj, ops[j]? = some oj → j ≠ i → listed.getD j true = false → (∀ e ∈ oj.after, Region.binds md e = true → e.on ≠ i) → oi.apart ops oj = true) →
      i ∈ Region.ready md ops listed → YieldsIf P ops S oi v a → S w →
      wpAnyB P md ops Q S B fuel (listed.setIfInBounds i true) (a.put oi.dst v) w → wpAnyB P md ops Q S B (fuel + 1) listed a w := by
  intro fuel
  induction fuel with
  | zero =>
    intro listed a w _ _ hr hy hS H
    refine ⟨fun h => (by rw [h] at hr; cases hr), fun j hj => ?_⟩
    by_cases hji : j = i
    · subst hji; simp only [if_neg hiB]; exact hy.wpOp hi hS ⟨hS, H⟩
    · have := ready_mono hj hji
      rw [H.1] at this
      cases this
  | succ fuel ih =>
    intro listed a w hc hfree hr hy hS H
    refine ⟨fun h => (by rw [h] at hr; cases hr), fun j hj => ?_⟩
    by_cases hji : j = i
    · subst hji; simp only [if_neg hiB]; exact hy.wpOp hi hS ⟨hS, H⟩
    · have h1 := H.2 j (ready_mono hj hji)
      obtain ⟨hjun, oj, hoj, hall⟩ := mem_ready.1 hj
      have hun0 : listed.getD i false = true → False := fun h2 => by
        have h0 := (mem_ready.1 hr).1
        rcases Nat.lt_or_ge i listed.size with h' | h'
        · simp [h'] at h0 h2; rw [h0] at h2; cases h2
        · simp [Array.getElem?_eq_none h'] at h2
      have hnot : ∀ e ∈ oj.after, Region.binds md e = true → e.on ≠ i := fun e he hb heq => by
        have h1 := hall e he hb
        rw [heq] at h1
        exact hun0 h1
      have hjB : ¬ j = B := fun e => by
        subst e
        exact hun0 (hBw listed hc hj)
      simp only [if_neg hjB] at h1 ⊢
      have h2 := wpOp_putIf hoj (hfree j oj hoj hji hjun hnot) (fun cs b => hsel i oi cs b hi) (fun cs b => hsel j oj cs b hoj) hQ hy h1
      have hfree' : ∀ k ok, ops[k]? = some ok → k ≠ i → (listed.setIfInBounds j true).getD k true = false →
          (∀ e ∈ ok.after, Region.binds md e = true → e.on ≠ i) → oi.apart ops ok = true := fun k ok hk hki hun hno => by
        refine hfree k ok hk hki ?_ hno
        by_cases hjk : j = k
        · subst hjk; exact hjun
        · rw [getD_set_ne true hjk] at hun; exact hun
      refine wpOp_mono (fun a' w' h3 => ⟨h3.2.1, ih (listed.setIfInBounds j true) a' w' (hc.set hj) hfree' (ready_mono hr (Ne.symm hji)) h3.1 h3.2.1 ?_⟩) h2
      rw [Array.setIfInBounds_comm _ _ hji]
      exact h3.2.2
end
/-- B waits for i, by way of others. -/
def reaches (l : List Oper) : Nat → Nat → Nat → Bool
  | 0, _, _ => false
  | f + 1, b, i => match l[b]? with | some o => o.after.any (fun e => Region.binds .any e && (e.on == i || reaches l f e.on i)) | none => false
theorem reach_listed {l : List Oper} {listed : Array Bool} {i : Nat} (hc : Closed .any l.toArray listed) : ∀ f b, reaches l f b i = true →
    (∀ o, l[b]? = some o → ∀ e ∈ o.after, Region.binds .any e = true → listed.getD e.on false = true) → listed.getD i false = true
  | 0, _, h, _ => by cases h
  | f + 1, b, h, hb => by
    unfold reaches at h
    cases ho : l[b]? with
    | none => rw [ho] at h; cases h
    | some o =>
      rw [ho] at h
      obtain ⟨k, hk, hkb⟩ := Array.any_eq_true.1 h
      simp only [Bool.and_eq_true, Bool.or_eq_true, beq_iff_eq] at hkb
      have h1 := hb o ho _ (Array.getElem_mem hk) hkb.1
      rcases hkb.2 with h2 | h2
      · rw [h2] at h1; exact h1
      · refine reach_listed hc f _ h2 (fun o' ho' e' he' hb' => ?_)
        exact hc _ o' (by simpa using ho') h1 e' he' hb'
def closedOk (l : List Oper) (d : Nat) : Bool := (List.range l.length).all fun k => !d.testBit k || (match l[k]? with | some o => o.after.all (fun e => !Region.binds .any e || (mask l.length d).getD e.on false) | none => true)
def closedAll (l : List Oper) : Nat → List Nat → Bool
  | _, [] => true
  | d, i :: is => closedOk l d && closedAll l (d ||| 2 ^ i) is
theorem mask_getDt (n d k : Nat) : (mask n d).getD k false = true → k < n ∧ d.testBit k = true := by
  intro h
  unfold mask at h
  by_cases hk : k < n
  · simp [hk] at h
    exact ⟨hk, h⟩
  · simp [hk] at h
theorem closedOk_spec {l : List Oper} {d : Nat} (h : closedOk l d = true) : Closed .any l.toArray (mask l.length d) := by
  intro k ok hk hl e he hb
  obtain ⟨hkn, hkd⟩ := mask_getDt _ _ _ hl
  have h1 := List.all_eq_true.1 h k (List.mem_range.2 hkn)
  rw [hkd, show l[k]? = some ok by simpa using hk] at h1
  simp only [Bool.not_true, Bool.false_or] at h1
  have h2 := Array.all_eq_true_iff_forall_mem.1 h1 e he
  rw [hb] at h2
  simpa using h2
def barOk2 (l : List Oper) (B i : Nat) : Bool := i != B && (match l[B]? with | some _ => reaches l l.length B i | none => true)
section
variable {P : Program} {Q : Exit → Act → World → Prop}
/-- Like seg; the barrier may wait for what is read by way of others. -/
theorem Tx.seg2 {l : List Oper} {S : World → Prop} {B : Nat} {w : World} {A : Act} (f' d' : Nat) (hs : Region.noSelect l.toArray = true) (hS : S w) :
    ∀ (is : List Nat) {f d : Nat} {a : Act}, (segOk l a.tmps.size f' f d is d' && (is.all (barOk2 l B) && closedAll l d is)) = true → (∀ w', S w' → rd P l w' is a A) → Tx P l Q S B f' d' A w → Tx P l Q S B f d a w
  | [], f, d, a, hok, h, H => by
    simp only [segOk, Bool.and_eq_true, beq_iff_eq] at hok
    obtain ⟨⟨rfl, rfl⟩, -⟩ := hok
    rw [show a = A from h w hS]; exact H
  | i :: is, 0, d, a, hok, h, H => by simp [segOk] at hok
  | i :: is, f + 1, d, a, hok, h, H => by
    simp only [segOk, closedAll, Bool.and_eq_true, List.all_cons] at hok
    obtain ⟨⟨⟨⟨hrest, hf⟩, hr⟩, hd⟩, ⟨hb1, hb2⟩, hc1, hc2⟩ := hok
    cases hi : l[i]? with
    | none => rw [hi] at hd; cases hd
    | some o =>
      rw [hi] at hd
      cases hdst : o.dst with
      | none => simp [hdst] at hd
      | some e =>
        simp only [hdst] at hd
        simp only [Bool.and_eq_true, decide_eq_true_eq, Bool.not_eq_true'] at hd
        obtain ⟨v, hy, hgo⟩ := rd_step (P := P) hi hdst hd.1 hd.2 hS h
        have ih := Tx.seg2 f' d' hs hS is (f := f) (d := d ||| 2 ^ i) (a := a.put o.dst v) (by rw [put_size, hrest, hb2, hc2]; rfl) hgo H
        unfold Tx
        simp only [barOk2, Bool.and_eq_true, bne_iff_ne, ne_eq] at hb1
        refine wpAnyB_first2 (oi := o) (v := v) (by simpa using hi) (Region.noSelect_spec hs) (fun c a w hq => hq) hb1.1 (fun listed hcl hB => ?_) f _ a w (closedOk_spec hc1) (Region.free_spec (by simpa using hi) hf) (by simpa using hr) hy hS ?_
        · obtain ⟨-, oB, hoB, hall⟩ := mem_ready.1 hB
          have hoB' : l[B]? = some oB := by simpa using hoB
          have h2 := hb1.2
          rw [hoB'] at h2
          refine reach_listed hcl l.length B h2 (fun o' ho' e' he' hb' => ?_)
          rw [hoB'] at ho'
          cases ho'
          exact hall e' he' hb'
        · rw [mask_set]
          exact ih
/-- A row that has been stored within a region: the world forgotten. -/
theorem Tx.row {l : List Oper} {S : World → Prop} {B f d : Nat} {a : Act} {w : World} {g : Nat} {xs ys : List Value} (hg : Arr w g xs)
    (h : ∀ W, Arr W g ys → (∀ k zs, k ≠ g → Arr w k zs → Arr W k zs) → (∀ n w0, n ≤ g → Below n w0 w → Below n w0 W) → Tx P l Q S B f d a W) : Tx P l Q S B f d a (w.setRow g ys.toArray) :=
  h _ (hg.setRow ys) (fun _ _ hk h => h.row_other hk _) (fun _ _ hn h => below_setRow h hn _)
end
section
variable {P : Program}
end
end Go.Proofs.YtmlmggmnlgcbcaaGreat


namespace Go.Proofs.YtmlmggmnlgcbcaaGreat
open Go.RowKit
/-- copy into a whole array, from some place on. -/
theorem wpList_copy_arr {P : Program} {w : World} {ops : Array Oper} {rest : List Oper} {o : Oper} {a : Act} {Q : Exit → Act → World → Prop} (hw : Region.wanted o (yielded ops a.tmps) = true) (d s : Operand) (dT sT : TypeId)
    (ho : o.op = .call { callee := .builtin .copy, args := #[d, s], argTypes := #[dT, sT] }) (elem : TypeId) (hu : P.underlying dT = some (.slice elem)) (hsz : (P.info? elem).map (·.size) = some 1)
    (g off dLen dCap : Nat) (hd : a.eval d = .slice (some ⟨g, off, none⟩) dLen dCap) (xs : List Value) (hg : Arr w g xs) (hfit : off + dLen ≤ xs.length) (vs : Value) (hs : a.eval s = vs) (full : List Value) (hsl : Sl w vs full) (h1 : ∀ v ∈ full, v.oneCell' = true)
    (h : wpList P ops Q rest (a.put o.dst (goInt (full.take dLen).length)) (w.setRow g (xs.take off ++ full.take dLen ++ xs.drop (off + (full.take dLen).length)).toArray)) : wpList P ops Q (o :: rest) a w := by
  refine wpList_step fun K hK => ?_
  rw [if_pos hw]
  obtain ⟨sp, cap, rfl, h2, h3, h4, h5⟩ := hsl
  obtain ⟨T, hg⟩ := hg
  cases sp with
  | none =>
    obtain rfl := h4 rfl
    obtain rfl : full = [] := List.eq_nil_of_length_eq_zero (by omega)
    have hrun := run_copy_nil (P := P) w dT sT o.type elem ⟨g, off, none⟩ dLen dCap hu (by cases hq : P.info? elem <;> simp [hq] at hsz ⊢)
    unfold Oper.wp
    simp only [execOp, ho, resolve, invoke, builtin, Sem.run_bind, Sem.run_pure, Result.andThen_ok, List.map_toArray, List.map_cons, List.map_nil, hd, hs, List.length_nil, hrun]
    refine hK _ _ ?_
    simp only [List.take_nil, List.append_nil, List.length_nil, Nat.add_zero, List.take_append_drop] at h
    rwa [setRow_self w g xs.toArray T (0, 0) hg] at h
  | some x =>
    have hl : (full.take dLen).length = Nat.min full.length dLen := by rw [List.length_take]; exact Nat.min_comm _ _
    have hrun := run_copy_row (P := P) w dT sT o.type elem g off dLen dCap x full.length cap xs.toArray T (full.take dLen) hu hsz hg hl (fun j v hj => h5 x rfl j v (by
      rw [List.getElem?_take] at hj
      split at hj
      · exact hj
      · cases hj)) (by have := List.length_take_le dLen full; simp only [List.size_toArray]; omega) (fun v hv => h1 v (List.mem_of_mem_take hv))
    unfold Oper.wp
    simp only [execOp, ho, resolve, invoke, builtin, Sem.run_bind, Sem.run_pure, Result.andThen_ok, List.map_toArray, List.map_cons, List.map_nil, hd, hs, hrun]
    exact hK _ _ h
end Go.Proofs.YtmlmggmnlgcbcaaGreat

