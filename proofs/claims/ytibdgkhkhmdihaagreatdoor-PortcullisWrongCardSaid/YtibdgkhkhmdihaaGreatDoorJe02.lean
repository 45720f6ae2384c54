/- PortcullisWrong: part 2 of its proof: lemmas and contracts, each with its conditions in its own statement; the last part holds the law itself. -/
import Derived.Test.YtibdgkhkhmdihaaGreatDoorJe01

set_option maxHeartbeats 4000000
set_option maxRecDepth 100000
namespace Go.Proofs.YtibdgkhkhmdihaaGreatDoor
open Go.RowKit
section
variable {P : Program} {ops : Array Oper} {Q : Exit → Act → World → Prop} {md : Region.Mode} {S : World → Prop} {B : Nat}
def wpAnyB (P : Program) (md : Region.Mode) (ops : Array Oper) (Q : Exit → Act → World → Prop) (S : World → Prop) (B : Nat) : Nat → Array Bool → Act → World → Prop
 | 0, listed, a, w => Region.ready md ops listed = [] ∧ Q .normal a w
 | fuel + 1, listed, a, w =>
  (Region.ready md ops listed = [] → Q .normal a w) ∧
  ∀ i ∈ Region.ready md ops listed, wpOp P ops Q i (fun a' w' => if i = B then wpAny P md ops Q fuel (listed.setIfInBounds i true) a' w' else S w' ∧ wpAnyB P md ops Q S B fuel (listed.setIfInBounds i true) a' w') a w
theorem wpAny_of_B : ∀ (fuel : Nat) (listed : Array Bool) (a : Act) (w : World), wpAnyB P md ops Q S B fuel listed a w → wpAny P md ops Q fuel listed a w
 | 0, _, _, _, h => h
 | fuel + 1, _, _, _, h => ⟨h.1, fun i hi => wpOp_mono (fun a' w' h' => by
  by_cases e : i = B
  · rw [if_pos e] at h'; exact h'
  · rw [if_neg e] at h'; exact wpAny_of_B fuel _ a' w' h'.2) (h.2 i hi)⟩
theorem wpAnyB_first {i : Nat} {oi : Oper} {v : Value} (hi : ops[i]? = some oi) (hsel : ∀ (j : Nat) (o : Oper) cs b, ops[j]? = some o → o.op ≠ .select cs b)
 (hQ : ∀ c a w, Q (.panic c) (a.put oi.dst v) w → Q (.panic c) a w) (hiB : i ≠ B) (hBw : ∀ oB, ops[B]? = some oB → ∃ e ∈ oB.after, Region.binds md e = true ∧ e.on = i) :
 ∀ (fuel : Nat) (listed : Array Bool) (a : Act) (w : World),
  (∀ j oj, ops[j]? = some oj → j ≠ i → listed.getD j true = false → (∀ e ∈ oj.after, Region.binds md e = true → e.on ≠ i) → oi.apart ops oj = true) →
  i ∈ Region.ready md ops listed → YieldsIf P ops S oi v a → S w →
  wpAnyB P md ops Q S B fuel (listed.setIfInBounds i true) (a.put oi.dst v) w → wpAnyB P md ops Q S B (fuel + 1) listed a w := by
 intro fuel
 induction fuel with
 | zero =>
  intro listed a w _ hr hy hS H
  refine ⟨fun h => (by rw [h] at hr; cases hr), fun j hj => ?_⟩
  by_cases hji : j = i
  · subst hji; simp only [if_neg hiB]; exact hy.wpOp hi hS ⟨hS, H⟩
  · have := ready_mono hj hji
    rw [H.1] at this
    cases this
 | succ fuel ih =>
  intro listed a w hfree hr hy hS H
  refine ⟨fun h => (by rw [h] at hr; cases hr), fun j hj => ?_⟩
  by_cases hji : j = i
  · subst hji; simp only [if_neg hiB]; exact hy.wpOp hi hS ⟨hS, H⟩
  · have h1 := H.2 j (ready_mono hj hji)
    obtain ⟨hjun, oj, hoj, hall⟩ := mem_ready.1 hj
    have hnot : ∀ e ∈ oj.after, Region.binds md e = true → e.on ≠ i := fun e he hb heq => by
     have h1 := hall e he hb
     have h0 := (mem_ready.1 hr).1
     rw [heq] at h1
     rcases Nat.lt_or_ge i listed.size with h' | h'
     · simp [h'] at h0 h1; rw [h0] at h1; cases h1
     · simp [Array.getElem?_eq_none h'] at h1
    have hjB : ¬ j = B := fun e => by
     subst e
     obtain ⟨e, he, hb, heq⟩ := hBw oj hoj
     exact hnot e he hb heq
    simp only [if_neg hjB] at h1 ⊢
    have h2 := wpOp_putIf hoj (hfree j oj hoj hji hjun hnot) (fun cs b => hsel i oi cs b hi) (fun cs b => hsel j oj cs b hoj) hQ hy h1
    have hfree' : ∀ k ok, ops[k]? = some ok → k ≠ i → (listed.setIfInBounds j true).getD k true = false →
     (∀ e ∈ ok.after, Region.binds md e = true → e.on ≠ i) → oi.apart ops ok = true := fun k ok hk hki hun hno => by
     refine hfree k ok hk hki ?_ hno
     by_cases hjk : j = k
     · subst hjk; exact hjun
     · rw [getD_set_ne true hjk] at hun; exact hun
    refine wpOp_mono (fun a' w' h3 => ⟨h3.2.1, ih (listed.setIfInBounds j true) a' w' hfree' (ready_mono hr (Ne.symm hji)) h3.1 h3.2.1 ?_⟩) h2
    rw [Array.setIfInBounds_comm _ _ hji]
    exact h3.2.2
theorem wpAnyB_pure {i : Nat} {oi : Oper} {v : Value} (hi : ops[i]? = some oi) (hsel : ∀ (j : Nat) (o : Oper) cs b, ops[j]? = some o → o.op ≠ .select cs b)
 (hQ : ∀ c a w, Q (.panic c) (a.put oi.dst v) w → Q (.panic c) a w) (hiB : i ≠ B) :
 ∀ (fuel : Nat) (listed : Array Bool) (a : Act) (w : World),
  (∀ j oj, ops[j]? = some oj → j ≠ i → listed.getD j true = false → (∀ e ∈ oj.after, Region.binds md e = true → e.on ≠ i) → oi.apart ops oj = true) →
  i ∈ Region.ready md ops listed → Yields P ops oi v a → S w →
  wpAnyB P md ops Q S B fuel (listed.setIfInBounds i true) (a.put oi.dst v) w → wpAnyB P md ops Q S B (fuel + 1) listed a w := by
 intro fuel
 induction fuel with
 | zero =>
  intro listed a w _ hr hy hS H
  refine ⟨fun h => (by rw [h] at hr; cases hr), fun j hj => ?_⟩
  by_cases hji : j = i
  · subst hji; simp only [if_neg hiB]; exact hy.yieldsIf.wpOp hi hS ⟨hS, H⟩
  · have := ready_mono hj hji
    rw [H.1] at this
    cases this
 | succ fuel ih =>
  intro listed a w hfree hr hy hS H
  refine ⟨fun h => (by rw [h] at hr; cases hr), fun j hj => ?_⟩
  by_cases hji : j = i
  · subst hji; simp only [if_neg hiB]; exact hy.yieldsIf.wpOp hi hS ⟨hS, H⟩
  · have h1 := H.2 j (ready_mono hj hji)
    obtain ⟨hjun, oj, hoj, hall⟩ := mem_ready.1 hj
    have hnot : ∀ e ∈ oj.after, Region.binds md e = true → e.on ≠ i := fun e he hb heq => by
     have h1 := hall e he hb
     have h0 := (mem_ready.1 hr).1
     rw [heq] at h1
     rcases Nat.lt_or_ge i listed.size with h' | h'
     · simp [h'] at h0 h1; rw [h0] at h1; cases h1
     · simp [Array.getElem?_eq_none h'] at h1
    have hfree' : ∀ k ok, ops[k]? = some ok → k ≠ i → (listed.setIfInBounds j true).getD k true = false →
     (∀ e ∈ ok.after, Region.binds md e = true → e.on ≠ i) → oi.apart ops ok = true := fun k ok hk hki hun hno => by
     refine hfree k ok hk hki ?_ hno
     by_cases hjk : j = k
     · subst hjk; exact hjun
     · rw [getD_set_ne true hjk] at hun; exact hun
    by_cases hjB : j = B
    · simp only [if_pos hjB] at h1 ⊢
      have h2 := wpOp_put hoj (hfree j oj hoj hji hjun hnot) (fun cs b => hsel i oi cs b hi) (fun cs b => hsel j oj cs b hoj) hQ hy h1
      refine wpOp_mono (fun a' w' h3 => wpAny_first hi hsel hQ fuel (listed.setIfInBounds j true) a' w' hfree' (ready_mono hr (Ne.symm hji)) h3.1 ?_) h2
      rw [Array.setIfInBounds_comm _ _ hji]
      exact h3.2
    · simp only [if_neg hjB] at h1 ⊢
      have h2 := wpOp_put hoj (hfree j oj hoj hji hjun hnot) (fun cs b => hsel i oi cs b hi) (fun cs b => hsel j oj cs b hoj) hQ hy h1
      refine wpOp_mono (fun a' w' h3 => ⟨h3.2.1, ih (listed.setIfInBounds j true) a' w' hfree' (ready_mono hr (Ne.symm hji)) h3.1 h3.2.1 ?_⟩) h2
      rw [Array.setIfInBounds_comm _ _ hji]
      exact h3.2.2
theorem wpAnyB_weaken {S' : World → Prop} (hSS : ∀ w, S' w → S w) : ∀ (fuel : Nat) (listed : Array Bool) (a : Act) (w : World), wpAnyB P md ops Q S' B fuel listed a w → wpAnyB P md ops Q S B fuel listed a w
 | 0, _, _, _, h => h
 | fuel + 1, _, _, _, h => ⟨h.1, fun i hi => wpOp_mono (fun a' w' h' => by
  by_cases e : i = B
  · rw [if_pos e] at h' ⊢; exact h'
  · rw [if_neg e] at h' ⊢; exact ⟨hSS w' h'.1, wpAnyB_weaken hSS fuel _ a' w' h'.2⟩) (h.2 i hi)⟩
end
section
variable {P : Program} {Q : Exit → Act → World → Prop}
def Tx (P : Program) (l : List Oper) (Q : Exit → Act → World → Prop) (S : World → Prop) (B f d : Nat) (a : Act) (w : World) : Prop :=
 wpAnyB P .any l.toArray (NoP Q) S B f (mask l.length d) a w
theorem Tx.start {l : List Oper} {id : Nat} {a : Act} {w : World} (S : World → Prop) (B n : Nat) (hn : l.length = n) (hm : P.follows .mixedOrders = true) (h : Tx P l Q S B n 0 a w.drew) : (Code.region id l.toArray true).wp P Q a w := by
 refine Code.wp_mono NoP.imp (wp_region_any hm ?_)
 subst hn
 have e : l.toArray.size = l.length := by simp
 rw [e, mask_zero]
 exact wpAny_of_B _ _ _ _ h
def barOk (l : List Oper) (B i : Nat) : Bool := i != B && (match l[B]? with | some o => o.after.any (fun e => Region.binds .any e && e.on == i) | none => true)
theorem Tx.seg {l : List Oper} {S : World → Prop} {B : Nat} {w : World} {A : Act} (f' d' : Nat) (hs : Region.noSelect l.toArray = true) (hS : S w) :
 ∀ (is : List Nat) {f d : Nat} {a : Act}, (segOk l a.tmps.size f' f d is d' && is.all (barOk l B)) = true → (∀ w', S w' → rd P l w' is a A) → Tx P l Q S B f' d' A w → Tx P l Q S B f d a w
 | [], f, d, a, hok, h, H => by
  simp only [segOk, Bool.and_eq_true, beq_iff_eq] at hok
  obtain ⟨⟨rfl, rfl⟩, -⟩ := hok
  rw [show a = A from h w hS]; exact H
 | i :: is, 0, d, a, hok, h, H => by simp [segOk] at hok
 | i :: is, f + 1, d, a, hok, h, H => by
  simp only [segOk, Bool.and_eq_true, List.all_cons] at hok
  obtain ⟨⟨⟨⟨hrest, hf⟩, hr⟩, hd⟩, hb1, hb2⟩ := hok
  cases hi : l[i]? with
  | none => rw [hi] at hd; cases hd
  | some o =>
   rw [hi] at hd
   cases hdst : o.dst with
   | none => simp [hdst] at hd
   | some e =>
    simp only [hdst] at hd
    simp only [Bool.and_eq_true, decide_eq_true_eq, Bool.not_eq_true'] at hd
    obtain ⟨v, hy, hgo⟩ := rd_step (P := P) hi hdst hd.1 hd.2 hS h
    have ih := Tx.seg f' d' hs hS is (f := f) (d := d ||| 2 ^ i) (a := a.put o.dst v) (by rw [put_size, hrest, hb2]; rfl) hgo H
    unfold Tx
    simp only [barOk, Bool.and_eq_true, bne_iff_ne, ne_eq] at hb1
    refine wpAnyB_first (oi := o) (v := v) (by simpa using hi) (Region.noSelect_spec hs) (fun c a w hq => hq) hb1.1 (fun oB hoB => ?_) f _ a w (Region.free_spec (by simpa using hi) hf) (by simpa using hr) hy hS ?_
    · have h2 := hb1.2
      rw [show l[B]? = some oB by simpa using hoB] at h2
      obtain ⟨k, hk, hkb⟩ := Array.any_eq_true.1 h2
      simp only [Bool.and_eq_true, beq_iff_eq] at hkb
      exact ⟨_, Array.getElem_mem hk, hkb.1, hkb.2⟩
    · rw [mask_set]
      exact ih
theorem Tx.pure {l : List Oper} {S : World → Prop} {B : Nat} {w : World} {A : Act} (f' d' : Nat) (hs : Region.noSelect l.toArray = true) (hS : S w) :
 ∀ (is : List Nat) {f d : Nat} {a : Act}, (segOk l a.tmps.size f' f d is d' && !is.contains B) = true → (∀ w', rd P l w' is a A) → Tx P l Q S B f' d' A w → Tx P l Q S B f d a w
 | [], f, d, a, hok, h, H => by
  simp only [segOk, Bool.and_eq_true, beq_iff_eq] at hok
  obtain ⟨⟨rfl, rfl⟩, -⟩ := hok
  rw [show a = A from h w]; exact H
 | i :: is, 0, d, a, hok, h, H => by simp [segOk] at hok
 | i :: is, f + 1, d, a, hok, h, H => by
  simp only [segOk, Bool.and_eq_true, List.contains_cons, Bool.not_or, Bool.not_eq_true', beq_eq_false_iff_ne] at hok
  obtain ⟨⟨⟨⟨hrest, hf⟩, hr⟩, hd⟩, hb1, hb2⟩ := hok
  cases hi : l[i]? with
  | none => rw [hi] at hd; cases hd
  | some o =>
   rw [hi] at hd
   cases hdst : o.dst with
   | none => simp [hdst] at hd
   | some e =>
    simp only [hdst] at hd
    simp only [Bool.and_eq_true, decide_eq_true_eq, Bool.not_eq_true'] at hd
    obtain ⟨v, hy, hgo⟩ := rd_step (P := P) (S := fun _ => True) (w := w) hi hdst hd.1 hd.2 trivial (fun w' _ => h w')
    have ih := Tx.pure f' d' hs hS is (f := f) (d := d ||| 2 ^ i) (a := a.put o.dst v) (by rw [put_size, hrest, hb2]; rfl) (fun w' => hgo w' trivial) H
    have hyy : Yields P l.toArray o v a := hy.imp (fun ⟨h1, h2⟩ => ⟨h1, fun w' => h2 w' trivial⟩) id
    unfold Tx
    refine wpAnyB_pure (oi := o) (v := v) (by simpa using hi) (Region.noSelect_spec hs) (fun c a w hq => hq) (fun e => hb1 e.symm) f _ a w (Region.free_spec (by simpa using hi) hf) (by simpa using hr) hyy hS ?_
    rw [mask_set]
    exact ih
theorem Tx.eff {l : List Oper} {S : World → Prop} {B : Nat} {w : World} {f d : Nat} {a : Act} {o : Oper} (i d' : Nat) (ho : l[i]? = some o) (hr : (Region.ready .any l.toArray (mask l.length d) == [i] && (d ||| 2 ^ i) == d' && i != B) = true)
 (h : ∀ K : Act → World → Prop, (∀ (S' : World → Prop) a' w', S w' → (∀ w'', S' w'' → S w'') → Tx P l Q S' B f d' a' w' → K a' w') → if Region.wanted o (yielded l.toArray a.tmps) = true then Oper.wp P o a w K (NoP Q) else K (a.put o.dst undef) w) : Tx P l Q S B (f + 1) d a w := by
 simp only [Bool.and_eq_true, beq_iff_eq, bne_iff_ne, ne_eq] at hr
 obtain ⟨⟨hr, rfl⟩, hiB⟩ := hr
 unfold Tx
 refine ⟨fun h0 => (by rw [hr] at h0; cases h0), ?_⟩
 rw [hr]
 intro j hj
 simp only [List.mem_singleton] at hj
 subst hj
 refine wpOp_step (o := o) (by simpa using ho) fun K hK => ?_
 refine h K fun S' a' w' h1 h2 h3 => hK _ _ ?_
 rw [if_neg hiB]
 refine ⟨h1, ?_⟩
 rw [mask_set]
 exact wpAnyB_weaken h2 _ _ _ _ h3
theorem Tx.bar {l : List Oper} {S : World → Prop} {B : Nat} {w : World} {f d : Nat} {a : Act} {o : Oper} (d' : Nat) (ho : l[B]? = some o) (hr : (Region.ready .any l.toArray (mask l.length d) == [B] && (d ||| 2 ^ B) == d') = true)
 (h : ∀ K : Act → World → Prop, (∀ (S' : World → Prop) (B' : Nat) a' w', Tx P l Q S' B' f d' a' w' → K a' w') → if Region.wanted o (yielded l.toArray a.tmps) = true then Oper.wp P o a w K (NoP Q) else K (a.put o.dst undef) w) : Tx P l Q S B (f + 1) d a w := by
 simp only [Bool.and_eq_true, beq_iff_eq] at hr
 obtain ⟨hr, rfl⟩ := hr
 unfold Tx
 refine ⟨fun h0 => (by rw [hr] at h0; cases h0), ?_⟩
 rw [hr]
 intro j hj
 simp only [List.mem_singleton] at hj
 subst hj
 refine wpOp_step (o := o) (by simpa using ho) fun K hK => ?_
 refine h K fun S' B' a' w' h3 => hK _ _ ?_
 rw [if_pos rfl, mask_set]
 exact wpAny_of_B _ _ _ _ h3
theorem wpAnyB_done {md : Region.Mode} {ops : Array Oper} {S : World → Prop} {B : Nat} {listed : Array Bool} {a : Act} {w : World} (hr : Region.ready md ops listed = []) (h : Q .normal a w) :
 ∀ fuel, wpAnyB P md ops Q S B fuel listed a w
 | 0 => ⟨hr, h⟩
 | _ + 1 => ⟨fun _ => h, by rw [hr]; simp⟩
theorem Tx.done {l : List Oper} {S : World → Prop} {B : Nat} {w : World} {f d : Nat} {a : Act} (hk : Region.ready .any l.toArray (mask l.length d) = []) (h : Q .normal a w) : Tx P l Q S B f d a w :=
 wpAnyB_done (Q := NoP Q) hk h _
def aggT (P : Program) (ty : TypeId) : Bool := match P.underlying ty with | some (.struct _) => true | some (.array _ _) => true | _ => false
def aggD (d : TypeDesc) : Bool := match d with | .struct _ | .array _ _ => true | _ => false
theorem aggT_spec {ty : TypeId} (h : aggT P ty = true) : ∃ d, P.underlying ty = some d ∧ aggD d = true := by
 unfold aggT at h
 cases hu : P.underlying ty with
 | none => rw [hu] at h; cases h
 | some d => rw [hu] at h; exact ⟨d, rfl, by cases d <;> first | rfl | cases h⟩
theorem rd_load_arr {l : List Oper} {w : World} {i : Nat} {is : List Nat} {a A : Act} {o : Oper} (hi : l[i]? = some o) (hw : Region.wanted o (yielded l.toArray a.tmps) = true) (ty : TypeId) (x : Operand) (ho : o.op = .load ty x)
 (g : Nat) (hx : a.eval x = .pointer (some ⟨g, 0, none⟩)) (ha : aggT P ty = true) (xs : List Value) (hg : Arr w g xs) (hz : (P.info? ty).map (·.size) = some xs.length)
 (h : rd P l w is (a.put o.dst (.agg xs.toArray)) A) : rd P l w (i :: is) a A := by
 obtain ⟨d, hu, hd⟩ := aggT_spec ha
 obtain ⟨T, hg⟩ := hg
 refine rd_take hi hw ?_ h
 unfold execOp
 simp only [ho, hx, Instr.loadAt, Instr.sureAddr, Sem.run_bind, Sem.run_pure, Result.andThen_ok, run_loadVar_row w g T ty _ (0, 0) d hg hu (by cases d <;> first | rfl | cases hd) (by simpa using hz)]
theorem wpList_load_arr2 {ops : Array Oper} {rest : List Oper} {o : Oper} {a : Act} {w : World} (hw : Region.wanted o (yielded ops a.tmps) = true) (ty : TypeId) (x : Operand) (ho : o.op = .load ty x)
 (g : Nat) (hx : a.eval x = .pointer (some ⟨g, 0, none⟩)) (ha : aggT P ty = true) (xs : List Value) (hg : Arr w g xs) (hi : (P.info? ty).map (·.size) = some xs.length)
 (h : wpList P ops Q rest (a.put o.dst (.agg xs.toArray)) w) : wpList P ops Q (o :: rest) a w := by
 obtain ⟨d, hu, hd⟩ := aggT_spec ha
 obtain ⟨T, hg⟩ := hg
 refine wpList_step fun K hK => ?_
 rw [if_pos hw]
 exact wp_load_row ty x ho g hx T _ (0, 0) d hg hu (by cases d <;> first | rfl | cases hd) (by simpa using hi) (hK _ _ h)
theorem zLd {ops : Array Oper} {rest : List Oper} {o : Oper} {a : Act} {w : World} {ty : TypeId} {x : Operand} {g : Nat} {xs : List Value} (h : wpList P ops Q rest (a.put o.dst (.agg xs.toArray)) w)
 (hw : Region.wanted o (yielded ops a.tmps) = true := by exact rfl) (ho : o.op = .load ty x := by exact rfl) (hx : a.eval x = .pointer (some ⟨g, 0, none⟩) := by exact rfl) (ha : aggT P ty = true := by decide +kernel) (hg : Arr w g xs := by assumption) (hi : (P.info? ty).map (·.size) = some xs.length := by exact zLn) :
 wpList P ops Q (o :: rest) a w := wpList_load_arr2 hw ty x ho g hx ha xs hg hi h
theorem step_store_arr {l : List Oper} {o : Oper} {a : Act} {w : World} {K : Act → World → Prop} {E : Prop} (hgd : o.guard = none) (ty : TypeId) (x y : Operand) (ho : o.op = .store ty x y)
 (g : Nat) (ys : List Value) (hx : a.eval x = .pointer (some ⟨g, 0, none⟩)) (hy : a.eval y = .agg ys.toArray) (xs : List Value) (hg : Arr w g xs) (hi : (P.info? ty).map (·.size) = some ys.length)
 (hold : xs.length = ys.length) (h1 : ∀ v ∈ ys, v.oneCell' = true) (h : K (a.put o.dst undef) (w.setRow g ys.toArray)) :
 if Region.wanted o (yielded l.toArray a.tmps) = true then Oper.wp P o a w K Q else E := by
 rw [if_pos (by simp [Region.wanted, hgd])]
 obtain ⟨T, hg⟩ := hg
 exact wp_store_row ty x y ho g _ hx hy T _ hg (by simpa using hi) (by simpa using hold) (by simpa [Array.all_eq_true_iff_forall_mem] using h1) h
theorem zSt {ops : Array Oper} {rest : List Oper} {o : Oper} {a : Act} {w : World} {ty : TypeId} {x y : Operand} {g : Nat} {ys xs : List Value} (h : wpList P ops Q rest (a.put o.dst undef) (w.setRow g ys.toArray))
 (hg : o.guard = none := by exact rfl) (ho : o.op = .store ty x y := by exact rfl) (hx : a.eval x = .pointer (some ⟨g, 0, none⟩) := by exact rfl) (hy : a.eval y = .agg ys.toArray := by exact rfl) (hr : Arr w g xs := by first | assumption | exact Arr.new _ _ _)
 (hi : (P.info? ty).map (·.size) = some ys.length := by exact zLn) (hl : xs.length = ys.length := by exact zLm) (h1 : ∀ v ∈ ys, v.oneCell' = true := by exact zOn) : wpList P ops Q (o :: rest) a w := wpList_store_arr hg ty x y ho g ys hx hy xs hr hi hl h1 h
theorem results_arr2 {fn : Func} {p : Tmp} {ty : TypeId} (h : fn.results = #[.cell p ty]) (tmps : Array Value) (w : World) (g : Nat)
 (hp : tmps.getD p undef = .pointer (some ⟨g, 0, none⟩)) (ha : aggT P ty = true) (xs : List Value) (hg : Arr w g xs) (hi : (P.info? ty).map (·.size) = some xs.length) :
 (results fn tmps).run P w = .ok (.agg xs.toArray) w := by
 obtain ⟨d, hu, hd⟩ := aggT_spec ha
 exact results_arr h tmps w g d hp hu (by cases d <;> first | rfl | cases hd) xs hg hi
def dstAt (l : List Oper) (i : Nat) : Option Tmp := (l[i]?).bind (·.dst)
def fill (l : List Oper) (m : Nat) (vs : Nat → Value) : List Nat → Act → Act
 | [], a => a
 | i :: is, a => fill l m vs is (if m.testBit i then a.put (dstAt l i) (vs i) else a)
def fillL (vs : Nat → Value) : List (Nat × Nat) → Act → Act
 | [], a => a
 | (i, t) :: is, a => fillL vs is (a.put (some t) (vs i))
def upd (vs : Nat → Value) (i : Nat) (v : Value) : Nat → Value := fun j => if j = i then v else vs j
theorem put_other {a : Act} {d : Option Tmp} {v : Value} {t : Nat} (h : d ≠ some t) : (a.put d v).tmps[t]? = a.tmps[t]? := by
 cases d with
 | none => rfl
 | some e => exact put_tmps_ne (fun he => h (by rw [he]))
theorem fill_none {l : List Oper} {m : Nat} {vs : Nat → Value} {t : Nat} : ∀ (is : List Nat) (a : Act), (∀ i ∈ is, m.testBit i = true → dstAt l i ≠ some t) → (fill l m vs is a).tmps[t]? = a.tmps[t]?
 | [], _, _ => rfl
 | i :: is, a, h => by
  rw [fill, fill_none is _ (fun j hj => h j (List.mem_cons_of_mem _ hj))]
  split
  · rename_i hb
    exact put_other (h i (by simp) hb)
  · rfl
def Diff (l : List Oper) (is : List Nat) : Prop := is.Pairwise fun i j => i ≠ j ∧ ∀ t, dstAt l i = some t → dstAt l j ≠ some t
theorem fill_some {l : List Oper} {m : Nat} {vs : Nat → Value} {t i : Nat} : ∀ (is : List Nat) (a : Act), Diff l is → i ∈ is → m.testBit i = true → dstAt l i = some t → t < a.tmps.size → (fill l m vs is a).tmps[t]? = some (vs i)
 | [], _, _, h, _, _, _ => by cases h
 | j :: is, a, hd, h, hb, ht, hlt => by
  unfold Diff at hd
  rw [List.pairwise_cons] at hd
  rw [fill]
  rcases List.mem_cons.1 h with rfl | h
  · rw [if_pos hb, fill_none is _ (fun k hk _ => (hd.1 k hk).2 t ht), ht, put_tmps_eq hlt]
  · refine fill_some is _ hd.2 h hb ht ?_
    split
    · rw [put_size]; exact hlt
    · exact hlt
theorem fill_comm {l : List Oper} {m : Nat} {vs : Nat → Value} {d : Option Tmp} {v : Value} : ∀ (is : List Nat) (a : Act), (∀ j ∈ is, ∀ t, d = some t → dstAt l j ≠ some t) → (fill l m vs is a).put d v = fill l m vs is (a.put d v)
 | [], _, _ => rfl
 | j :: is, a, h => by
  rw [fill, fill, fill_comm is _ (fun k hk => h k (List.mem_cons_of_mem _ hk))]
  congr 1
  split
  · exact (Act.put_comm a v (vs j) (h j (by simp))).symm
  · rfl
theorem fill_congr {l : List Oper} {m m' : Nat} {vs vs' : Nat → Value} : ∀ (is : List Nat) (a : Act), (∀ j ∈ is, m.testBit j = m'.testBit j ∧ vs j = vs' j) → fill l m vs is a = fill l m' vs' is a
 | [], _, _ => rfl
 | j :: is, a, h => by
  rw [fill, fill, fill_congr is _ (fun k hk => h k (List.mem_cons_of_mem _ hk)), (h j (by simp)).1, (h j (by simp)).2]
theorem testBit_or_two (m i k : Nat) : (m ||| 2 ^ i).testBit k = (m.testBit k || decide (i = k)) := by
 rw [Nat.testBit_or, Nat.testBit_two_pow]
theorem fill_put {l : List Oper} {m i : Nat} {vs : Nat → Value} {v : Value} : ∀ (is : List Nat) (a : Act), Diff l is → i ∈ is → m.testBit i = false → (fill l m vs is a).put (dstAt l i) v = fill l (m ||| 2 ^ i) (upd vs i v) is a
 | [], _, _, h, _ => by cases h
 | j :: is, a, hd, h, hb => by
  unfold Diff at hd
  rw [List.pairwise_cons] at hd
  by_cases e : i = j
  · subst e
    rw [fill, fill, hb, testBit_or_two, hb]
    simp only [Bool.false_eq_true, if_false, decide_true, Bool.or_true, if_true, upd]
    rw [fill_comm is _ (fun k hk t ht => (hd.1 k hk).2 t ht)]
    refine fill_congr is _ (fun k hk => ⟨?_, ?_⟩)
    · rw [testBit_or_two, decide_eq_false (hd.1 k hk).1, Bool.or_false]
    · show vs k = (if k = i then v else vs k)
      rw [if_neg (fun e => (hd.1 k hk).1 e.symm)]
  · have hi : i ∈ is := by
     rcases List.mem_cons.1 h with h | h
     · exact absurd h e
     · exact h
    rw [fill, fill, testBit_or_two, decide_eq_false e, Bool.or_false, fill_put is _ hd.2 hi hb]
    have e2 : upd vs i v j = vs j := by unfold upd; rw [if_neg (Ne.symm e)]
    rw [e2]
def waitsFor (l : List Oper) (k j : Nat) : Bool := match l[k]? with | some o => o.after.any (fun e => Region.binds .any e && e.on == j) | none => false
def seqReady (l : List Oper) : Nat → List Nat → Bool
 | _, [] => true
 | d, i :: is => (match l[i]? with | some o => o.after.all (fun e => !Region.binds .any e || (d.testBit e.on && decide (e.on < l.length))) | none => false) && !d.testBit i && seqReady l (d ||| 2 ^ i) is
def depsOk (l : List Oper) (is : List Nat) (i : Nat) (deps : List (Nat × Nat)) : Bool :=
 deps.all (fun p => is.contains p.1 && dstAt l p.1 == some p.2 && waitsFor l i p.1) &&
 is.all (fun j => match l[i]?, dstAt l j with | some o, some t => !(o.looksAt l.toArray).contains t || deps.contains (j, t) | _, _ => true)
def diffB (l : List Oper) : List Nat → Bool
 | [] => true
 | i :: is => is.all (fun j => i != j && (match dstAt l i with | some t => dstAt l j != some t | none => true)) && diffB l is
theorem diff_of {l : List Oper} : ∀ (is : List Nat), diffB l is = true → Diff l is
 | [], _ => List.Pairwise.nil
 | i :: is, h => by
  simp only [diffB, Bool.and_eq_true] at h
  refine List.Pairwise.cons (fun j hj => ?_) (diff_of is h.2)
  have h1 := List.all_eq_true.1 h.1 j hj
  simp only [Bool.and_eq_true, bne_iff_ne, ne_eq] at h1
  refine ⟨h1.1, fun t ht => ?_⟩
  rw [ht] at h1
  simpa using h1.2
def slotsDiff : List (Nat × Nat) → Bool
 | [] => true
 | p :: ps => ps.all (fun q => p.2 != q.2) && slotsDiff ps
theorem slotsDiff_of : ∀ (ps : List (Nat × Nat)), slotsDiff ps = true → ps.Pairwise fun x y => x.2 ≠ y.2
 | [], _ => List.Pairwise.nil
 | p :: ps, h => by
  simp only [slotsDiff, Bool.and_eq_true] at h
  refine List.Pairwise.cons (fun q hq => ?_) (slotsDiff_of ps h.2)
  simpa using List.all_eq_true.1 h.1 q hq
def freeE (l : List Oper) (d i : Nat) : Bool :=
 match l[i]? with
 | none => false
 | some oi => (List.range l.length).all fun j => j == i || d.testBit j || waitsFor l j i || waitsFor l i j || (match l[j]? with | some oj => Oper.apart l.toArray oi oj | none => true)
def poolOk (l : List Oper) (size f d : Nat) (is : List Nat) (deps : List (Bool × List (Nat × Nat))) (f' d' : Nat) : Bool :=
 f == f' + is.length && is.foldl (fun m i => m ||| 2 ^ i) d == d' && seqReady l d is &&
 diffB l is &&
 is.all (fun i => match dstAt l i with | some t => decide (t < size) | none => true) &&
 deps.length == is.length && (is.zip deps).all (fun p => depsOk l is p.1 p.2.2 && slotsDiff p.2.2 && (!p.2.1 || freeE l d p.1)) &&
 (List.range l.length).all (fun k => d.testBit k || is.contains k || (is.zip deps).all (fun p => p.2.1 || waitsFor l k p.1 || is.any (fun q => waitsFor l k q && waitsFor l q p.1)) || (List.range l.length).any (fun k' => !d.testBit k' && !is.contains k' && waitsFor l k k'))
def AllPhi (Φ : Nat → Value → World → Prop) (vs : Nat → Value) (w : World) : List (Nat × Nat) → Prop
 | [] => True
 | p :: ps => Φ p.1 (vs p.1) w ∧ AllPhi Φ vs w ps
theorem allPhi_of {Φ : Nat → Value → World → Prop} {vs : Nat → Value} {w : World} : ∀ (ps : List (Nat × Nat)), (∀ p ∈ ps, Φ p.1 (vs p.1) w) → AllPhi Φ vs w ps
 | [], _ => trivial
 | p :: ps, h => ⟨h p (by simp), allPhi_of ps (fun q hq => h q (List.mem_cons_of_mem _ hq))⟩
def Ob (P : Program) (l : List Oper) (Q : Exit → Act → World → Prop) (S : World → Prop) (Ext : World → World → Prop) (Φ N : Nat → Value → World → Prop) (a : Act) (W : World) (i : Nat) (deps : List (Nat × Nat)) : Prop :=
 ∃ o, l[i]? = some o ∧ ∀ (vs : Nat → Value) (w : World), S w → Ext W w → AllPhi Φ vs w deps → ∀ K : Act → World → Prop,
  (∀ v w', Φ i v w' → Ext w w' → N i v w → K ((fillL vs deps a).put o.dst v) w') →
  if Region.wanted o (yielded l.toArray (fillL vs deps a).tmps) = true then Oper.wp P o (fillL vs deps a) w K (NoP Q) else K ((fillL vs deps a).put o.dst undef) w
def ObE (P : Program) (l : List Oper) (S : World → Prop) (Ext : World → World → Prop) (Φ N : Nat → Value → World → Prop) (a : Act) (W : World) (i : Nat) (deps : List (Nat × Nat)) : Prop :=
 ∃ o, l[i]? = some o ∧ ∀ (vs : Nat → Value) (w : World), S w → Ext W w → AllPhi Φ vs w deps →
  ∃ v, Region.wanted o (yielded l.toArray (fillL vs deps a).tmps) = true ∧ (∀ w', (execOp (fillL vs deps a).eval o).run P w' = .ok (.value v) w') ∧ Φ i v w ∧ N i v w
def AllOb (P : Program) (l : List Oper) (Q : Exit → Act → World → Prop) (S : World → Prop) (Ext : World → World → Prop) (Φ N : Nat → Value → World → Prop) (a : Act) (W : World) : List Nat → List (Bool × List (Nat × Nat)) → Prop
 | i :: is, (false, ds) :: dss => Ob P l Q S Ext Φ N a W i ds ∧ AllOb P l Q S Ext Φ N a W is dss
 | i :: is, (true, ds) :: dss => ObE P l S Ext Φ N a W i ds ∧ AllOb P l Q S Ext Φ N a W is dss
 | [], _ => True
 | _ :: _, [] => False
theorem allOb_mem {l : List Oper} {S : World → Prop} {Ext : World → World → Prop} {Φ N : Nat → Value → World → Prop} {a : Act} {W : World} :
 ∀ (is : List Nat) (dss : List (Bool × List (Nat × Nat))), AllOb P l Q S Ext Φ N a W is dss → ∀ i ∈ is, ∃ b ds, (i, (b, ds)) ∈ is.zip dss ∧ if b = true then ObE P l S Ext Φ N a W i ds else Ob P l Q S Ext Φ N a W i ds
 | [], _, _, i, hi => by cases hi
 | j :: is, [], h, _, _ => h.elim
 | j :: is, (false, ds) :: dss, h, i, hi => by
  rcases List.mem_cons.1 hi with rfl | hi
  · exact ⟨false, ds, by simp, by simpa using h.1⟩
  · obtain ⟨b, ds', h1, h2⟩ := allOb_mem is dss h.2 i hi
    exact ⟨b, ds', by simp [h1], h2⟩
 | j :: is, (true, ds) :: dss, h, i, hi => by
  rcases List.mem_cons.1 hi with rfl | hi
  · exact ⟨true, ds, by simp, by simpa using h.1⟩
  · obtain ⟨b, ds', h1, h2⟩ := allOb_mem is dss h.2 i hi
    exact ⟨b, ds', by simp [h1], h2⟩
theorem fillL_size {vs : Nat → Value} : ∀ (ds : List (Nat × Nat)) (a : Act), (fillL vs ds a).tmps.size = a.tmps.size
 | [], _ => rfl
 | (i, t) :: ds, a => by rw [fillL, fillL_size ds, put_size]
theorem fillL_none {vs : Nat → Value} {t : Nat} : ∀ (ds : List (Nat × Nat)) (a : Act), (∀ p ∈ ds, p.2 ≠ t) → (fillL vs ds a).tmps[t]? = a.tmps[t]?
 | [], _, _ => rfl
 | (i, e) :: ds, a, h => by
  rw [fillL, fillL_none ds _ (fun p hp => h p (List.mem_cons_of_mem _ hp))]
  exact put_other (fun he => h (i, e) (by simp) (Option.some.inj he))
theorem fillL_some {vs : Nat → Value} {i t : Nat} : ∀ (ds : List (Nat × Nat)) (a : Act), (ds.Pairwise fun x y => x.2 ≠ y.2) → (i, t) ∈ ds → t < a.tmps.size → (fillL vs ds a).tmps[t]? = some (vs i)
 | [], _, _, h, _ => by cases h
 | (j, e) :: ds, a, hd, h, hlt => by
  rw [List.pairwise_cons] at hd
  rw [fillL]
  rcases List.mem_cons.1 h with h | h
  · cases h
    rw [fillL_none ds _ (fun p hp he => hd.1 p hp he.symm), put_tmps_eq hlt]
  · exact fillL_some ds _ hd.2 h (by rw [put_size]; exact hlt)
theorem eval_same {a b : Act} {x : Operand} (h : ∀ t, x = .tmp t → a.tmps[t]? = b.tmps[t]?) : a.eval x = b.eval x := by
 cases x with
 | tmp t =>
  have := h t rfl
  simp only [Act.eval, Array.getD_eq_getD_getElem?, this]
 | _ => rfl
theorem wanted_same {ops : Array Oper} {o : Oper} {a b : Act} (h : ∀ t ∈ o.looksAt ops, a.tmps[t]? = b.tmps[t]?) : Region.wanted o (yielded ops a.tmps) = Region.wanted o (yielded ops b.tmps) := by
 unfold Region.wanted
 cases hg : o.guard with
 | none => rfl
 | some gw =>
  obtain ⟨g, want⟩ := gw
  have hy : yielded ops a.tmps g = yielded ops b.tmps g := by
   unfold yielded
   cases ht : (ops[g]?).bind (·.dst) with
   | none => rfl
   | some t =>
    have := h t (by simp [Oper.looksAt, hg, ht])
    simp only [Option.bind_some, this]
  simp only [hy]
theorem exec_same {ops : Array Oper} {o : Oper} {a b : Act} (hs : ∀ cs c, o.op ≠ .select cs c) (h : ∀ t ∈ o.looksAt ops, a.tmps[t]? = b.tmps[t]?) : execOp a.eval o = execOp b.eval o :=
 execOp_congr o hs fun x hx => eval_same fun t ht => h t (by
  subst ht
  exact List.mem_append_left _ (List.mem_filterMap.2 ⟨.tmp t, by simpa using hx, rfl⟩))
theorem put_inj {a : Act} {d : Option Tmp} {v u : Value} (hd : ∀ t, d = some t → t < a.tmps.size) (h : a.put d v = a.put d u) : d = none ∨ v = u := by
 cases d with
 | none => exact .inl rfl
 | some t =>
  refine .inr ?_
  have h1 := put_tmps_eq (a := a) (v := v) (hd t rfl)
  rw [h, put_tmps_eq (hd t rfl)] at h1
  exact (Option.some.inj h1).symm
theorem wp_pass {o : Oper} {a b : Act} {w : World} {R : Value → World → Prop} {K : Act → World → Prop} (hd : ∀ t, o.dst = some t → t < a.tmps.size) (he : execOp b.eval o = execOp a.eval o)
 (h : Oper.wp P o a w (fun c w' => ∃ v, c = a.put o.dst v ∧ R v w') (NoP Q)) (hK : ∀ v w', R v w' → K (b.put o.dst v) w') : Oper.wp P o b w K (NoP Q) := by
 have key : ∀ v w', (∃ u, a.put o.dst v = a.put o.dst u ∧ R u w') → K (b.put o.dst v) w' := by
  rintro v w' ⟨u, h1, h2⟩
  have h3 := hK u w' h2
  rcases put_inj hd h1 with h4 | h4
  · rw [h4] at h3 ⊢; exact h3
  · rw [h4]; exact h3
 unfold Oper.wp at *
 rw [he]
 generalize (execOp a.eval o).run P w = r at *
 cases r with
 | ok n w' =>
  cases n <;> simp only [Oper.upon] at h ⊢
  case value v => exact key v w' h
  case skip => exact key _ w' h
  case defer d =>
   obtain ⟨u, h1, -⟩ := h
   cases hdst : o.dst <;> rw [hdst] at h1 <;> (have h2 := congrArg (fun x => x.defers.length) h1; simp [Act.put] at h2)
  case enter f args =>
   refine Calls.mono h fun e w'' hq => ?_
   cases e with
   | returned v => exact key v w'' hq
   | panicked c => exact hq
   | outgrown => exact hq
  case row row args => exact Rows.mono h fun v w'' hq => key v w'' hq
 | halt x w' =>
  cases x <;> simp only [Oper.upon] at h ⊢
  case panic v => exact h
theorem mask_getD {n m i : Nat} {b : Bool} (hi : i < n) : (mask n m).getD i b = m.testBit i := by
 simp [mask, hi]
theorem mask_getD_out {n m i : Nat} (hi : ¬ i < n) {b : Bool} : (mask n m).getD i b = b := by
 simp [mask, hi]
theorem seqReady_ready {l : List Oper} {m : Nat} : ∀ (is : List Nat) (d : Nat), seqReady l d is = true → (∀ k, d.testBit k = true → m.testBit k = true) → (∃ i ∈ is, m.testBit i = false) → ∃ i ∈ is, i ∈ Region.ready .any l.toArray (mask l.length m)
 | [], _, _, _, ⟨i, hi, _⟩ => by cases hi
 | j :: is, d, h, hm, ⟨i, hi, hb⟩ => by
  simp only [seqReady, Bool.and_eq_true] at h
  obtain ⟨⟨h1, h2⟩, h3⟩ := h
  cases hj : m.testBit j with
  | true =>
   have hi' : i ∈ is := by
    rcases List.mem_cons.1 hi with rfl | hi
    · rw [hj] at hb; cases hb
    · exact hi
   obtain ⟨k, hk, hr⟩ := seqReady_ready is _ h3 (fun k hk => by
    rw [testBit_or_two, Bool.or_eq_true, decide_eq_true_eq] at hk
    rcases hk with hk | rfl
    · exact hm k hk
    · exact hj) ⟨i, hi', hb⟩
   exact ⟨k, List.mem_cons_of_mem _ hk, hr⟩
  | false =>
   refine ⟨j, by simp, ?_⟩
   cases ho : l[j]? with
   | none => rw [ho] at h1; cases h1
   | some o =>
    rw [ho] at h1
    have hlt : j < l.length := (List.getElem?_eq_some_iff.1 ho).1
    rw [mem_ready]
    refine ⟨by rw [mask_getD hlt]; exact hj, o, by simpa using ho, fun e he hbd => ?_⟩
    have := (Array.all_eq_true_iff_forall_mem.1 h1) e he
    simp only [Bool.or_eq_true, Bool.not_eq_true', hbd, Bool.and_eq_true, decide_eq_true_eq, Bool.true_eq_false, false_or] at this
    rw [mask_getD this.2]
    exact hm _ this.1
theorem foldl_bits : ∀ (is : List Nat) (d k : Nat), (is.foldl (fun m i => m ||| 2 ^ i) d).testBit k = (d.testBit k || is.contains k)
 | [], d, k => by simp
 | i :: is, d, k => by
  rw [List.foldl_cons, foldl_bits is, testBit_or_two, List.contains_cons, Bool.or_assoc]
  congr 2
  by_cases h : i = k
  · subst h; simp
  · rw [decide_eq_false h]; simp [Ne.symm h]
theorem zip_same {α β : Type} : ∀ (is : List α) (ds : List (Bool × β)), ds.length = is.length → is.Pairwise (· ≠ ·) → ∀ {i : α} {b b' : Bool} {x x' : β}, (i, (b, x)) ∈ is.zip ds → (i, (b', x')) ∈ is.zip ds → b = b'
 | [], _, _, _ => fun h => by simp at h
 | j :: is, [], h, _ => by simp at h
 | j :: is, d :: ds, h, hp => by
  rw [List.pairwise_cons] at hp
  intro h1 h2
  simp only [List.zip_cons_cons, List.mem_cons] at h1 h2
  have no : ∀ (y : Bool × β), (j, y) ∉ is.zip ds := fun y hy => hp.1 j (List.of_mem_zip hy).1 rfl
  rcases h1 with h1 | h1
  · rcases h2 with h2 | h2
    · rw [← h1] at h2; cases h2; rfl
    · cases h1; exact absurd h2 (no _)
  · rcases h2 with h2 | h2
    · cases h2; exact absurd h1 (no _)
    · exact zip_same is ds (by simpa using h) hp.2 h1 h2
theorem Tx.pool {l : List Oper} {S : World → Prop} {B : Nat} {w : World} {f d : Nat} {a : Act} (Ext : World → World → Prop) (f' d' : Nat) (is : List Nat) (deps : List (Bool × List (Nat × Nat))) (Φ N : Nat → Value → World → Prop) (Pr : Nat → Value → Nat → Value → Prop)
 (hok : poolOk l a.tmps.size f d is deps f' d' = true) (hsel : Region.noSelect l.toArray = true) (hBp : is.contains B = false) (hrefl : ∀ w, Ext w w) (htrans : ∀ w1 w2 w3, Ext w1 w2 → Ext w2 w3 → Ext w1 w3)
 (hS : S w) (hSE : ∀ w1 w2, S w1 → Ext w1 w2 → S w2) (hΦ : ∀ i v w1 w2, Φ i v w1 → Ext w1 w2 → Φ i v w2)
 (hN : ∀ i j v u w, i ≠ j → N i v w → Φ j u w → Pr i v j u ∧ Pr j u i v)
 (hob : AllOb P l Q S Ext Φ N a w is deps)
 (H : ∀ (vs : Nat → Value) w', S w' → Ext w w' → (∀ i ∈ is, Φ i (vs i) w') → (∀ i ∈ is, ∀ j ∈ is, i ≠ j → Pr i (vs i) j (vs j)) → Tx P l Q S B f' d' (fill l d' vs is a) w') : Tx P l Q S B f d a w := by
 simp only [poolOk, Bool.and_eq_true, beq_iff_eq] at hok
 obtain ⟨⟨⟨⟨⟨⟨⟨hf, hd'⟩, hseq⟩, hpw⟩, hsz⟩, hdl⟩, hdeps⟩, hblk⟩ := hok
 have hdiff : Diff l is := diff_of is hpw
 have hnd : ∀ i ∈ is, d.testBit i = false := by
  have key : ∀ (js : List Nat) (e : Nat), seqReady l e js = true → ∀ i ∈ js, e.testBit i = false := by
   intro js
   induction js with
   | nil => intro e _ i hi; cases hi
   | cons j js ih =>
    intro e h i hi
    simp only [seqReady, Bool.and_eq_true, Bool.not_eq_true'] at h
    rcases List.mem_cons.1 hi with rfl | hi
    · exact h.1.2
    · have := ih _ h.2 i hi
      rw [testBit_or_two, Bool.or_eq_false_iff] at this
      exact this.1
  exact key is d hseq
 have main : ∀ (n m : Nat) (vs : Nat → Value) (w1 : World), (is.filter fun i => !m.testBit i).length = n → (∀ k, k ∉ is → m.testBit k = d.testBit k) → S w1 → Ext w w1 →
  (∀ i ∈ is, m.testBit i = true → Φ i (vs i) w1) → (∀ i ∈ is, ∀ j ∈ is, m.testBit i = true → m.testBit j = true → i ≠ j → Pr i (vs i) j (vs j)) → (∀ i ∈ is, m.testBit i = true → ∀ j, waitsFor l i j = true → m.testBit j = true) → Tx P l Q S B (f' + n) m (fill l m vs is a) w1 := by
  intro n
  induction n with
  | zero =>
   intro m vs w1 hn hm hS1 hE hP hR hW
   have hall : ∀ i ∈ is, m.testBit i = true := by
    intro i hi
    have h0 := List.eq_nil_of_length_eq_zero hn
    rw [List.filter_eq_nil_iff] at h0
    have := h0 i hi
    simpa using this
   have em : m = d' := by
    apply Nat.eq_of_testBit_eq
    intro k
    rw [← hd', foldl_bits]
    by_cases hk : k ∈ is
    · rw [hall k hk]; simp [hk]
    · rw [hm k hk]; simp [hk]
   rw [em]
   exact H vs w1 hS1 hE (fun i hi => hP i hi (hall i hi)) (fun i hi j hj hij => hR i hi j hj (hall i hi) (hall j hj) hij)
  | succ n ih =>
   intro m vs w1 hn hm hS1 hE hP hR hW
   have hund : ∃ i ∈ is, m.testBit i = false := by
    have h0 : (is.filter fun i => !m.testBit i) ≠ [] := by intro h; rw [h] at hn; simp at hn
    obtain ⟨i, hi⟩ := List.exists_mem_of_ne_nil _ h0
    rw [List.mem_filter] at hi
    exact ⟨i, hi.1, by simpa using hi.2⟩
   have hdm : ∀ k, d.testBit k = true → m.testBit k = true := by
    intro k hk
    by_cases hki : k ∈ is
    · rw [hnd k hki] at hk; cases hk
    · rw [hm k hki]; exact hk
   obtain ⟨i1, hmem1, hr1⟩ := seqReady_ready is d hseq hdm hund
   by_cases hEx : ∃ i ds, (i, (true, ds)) ∈ is.zip deps ∧ i ∈ Region.ready .any l.toArray (mask l.length m)
   · obtain ⟨i, ds0, hz0, hi⟩ := hEx
     have hmem : i ∈ is := (List.of_mem_zip hz0).1
     obtain ⟨bb, ds, hz, hobi⟩ := allOb_mem is deps hob i hmem
     have hbb : bb = true := zip_same is deps hdl (hdiff.imp (fun h => h.1)) hz hz0
     rw [if_pos hbb] at hobi
     obtain ⟨o2, ho2, hob2⟩ := hobi
     obtain ⟨hun, o, ho, hed⟩ := mem_ready.1 hi
     have ho' : l[i]? = some o := by simpa using ho
     have hilt : i < l.length := (List.getElem?_eq_some_iff.1 ho').1
     rw [mask_getD hilt] at hun
     have hedm : ∀ j, waitsFor l i j = true → m.testBit j = true := by
      intro j hj
      unfold waitsFor at hj
      rw [ho'] at hj
      simp only [Array.any_eq_true] at hj
      obtain ⟨x, hx, hb⟩ := hj
      simp only [Bool.and_eq_true, beq_iff_eq] at hb
      have := hed _ (Array.getElem_mem hx) hb.1
      rw [hb.2] at this
      by_cases hjl : j < l.length
      · rw [mask_getD hjl] at this; exact this
      · rw [mask_getD_out hjl] at this; cases this
     rw [ho'] at ho2
     have ho3 := Option.some.inj ho2
     subst ho3
     have hdo := List.all_eq_true.1 hdeps (i, (bb, ds)) hz
     simp only [Bool.and_eq_true, depsOk] at hdo
     obtain ⟨⟨⟨hd1, hd2⟩, hd3⟩, hfr⟩ := hdo
     have hd3 := slotsDiff_of ds hd3
     have hsame : ∀ t ∈ o.looksAt l.toArray, (fill l m vs is a).tmps[t]? = (fillL vs ds a).tmps[t]? := by
      intro t ht
      by_cases hex : ∃ j ∈ is, dstAt l j = some t
      · obtain ⟨j, hj, hjt⟩ := hex
        have h1 := List.all_eq_true.1 hd2 j hj
        rw [ho', hjt] at h1
        simp only [Bool.or_eq_true, Bool.not_eq_true'] at h1
        have h2 : (j, t) ∈ ds := by
         rcases h1 with h1 | h1
         · rw [List.contains_iff_mem.2 ht] at h1; cases h1
         · simpa using h1
        have h3 := List.all_eq_true.1 hd1 _ h2
        simp only [Bool.and_eq_true] at h3
        have hlt : t < a.tmps.size := by
         have := List.all_eq_true.1 hsz j hj
         rw [hjt] at this
         simpa using this
        rw [fill_some is a hdiff hj (hedm j h3.2) hjt hlt, fillL_some ds a hd3 h2 hlt]
      · rw [fill_none is a (fun j hj _ hjt => hex ⟨j, hj, hjt⟩), fillL_none ds a]
        rintro ⟨j, e⟩ hp rfl
        have h3 := List.all_eq_true.1 hd1 _ hp
        simp only [Bool.and_eq_true, beq_iff_eq] at h3
        exact hex ⟨j, by simpa using h3.1.1, h3.1.2⟩
     have hns : ∀ cs b, o.op ≠ .select cs b := fun cs b => Region.noSelect_spec hsel i o cs b ho
     have hphi : AllPhi Φ vs w1 ds := allPhi_of ds (fun p hp => by
      have h3 := List.all_eq_true.1 hd1 p hp
      simp only [Bool.and_eq_true] at h3
      exact hP p.1 (by simpa using h3.1.1) (hedm p.1 h3.2))
     have hlast : ∀ v w2, Φ i v w2 ∧ Ext w1 w2 ∧ N i v w1 → if i = B then wpAny P .any l.toArray (NoP Q) (f' + n) ((mask l.length m).setIfInBounds i true) ((fill l m vs is a).put o.dst v) w2 else S w2 ∧ wpAnyB P .any l.toArray (NoP Q) S B (f' + n) ((mask l.length m).setIfInBounds i true) ((fill l m vs is a).put o.dst v) w2 := by
      rintro v w2 ⟨hv, hE2, hNv⟩
      have hiB : ¬ i = B := fun e => by rw [e] at hmem; rw [List.contains_iff_mem.2 hmem] at hBp; cases hBp
      rw [if_neg hiB]
      refine ⟨hSE _ _ hS1 hE2, ?_⟩
      have hdst : dstAt l i = o.dst := by unfold dstAt; rw [ho']; rfl
      rw [mask_set, ← hdst, fill_put is a hdiff hmem hun]
      refine ih (m ||| 2 ^ i) (upd vs i v) w2 ?_ ?_ (hSE _ _ hS1 hE2) (htrans _ _ _ hE hE2) ?_ ?_ (fun j0 hj0 hb j hj => by
       rw [testBit_or_two] at hb ⊢
       by_cases e : i = j0
       · rw [← e] at hj; rw [hedm j hj, Bool.true_or]
       · rw [decide_eq_false e, Bool.or_false] at hb
         rw [hW j0 hj0 hb j hj, Bool.true_or])
      · have key : ∀ (js : List Nat), js.Nodup → (js.filter fun k => !(m ||| 2 ^ i).testBit k).length + (if i ∈ js then 1 else 0) = (js.filter fun k => !m.testBit k).length := by
         intro js
         induction js with
         | nil => intro _; rfl
         | cons j js ihj =>
          intro hnd2
          rw [List.nodup_cons] at hnd2
          have h6 := ihj hnd2.2
          by_cases e : i = j
          · subst e
            rw [if_neg hnd2.1] at h6
            rw [List.filter_cons_of_neg (by simp), List.filter_cons_of_pos (by simp [hun]), List.length_cons, if_pos (by simp)]
            omega
          · have e2 : (i ∈ j :: js) = (i ∈ js) := by simp [e]
            have e3 : (m ||| 2 ^ i).testBit j = m.testBit j := by rw [testBit_or_two, decide_eq_false e, Bool.or_false]
            rw [List.filter_cons, List.filter_cons, e3]
            have e2 : (if i ∈ j :: js then 1 else 0) = (if i ∈ js then 1 else 0) := by
             by_cases hij : i ∈ js
             · rw [if_pos hij, if_pos (List.mem_cons_of_mem _ hij)]
             · rw [if_neg hij, if_neg (by simp [e, hij])]
            rw [e2]
            cases m.testBit j <;> simp only [Bool.not_true, Bool.not_false, Bool.false_eq_true, if_false, if_true, List.length_cons] <;> omega
        have hnodup : is.Nodup := hdiff.imp (fun h => h.1)
        have := key is hnodup
        rw [if_pos hmem] at this
        omega
      · intro k hk
        have hik : ¬ i = k := fun e => hk (by rw [← e]; exact hmem)
        rw [testBit_or_two, decide_eq_false hik, Bool.or_false, hm k hk]
      · intro j hj hjb
        unfold upd
        by_cases e : j = i
        · subst e; rw [if_pos rfl]; exact hv
        · rw [if_neg e]
          rw [testBit_or_two, decide_eq_false (Ne.symm e), Bool.or_false] at hjb
          exact hΦ _ _ _ _ (hP j hj hjb) hE2
      · intro j hj k hk hjb hkb hjk
        unfold upd
        by_cases e : j = i
        · subst e
          have e2 : ¬ k = j := fun h => hjk h.symm
          rw [if_pos rfl, if_neg e2]
          rw [testBit_or_two, decide_eq_false (fun h => e2 h.symm), Bool.or_false] at hkb
          exact (hN _ _ _ _ w1 hjk hNv (hP k hk hkb)).1
        · rw [if_neg e]
          rw [testBit_or_two, decide_eq_false (Ne.symm e), Bool.or_false] at hjb
          by_cases e2 : k = i
          · subst e2
            rw [if_pos rfl]
            exact (hN _ _ _ _ w1 (Ne.symm e) hNv (hP j hj hjb)).2
          · rw [if_neg e2]
            rw [testBit_or_two, decide_eq_false (Ne.symm e2), Bool.or_false] at hkb
            exact hR j hj k hk hjb hkb hjk
     obtain ⟨v, hwd, hrun, hv, hNv⟩ := hob2 vs w1 hS1 hE hphi
     have hl := hlast v w1 ⟨hv, hrefl w1, hNv⟩
     have hiB : ¬ i = B := fun e => by rw [e] at hmem; rw [List.contains_iff_mem.2 hmem] at hBp; cases hBp
     rw [if_neg hiB] at hl
     have hfr2 : freeE l d i = true := by rw [hbb] at hfr; simpa using hfr
     refine wpAnyB_pure ho (Region.noSelect_spec hsel) (fun c a w hq => hq) hiB (f' + n) _ _ _ (fun j oj hj hji hjun hno => ?_) hi (.inl ⟨by rw [wanted_same hsame]; exact hwd, fun w' => by rw [exec_same hns hsame]; exact hrun w'⟩) hS1 hl.2
     have hjl : j < l.length := by have := (Array.getElem?_eq_some_iff.1 hj).1; simpa using this
     have hj' : l[j]? = some oj := by simpa using hj
     rw [mask_getD hjl] at hjun
     unfold freeE at hfr2
     rw [ho'] at hfr2
     have h1 := List.all_eq_true.1 hfr2 j (List.mem_range.2 hjl)
     rw [hj'] at h1
     simp only [Bool.or_eq_true, beq_iff_eq] at h1
     rcases h1 with (((h1 | h1) | h1) | h1) | h1
     · exact absurd h1 hji
     · rw [hdm j h1] at hjun; cases hjun
     · exfalso
       unfold waitsFor at h1
       rw [hj'] at h1
       obtain ⟨x, hx, hb⟩ := Array.any_eq_true.1 h1
       simp only [Bool.and_eq_true, beq_iff_eq] at hb
       exact hno _ (Array.getElem_mem hx) hb.1 hb.2
     · rw [hedm j h1] at hjun; cases hjun
     · exact h1
   · unfold Tx
     refine ⟨fun h0 => (by rw [h0] at hr1; cases hr1), fun i hi => ?_⟩
     obtain ⟨hun, o, ho, hed⟩ := mem_ready.1 hi
     have ho' : l[i]? = some o := by simpa using ho
     have hilt : i < l.length := (List.getElem?_eq_some_iff.1 ho').1
     rw [mask_getD hilt] at hun
     have hedm : ∀ j, waitsFor l i j = true → m.testBit j = true := by
      intro j hj
      unfold waitsFor at hj
      rw [ho'] at hj
      simp only [Array.any_eq_true] at hj
      obtain ⟨x, hx, hb⟩ := hj
      simp only [Bool.and_eq_true, beq_iff_eq] at hb
      have := hed _ (Array.getElem_mem hx) hb.1
      rw [hb.2] at this
      by_cases hjl : j < l.length
      · rw [mask_getD hjl] at this; exact this
      · rw [mask_getD_out hjl] at this; cases this
     have hmem : i ∈ is := by
      by_cases hmem : i ∈ is
      · exact hmem
      · exfalso
        have h1 := List.all_eq_true.1 hblk i (List.mem_range.2 hilt)
        simp only [Bool.or_eq_true] at h1
        rcases h1 with ((h1 | h1) | h1) | h1
        · rw [← hm i hmem, hun] at h1; cases h1
        · exact hmem (by simpa using h1)
        · obtain ⟨b1, ds1, hz1, -⟩ := allOb_mem is deps hob i1 hmem1
          have h2 := List.all_eq_true.1 h1 _ hz1
          simp only [Bool.or_eq_true] at h2
          rcases h2 with (h2 | h2) | h2
          · exact hEx ⟨i1, ds1, by rw [← h2]; exact hz1, hr1⟩
          rotate_left
          · obtain ⟨q, hq, h5⟩ := List.any_eq_true.1 h2
            rw [Bool.and_eq_true] at h5
            have h3 := hW q hq (hedm q h5.1) i1 h5.2
            have h4 := (mem_ready.1 hr1).1
            obtain ⟨o1, ho1, -⟩ := (mem_ready.1 hr1).2
            have hl1 : i1 < l.length := by have := (Array.getElem?_eq_some_iff.1 ho1).1; simpa using this
            rw [mask_getD hl1, h3] at h4
            cases h4
          · have h3 := hedm i1 h2
            have h4 := (mem_ready.1 hr1).1
            obtain ⟨o1, ho1, -⟩ := (mem_ready.1 hr1).2
            have hl1 : i1 < l.length := by have := (Array.getElem?_eq_some_iff.1 ho1).1; simpa using this
            rw [mask_getD hl1, h3] at h4
            cases h4
        · obtain ⟨k, -, hk⟩ := List.any_eq_true.1 h1
          simp only [Bool.and_eq_true, Bool.not_eq_true'] at hk
          have h2 := hedm k hk.2
          rw [hm k (by simpa using hk.1.2), hk.1.1] at h2
          cases h2
     obtain ⟨bb, ds, hz, hobi⟩ := allOb_mem is deps hob i hmem
     have hbb : ¬ bb = true := fun e => hEx ⟨i, ds, by rw [← e]; exact hz, hi⟩
     rw [if_neg hbb] at hobi
     obtain ⟨o2, ho2, hob2⟩ := hobi
     rw [ho'] at ho2
     have ho3 := Option.some.inj ho2
     subst ho3
     have hdo := List.all_eq_true.1 hdeps (i, (bb, ds)) hz
     simp only [Bool.and_eq_true, depsOk] at hdo
     obtain ⟨⟨⟨hd1, hd2⟩, hd3⟩, hfr⟩ := hdo
     have hd3 := slotsDiff_of ds hd3
     have hsame : ∀ t ∈ o.looksAt l.toArray, (fill l m vs is a).tmps[t]? = (fillL vs ds a).tmps[t]? := by
      intro t ht
      by_cases hex : ∃ j ∈ is, dstAt l j = some t
      · obtain ⟨j, hj, hjt⟩ := hex
        have h1 := List.all_eq_true.1 hd2 j hj
        rw [ho', hjt] at h1
        simp only [Bool.or_eq_true, Bool.not_eq_true'] at h1
        have h2 : (j, t) ∈ ds := by
         rcases h1 with h1 | h1
         · rw [List.contains_iff_mem.2 ht] at h1; cases h1
         · simpa using h1
        have h3 := List.all_eq_true.1 hd1 _ h2
        simp only [Bool.and_eq_true] at h3
        have hlt : t < a.tmps.size := by
         have := List.all_eq_true.1 hsz j hj
         rw [hjt] at this
         simpa using this
        rw [fill_some is a hdiff hj (hedm j h3.2) hjt hlt, fillL_some ds a hd3 h2 hlt]
      · rw [fill_none is a (fun j hj _ hjt => hex ⟨j, hj, hjt⟩), fillL_none ds a]
        rintro ⟨j, e⟩ hp rfl
        have h3 := List.all_eq_true.1 hd1 _ hp
        simp only [Bool.and_eq_true, beq_iff_eq] at h3
        exact hex ⟨j, by simpa using h3.1.1, h3.1.2⟩
     have hns : ∀ cs b, o.op ≠ .select cs b := fun cs b => Region.noSelect_spec hsel i o cs b ho
     have hphi : AllPhi Φ vs w1 ds := allPhi_of ds (fun p hp => by
      have h3 := List.all_eq_true.1 hd1 p hp
      simp only [Bool.and_eq_true] at h3
      exact hP p.1 (by simpa using h3.1.1) (hedm p.1 h3.2))
     have hlast : ∀ v w2, Φ i v w2 ∧ Ext w1 w2 ∧ N i v w1 → if i = B then wpAny P .any l.toArray (NoP Q) (f' + n) ((mask l.length m).setIfInBounds i true) ((fill l m vs is a).put o.dst v) w2 else S w2 ∧ wpAnyB P .any l.toArray (NoP Q) S B (f' + n) ((mask l.length m).setIfInBounds i true) ((fill l m vs is a).put o.dst v) w2 := by
      rintro v w2 ⟨hv, hE2, hNv⟩
      have hiB : ¬ i = B := fun e => by rw [e] at hmem; rw [List.contains_iff_mem.2 hmem] at hBp; cases hBp
      rw [if_neg hiB]
      refine ⟨hSE _ _ hS1 hE2, ?_⟩
      have hdst : dstAt l i = o.dst := by unfold dstAt; rw [ho']; rfl
      rw [mask_set, ← hdst, fill_put is a hdiff hmem hun]
      refine ih (m ||| 2 ^ i) (upd vs i v) w2 ?_ ?_ (hSE _ _ hS1 hE2) (htrans _ _ _ hE hE2) ?_ ?_ (fun j0 hj0 hb j hj => by
       rw [testBit_or_two] at hb ⊢
       by_cases e : i = j0
       · rw [← e] at hj; rw [hedm j hj, Bool.true_or]
       · rw [decide_eq_false e, Bool.or_false] at hb
         rw [hW j0 hj0 hb j hj, Bool.true_or])
      · have key : ∀ (js : List Nat), js.Nodup → (js.filter fun k => !(m ||| 2 ^ i).testBit k).length + (if i ∈ js then 1 else 0) = (js.filter fun k => !m.testBit k).length := by
         intro js
         induction js with
         | nil => intro _; rfl
         | cons j js ihj =>
          intro hnd2
          rw [List.nodup_cons] at hnd2
          have h6 := ihj hnd2.2
          by_cases e : i = j
          · subst e
            rw [if_neg hnd2.1] at h6
            rw [List.filter_cons_of_neg (by simp), List.filter_cons_of_pos (by simp [hun]), List.length_cons, if_pos (by simp)]
            omega
          · have e2 : (i ∈ j :: js) = (i ∈ js) := by simp [e]
            have e3 : (m ||| 2 ^ i).testBit j = m.testBit j := by rw [testBit_or_two, decide_eq_false e, Bool.or_false]
            rw [List.filter_cons, List.filter_cons, e3]
            have e2 : (if i ∈ j :: js then 1 else 0) = (if i ∈ js then 1 else 0) := by
             by_cases hij : i ∈ js
             · rw [if_pos hij, if_pos (List.mem_cons_of_mem _ hij)]
             · rw [if_neg hij, if_neg (by simp [e, hij])]
            rw [e2]
            cases m.testBit j <;> simp only [Bool.not_true, Bool.not_false, Bool.false_eq_true, if_false, if_true, List.length_cons] <;> omega
        have hnodup : is.Nodup := hdiff.imp (fun h => h.1)
        have := key is hnodup
        rw [if_pos hmem] at this
        omega
      · intro k hk
        have hik : ¬ i = k := fun e => hk (by rw [← e]; exact hmem)
        rw [testBit_or_two, decide_eq_false hik, Bool.or_false, hm k hk]
      · intro j hj hjb
        unfold upd
        by_cases e : j = i
        · subst e; rw [if_pos rfl]; exact hv
        · rw [if_neg e]
          rw [testBit_or_two, decide_eq_false (Ne.symm e), Bool.or_false] at hjb
          exact hΦ _ _ _ _ (hP j hj hjb) hE2
      · intro j hj k hk hjb hkb hjk
        unfold upd
        by_cases e : j = i
        · subst e
          have e2 : ¬ k = j := fun h => hjk h.symm
          rw [if_pos rfl, if_neg e2]
          rw [testBit_or_two, decide_eq_false (fun h => e2 h.symm), Bool.or_false] at hkb
          exact (hN _ _ _ _ w1 hjk hNv (hP k hk hkb)).1
        · rw [if_neg e]
          rw [testBit_or_two, decide_eq_false (Ne.symm e), Bool.or_false] at hjb
          by_cases e2 : k = i
          · subst e2
            rw [if_pos rfl]
            exact (hN _ _ _ _ w1 (Ne.symm e) hNv (hP j hj hjb)).2
          · rw [if_neg e2]
            rw [testBit_or_two, decide_eq_false (Ne.symm e2), Bool.or_false] at hkb
            exact hR j hj k hk hjb hkb hjk
     have hmid := hob2 vs w1 hS1 hE hphi (fun c w' => ∃ v, c = (fillL vs ds a).put o.dst v ∧ Φ i v w' ∧ Ext w1 w' ∧ N i v w1) (fun v w' h1 h2 h3 => ⟨v, rfl, h1, h2, h3⟩)
     unfold wpOp
     simp only [ho]
     rw [wanted_same hsame]
     have hdsz : ∀ t, o.dst = some t → t < (fillL vs ds a).tmps.size := by
      intro t ht
      rw [fillL_size]
      have h1 := List.all_eq_true.1 hsz i hmem
      have hdst : dstAt l i = some t := by unfold dstAt; rw [ho']; exact ht
      rw [hdst] at h1
      simpa using h1
     split
     · rename_i hw
       rw [if_pos hw] at hmid
       exact .inl (wp_pass hdsz (exec_same hns hsame) hmid hlast)
     · rename_i hw
       rw [if_neg hw] at hmid
       obtain ⟨v, h1, h2, h3, h3'⟩ := hmid
       have h4 := hlast v w1 ⟨h2, h3, h3'⟩
       rcases put_inj hdsz h1 with h5 | h5
       · rw [h5] at h4 ⊢; exact h4
       · rw [h5]; exact h4
 have h0 := main is.length d (fun _ => undef) w (by
  rw [List.filter_eq_self.2]
  intro i hi
  rw [hnd i hi]; rfl) (fun _ _ => rfl) hS (hrefl w) (fun i hi hb => by rw [hnd i hi] at hb; cases hb) (fun i hi _ _ hb _ _ => by rw [hnd i hi] at hb; cases hb) (fun i hi hb => by rw [hnd i hi] at hb; cases hb)
 rw [hf]
 have e : fill l d (fun _ => undef) is a = a := by
  have key : ∀ (js : List Nat) (b : Act), (∀ i ∈ js, d.testBit i = false) → fill l d (fun _ => undef) js b = b := by
   intro js
   induction js with
   | nil => intro b _; rfl
   | cons j js ihj =>
    intro b h
    rw [fill, h j (by simp)]
    exact ihj b (fun i hi => h i (List.mem_cons_of_mem _ hi))
  exact key is a hnd
 rw [e] at h0
 exact h0
structure Ph where
 p : Value → World → Prop
 mono : ∀ v w1 w2, p v w1 → Below w1.heap.size w1 w2 → p v w2
 fresh : Bool
 lt : fresh = true → ∀ v w, p v w → ∃ g, v = .pointer (some ⟨g, 0, none⟩) ∧ g < w.heap.size
def Ph.is (x : Value) : Ph := ⟨fun v _ => v = x, fun _ _ _ h _ => h, false, fun h => by cases h⟩
def Ph.arr (base : Nat) (xs : List Value) : Ph := ⟨fun v w => ∃ g, v = .pointer (some ⟨g, 0, none⟩) ∧ base ≤ g ∧ Arr w g xs, fun _ _ _ ⟨g, h1, h2, h3⟩ hb => ⟨g, h1, h2, h3.below hb⟩, true, fun _ _ _ ⟨g, h1, _, h3⟩ => ⟨g, h1, h3.lt⟩⟩
def phi : List (Nat × Ph) → Nat → Value → World → Prop
 | [], _, _, _ => True
 | (j, p) :: ps, i, v, w => if i = j then p.p v w else phi ps i v w
def newOf : List (Nat × Ph) → Nat → Value → World → Prop
 | [], _, _, _ => True
 | (j, p) :: ps, i, v, w => if i = j then (p.fresh = true → ∃ g, v = .pointer (some ⟨g, 0, none⟩) ∧ w.heap.size ≤ g) else newOf ps i v w
def freshOf : List (Nat × Ph) → Nat → Bool
 | [], _ => false
 | (j, p) :: ps, i => if i = j then p.fresh else freshOf ps i
theorem newOf_spec {v : Value} {w : World} {i : Nat} : ∀ (ps : List (Nat × Ph)), newOf ps i v w → freshOf ps i = true → ∃ g, v = .pointer (some ⟨g, 0, none⟩) ∧ w.heap.size ≤ g
 | [], _, h => by cases h
 | (j, p) :: ps, h, hf => by
  unfold newOf at h
  unfold freshOf at hf
  split at h
  · rename_i e; rw [if_pos e] at hf; exact h hf
  · rename_i e; rw [if_neg e] at hf; exact newOf_spec ps h hf
theorem phi_lt {v : Value} {w : World} {i : Nat} : ∀ (ps : List (Nat × Ph)), phi ps i v w → freshOf ps i = true → ∃ g, v = .pointer (some ⟨g, 0, none⟩) ∧ g < w.heap.size
 | [], _, h => by cases h
 | (j, p) :: ps, h, hf => by
  unfold phi at h
  unfold freshOf at hf
  split at h
  · rename_i e; rw [if_pos e] at hf; exact p.lt hf v w h
  · rename_i e; rw [if_neg e] at hf; exact phi_lt ps h hf
theorem phi_mono {v : Value} {w1 w2 : World} {i : Nat} (hb : Below w1.heap.size w1 w2) : ∀ (ps : List (Nat × Ph)), phi ps i v w1 → phi ps i v w2
 | [], _ => trivial
 | (j, p) :: ps, h => by
  unfold phi at h ⊢
  split
  · rename_i e; rw [if_pos e] at h; exact p.mono _ _ _ h hb
  · rename_i e; rw [if_neg e] at h; exact phi_mono hb ps h
theorem ext_trans {w1 w2 w3 : World} {n : Nat} (h1 : Below n w1 w2) (hn : n ≤ w1.heap.size) (h2 : Below w2.heap.size w2 w3) : Below n w1 w3 :=
 h1.trans (h2.mono (Nat.le_trans hn h1.size))
theorem bel {w w1 w2 : World} (h1 : Below w.heap.size w w1) (h2 : Below w1.heap.size w1 w2) : Below w.heap.size w w2 := ext_trans h1 (Nat.le_refl _) h2
theorem bel1 {w w1 w2 : World} {o : Obj} (h1 : Below w.heap.size w w1) (h2 : Below (w1.heap.size + 1) (w1.alloc o) w2) : Below w.heap.size w w2 :=
 bel (h1.alloc h1.size o) (by simpa using h2)
theorem Arr.below1 {w1 w2 : World} {o : Obj} {g : Nat} {xs : List Value} (h : Arr w1 g xs) (h2 : Below (w1.heap.size + 1) (w1.alloc o) w2) : Arr w2 g xs :=
 (h.alloc o).below (by simpa using h2)
theorem code_new {C : Code} {a : Act} {w : World} {c : Array Value} {T : TypeId} {ys : List Value}
 (h : ∀ W, Arr W w.heap.size ys → Below w.heap.size w W → Code.wp P C Q a W) : Code.wp P C Q a ((w.alloc (.cells c T)).setRow w.heap.size ys.toArray) :=
 h _ ((Arr.new w c T).setRow ys) (below_setRow (below_alloc w _) (Nat.le_refl _) _)
theorem code_row {C : Code} {a : Act} {w : World} {g : Nat} {xs ys : List Value} (hg : Arr w g xs)
 (h : ∀ W, Arr W g ys → (∀ k zs, k ≠ g → Arr w k zs → Arr W k zs) → (∀ n w0, n ≤ g → Below n w0 w → Below n w0 W) → Code.wp P C Q a W) : Code.wp P C Q a (w.setRow g ys.toArray) :=
 h _ (hg.setRow ys) (fun _ _ hk h => h.row_other hk _) (fun _ _ hn h => below_setRow h hn _)
theorem then_row {K : Act → World → Prop} {e : Exit} {a : Act} {w : World} {g : Nat} {xs ys : List Value} (hg : Arr w g xs)
 (h : ∀ W, Arr W g ys → (∀ k zs, k ≠ g → Arr w k zs → Arr W k zs) → (∀ n w0, n ≤ g → Below n w0 w → Below n w0 W) → Exit.then K Q e a W) : Exit.then K Q e a (w.setRow g ys.toArray) :=
 h _ (hg.setRow ys) (fun _ _ hk h => h.row_other hk _) (fun _ _ hn h => below_setRow h hn _)
theorem code_cell {C : Code} {a : Act} {w : World} {g j : Nat} {xs : List Value} {u : Value} (hg : Arr w g xs)
 (h : ∀ W, Arr W g (xs.set j u) → (∀ k zs, k ≠ g → Arr w k zs → Arr W k zs) → (∀ n w0, n ≤ g → Below n w0 w → Below n w0 W) → Code.wp P C Q a W) : Code.wp P C Q a (w.setCell ⟨g, j, none⟩ u) :=
 h _ (hg.set j u) (fun _ _ hk h => h.other (a := ⟨g, j, none⟩) hk _) (fun _ _ hn h => h.setCell (p := ⟨g, j, none⟩) hn _)
theorem fill_all {l : List Oper} {m : Nat} {vs : Nat → Value} : ∀ (ps : List (Nat × Nat)) (a : Act), (ps.all fun p => m.testBit p.1 && dstAt l p.1 == some p.2) = true → fill l m vs (ps.map (·.1)) a = fillL vs ps a
 | [], _, _ => rfl
 | p :: ps, a, h => by
  rw [List.all_cons, Bool.and_eq_true, Bool.and_eq_true, beq_iff_eq] at h
  rw [List.map_cons, fill, if_pos h.1.1, h.1.2, fill_all ps _ h.2]
  rfl
def AllP (ps : List (Nat × Ph)) (vs : Nat → Value) (w : World) : List (Nat × Ph) → Prop
 | [] => True
 | q :: qs => phi ps q.1 (vs q.1) w ∧ AllP ps vs w qs
theorem allP_of {ps : List (Nat × Ph)} {vs : Nat → Value} {w : World} : ∀ (qs : List (Nat × Ph)), (∀ q ∈ qs, phi ps q.1 (vs q.1) w) → AllP ps vs w qs
 | [], _ => trivial
 | q :: qs, h => ⟨h q (by simp), allP_of qs (fun x hx => h x (List.mem_cons_of_mem _ hx))⟩
theorem Tx.poolB {l : List Oper} {W w : World} {B f d : Nat} {a : Act} (f' d' : Nat) (slots : List (Nat × Nat)) (deps : List (Bool × List (Nat × Nat))) (Φ : List (Nat × Ph))
 (hok : (poolOk l a.tmps.size f d (slots.map (·.1)) deps f' d' && (slots.all fun p => d'.testBit p.1 && dstAt l p.1 == some p.2) && (Φ.map (·.1) == slots.map (·.1)) && !(slots.map (·.1)).contains B) = true) (hsel : Region.noSelect l.toArray = true)
 (hS : Below W.heap.size W w)
 (hob : AllOb P l Q (fun w' => Below W.heap.size W w') (fun w1 w2 => Below w1.heap.size w1 w2) (phi Φ) (newOf Φ) a w (slots.map (·.1)) deps)
 (H : ∀ (vs : Nat → Value) w', Below W.heap.size W w' → Below w.heap.size w w' → AllP Φ vs w' Φ → (∀ i j, (slots.map (·.1)).contains i = true → (slots.map (·.1)).contains j = true → (i != j) = true → freshOf Φ i = true → freshOf Φ j = true → vs i ≠ vs j) → Tx P l Q (fun w' => Below W.heap.size W w') B f' d' (fillL vs slots a) w') : Tx P l Q (fun w' => Below W.heap.size W w') B f d a w := by
 simp only [Bool.and_eq_true, beq_iff_eq, Bool.not_eq_true'] at hok
 refine Tx.pool _ f' d' _ deps (phi Φ) (newOf Φ) (fun i v j u => freshOf Φ i = true → freshOf Φ j = true → v ≠ u) hok.1.1.1 hsel hok.2 (fun w => Below.refl _ _) (fun w1 w2 w3 h1 h2 => ext_trans h1 (Nat.le_refl _) h2) hS (fun w1 w2 h1 h2 => ext_trans h1 (Nat.le_refl _) h2)
  (fun i v w1 w2 h1 h2 => phi_mono h2 Φ h1) (fun i j v u w _ h1 h2 => ?_) hob ?_
 · have key : freshOf Φ i = true → freshOf Φ j = true → v ≠ u := by
    intro h3 h4
    obtain ⟨g, rfl, h5⟩ := newOf_spec Φ h1 h3
    obtain ⟨g', rfl, h6⟩ := phi_lt Φ h2 h4
    intro h
    simp only [Value.pointer.injEq, Option.some.injEq, Addr.mk.injEq] at h
    omega
   exact ⟨key, fun h3 h4 h5 => key h4 h3 h5.symm⟩
 intro vs w' h1 h2 h3 h4
 rw [fill_all slots a hok.1.1.2]
 refine H vs w' h1 h2 (allP_of Φ (fun q hq => h3 q.1 ?_)) (fun i j hi hj hij => h4 i (by simpa using hi) j (by simpa using hj) (by simpa using hij))
 rw [← hok.1.2]
 exact List.mem_map_of_mem hq
end
end Go.Proofs.YtibdgkhkhmdihaaGreatDoor
