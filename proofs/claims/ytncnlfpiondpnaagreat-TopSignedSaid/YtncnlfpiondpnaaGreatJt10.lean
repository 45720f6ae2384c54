/- TopSigned: part 10 of its proof: lemmas and contracts, each with its conditions in its own statement; the last part holds the law itself. -/
import Derived.Test.YtncnlfpiondpnaaGreatJt06

set_option maxHeartbeats 4000000
set_option maxRecDepth 100000
namespace Go.Proofs.YtncnlfpiondpnaaGreat
open Go.RowKit
section
variable {K : Act → World → Prop} {Q : Exit → Act → World → Prop} {e : Exit} {a : Act} {w : World} {g j : Nat} {xs : List Value} {u : Value}
end
section
variable {P : Program} {ops : Array Oper} {Q : Exit → Act → World → Prop} {md : Region.Mode} {S : World → Prop} {B : Nat}
def Closed (md : Region.Mode) (ops : Array Oper) (listed : Array Bool) : Prop :=
 ∀ k ok, ops[k]? = some ok → listed.getD k false = true → ∀ e ∈ ok.after, Region.binds md e = true → listed.getD e.on false = true
theorem Closed.set {listed : Array Bool} {j : Nat} (h : Closed md ops listed) (hj : j ∈ Region.ready md ops listed) : Closed md ops (listed.setIfInBounds j true) := by
 intro k ok hk hl e he hb
 by_cases hkj : k = j
 · subst hkj
   obtain ⟨-, o, ho, hall⟩ := mem_ready.1 hj
   rw [hk] at ho
   cases ho
   exact getD_set_true (hall e he hb)
 · rw [getD_set_ne false (Ne.symm hkj)] at hl
   exact getD_set_true (h k ok hk hl e he hb)
theorem wpAnyB_first2 {i : Nat} {oi : Oper} {v : Value} (hi : ops[i]? = some oi) (hsel : ∀ (j : Nat) (o : Oper) cs b, ops[j]? = some o → o.op ≠ .select cs b)
 (hQ : ∀ c a w, Q (.panic c) (a.put oi.dst v) w → Q (.panic c) a w) (hiB : i ≠ B)
 (hBw : ∀ listed, Closed md ops listed → B ∈ Region.ready md ops listed → listed.getD i false = true) :
 ∀ (fuel : Nat) (listed : Array Bool) (a : Act) (w : World), Closed md ops listed →
  (∀ j oj, ops[j]? = some oj → j ≠ i → listed.getD j true = false → (∀ e ∈ oj.after, Region.binds md e = true → e.on ≠ i) → oi.apart ops oj = true) →
  i ∈ Region.ready md ops listed → YieldsIf P ops S oi v a → S w →
  wpAnyB P md ops Q S B fuel (listed.setIfInBounds i true) (a.put oi.dst v) w → wpAnyB P md ops Q S B (fuel + 1) listed a w := by
 intro fuel
 induction fuel with
 | zero =>
  intro listed a w _ _ hr hy hS H
  refine ⟨fun h => (by rw [h] at hr; cases hr), fun j hj => ?_⟩
  by_cases hji : j = i
  · subst hji; simp only [if_neg hiB]; exact hy.wpOp hi hS ⟨hS, H⟩
  · have := ready_mono hj hji
    rw [H.1] at this
    cases this
 | succ fuel ih =>
  intro listed a w hc hfree hr hy hS H
  refine ⟨fun h => (by rw [h] at hr; cases hr), fun j hj => ?_⟩
  by_cases hji : j = i
  · subst hji; simp only [if_neg hiB]; exact hy.wpOp hi hS ⟨hS, H⟩
  · have h1 := H.2 j (ready_mono hj hji)
    obtain ⟨hjun, oj, hoj, hall⟩ := mem_ready.1 hj
    have hun0 : listed.getD i false = true → False := fun h2 => by
     have h0 := (mem_ready.1 hr).1
     rcases Nat.lt_or_ge i listed.size with h' | h'
     · simp [h'] at h0 h2; rw [h0] at h2; cases h2
     · simp [Array.getElem?_eq_none h'] at h2
    have hnot : ∀ e ∈ oj.after, Region.binds md e = true → e.on ≠ i := fun e he hb heq => by
     have h1 := hall e he hb
     rw [heq] at h1
     exact hun0 h1
    have hjB : ¬ j = B := fun e => by
     subst e
     exact hun0 (hBw listed hc hj)
    simp only [if_neg hjB] at h1 ⊢
    have h2 := wpOp_putIf hoj (hfree j oj hoj hji hjun hnot) (fun cs b => hsel i oi cs b hi) (fun cs b => hsel j oj cs b hoj) hQ hy h1
    have hfree' : ∀ k ok, ops[k]? = some ok → k ≠ i → (listed.setIfInBounds j true).getD k true = false →
     (∀ e ∈ ok.after, Region.binds md e = true → e.on ≠ i) → oi.apart ops ok = true := fun k ok hk hki hun hno => by
     refine hfree k ok hk hki ?_ hno
     by_cases hjk : j = k
     · subst hjk; exact hjun
     · rw [getD_set_ne true hjk] at hun; exact hun
    refine wpOp_mono (fun a' w' h3 => ⟨h3.2.1, ih (listed.setIfInBounds j true) a' w' (hc.set hj) hfree' (ready_mono hr (Ne.symm hji)) h3.1 h3.2.1 ?_⟩) h2
    rw [Array.setIfInBounds_comm _ _ hji]
    exact h3.2.2
end
def reaches (l : List Oper) : Nat → Nat → Nat → Bool
 | 0, _, _ => false
 | f + 1, b, i => match l[b]? with | some o => o.after.any (fun e => Region.binds .any e && (e.on == i || reaches l f e.on i)) | none => false
theorem reach_listed {l : List Oper} {listed : Array Bool} {i : Nat} (hc : Closed .any l.toArray listed) : ∀ f b, reaches l f b i = true →
 (∀ o, l[b]? = some o → ∀ e ∈ o.after, Region.binds .any e = true → listed.getD e.on false = true) → listed.getD i false = true
 | 0, _, h, _ => by cases h
 | f + 1, b, h, hb => by
  unfold reaches at h
  cases ho : l[b]? with
  | none => rw [ho] at h; cases h
  | some o =>
   rw [ho] at h
   obtain ⟨k, hk, hkb⟩ := Array.any_eq_true.1 h
   simp only [Bool.and_eq_true, Bool.or_eq_true, beq_iff_eq] at hkb
   have h1 := hb o ho _ (Array.getElem_mem hk) hkb.1
   rcases hkb.2 with h2 | h2
   · rw [h2] at h1; exact h1
   · refine reach_listed hc f _ h2 (fun o' ho' e' he' hb' => ?_)
     exact hc _ o' (by simpa using ho') h1 e' he' hb'
def closedOk (l : List Oper) (d : Nat) : Bool := (List.range l.length).all fun k => !d.testBit k || (match l[k]? with | some o => o.after.all (fun e => !Region.binds .any e || (mask l.length d).getD e.on false) | none => true)
def closedAll (l : List Oper) : Nat → List Nat → Bool
 | _, [] => true
 | d, i :: is => closedOk l d && closedAll l (d ||| 2 ^ i) is
theorem mask_getDt (n d k : Nat) : (mask n d).getD k false = true → k < n ∧ d.testBit k = true := by
 intro h
 unfold mask at h
 by_cases hk : k < n
 · simp [hk] at h
   exact ⟨hk, h⟩
 · simp [hk] at h
theorem closedOk_spec {l : List Oper} {d : Nat} (h : closedOk l d = true) : Closed .any l.toArray (mask l.length d) := by
 intro k ok hk hl e he hb
 obtain ⟨hkn, hkd⟩ := mask_getDt _ _ _ hl
 have h1 := List.all_eq_true.1 h k (List.mem_range.2 hkn)
 rw [hkd, show l[k]? = some ok by simpa using hk] at h1
 simp only [Bool.not_true, Bool.false_or] at h1
 have h2 := Array.all_eq_true_iff_forall_mem.1 h1 e he
 rw [hb] at h2
 simpa using h2
def barOk2 (l : List Oper) (B i : Nat) : Bool := i != B && (match l[B]? with | some _ => reaches l l.length B i | none => true)
section
variable {P : Program} {Q : Exit → Act → World → Prop}
theorem Tx.seg2 {l : List Oper} {S : World → Prop} {B : Nat} {w : World} {A : Act} (f' d' : Nat) (hs : Region.noSelect l.toArray = true) (hS : S w) :
 ∀ (is : List Nat) {f d : Nat} {a : Act}, (segOk l a.tmps.size f' f d is d' && (is.all (barOk2 l B) && closedAll l d is)) = true → (∀ w', S w' → rd P l w' is a A) → Tx P l Q S B f' d' A w → Tx P l Q S B f d a w
 | [], f, d, a, hok, h, H => by
  simp only [segOk, Bool.and_eq_true, beq_iff_eq] at hok
  obtain ⟨⟨rfl, rfl⟩, -⟩ := hok
  rw [show a = A from h w hS]; exact H
 | i :: is, 0, d, a, hok, h, H => by simp [segOk] at hok
 | i :: is, f + 1, d, a, hok, h, H => by
  simp only [segOk, closedAll, Bool.and_eq_true, List.all_cons] at hok
  obtain ⟨⟨⟨⟨hrest, hf⟩, hr⟩, hd⟩, ⟨hb1, hb2⟩, hc1, hc2⟩ := hok
  cases hi : l[i]? with
  | none => rw [hi] at hd; cases hd
  | some o =>
   rw [hi] at hd
   cases hdst : o.dst with
   | none => simp [hdst] at hd
   | some e =>
    simp only [hdst] at hd
    simp only [Bool.and_eq_true, decide_eq_true_eq, Bool.not_eq_true'] at hd
    obtain ⟨v, hy, hgo⟩ := rd_step (P := P) hi hdst hd.1 hd.2 hS h
    have ih := Tx.seg2 f' d' hs hS is (f := f) (d := d ||| 2 ^ i) (a := a.put o.dst v) (by rw [put_size, hrest, hb2, hc2]; rfl) hgo H
    unfold Tx
    simp only [barOk2, Bool.and_eq_true, bne_iff_ne, ne_eq] at hb1
    refine wpAnyB_first2 (oi := o) (v := v) (by simpa using hi) (Region.noSelect_spec hs) (fun c a w hq => hq) hb1.1 (fun listed hcl hB => ?_) f _ a w (closedOk_spec hc1) (Region.free_spec (by simpa using hi) hf) (by simpa using hr) hy hS ?_
    · obtain ⟨-, oB, hoB, hall⟩ := mem_ready.1 hB
      have hoB' : l[B]? = some oB := by simpa using hoB
      have h2 := hb1.2
      rw [hoB'] at h2
      refine reach_listed hcl l.length B h2 (fun o' ho' e' he' hb' => ?_)
      rw [hoB'] at ho'
      cases ho'
      exact hall e' he' hb'
    · rw [mask_set]
      exact ih
theorem Tx.row {l : List Oper} {S : World → Prop} {B f d : Nat} {a : Act} {w : World} {g : Nat} {xs ys : List Value} (hg : Arr w g xs)
 (h : ∀ W, Arr W g ys → (∀ k zs, k ≠ g → Arr w k zs → Arr W k zs) → (∀ n w0, n ≤ g → Below n w0 w → Below n w0 W) → Tx P l Q S B f d a W) : Tx P l Q S B f d a (w.setRow g ys.toArray) :=
 h _ (hg.setRow ys) (fun _ _ hk h => h.row_other hk _) (fun _ _ hn h => below_setRow h hn _)
theorem inb_row {K : Exit → Act → World → Prop} {n : Nat} {e : Exit} {a : Act} {w : World} {g : Nat} {xs ys : List Value} (hg : Arr w g xs)
 (h : ∀ W, Arr W g ys → (∀ k zs, k ≠ g → Arr w k zs → Arr W k zs) → (∀ n w0, n ≤ g → Below n w0 w → Below n w0 W) → Exit.inBlock n K e a W) : Exit.inBlock n K e a (w.setRow g ys.toArray) :=
 h _ (hg.setRow ys) (fun _ _ hk h => h.row_other hk _) (fun _ _ hn h => below_setRow h hn _)
end
section
variable {P : Program}
theorem run_cell_arr {w : World} {g : Nat} {ty : TypeId} (ha : aggT P ty = true) {xs : List Value} (hg : Arr w g xs) (hi : (P.info? ty).map (·.size) = some xs.length) : (loadVar ty ⟨g, 0, none⟩).run P w = .ok (.agg xs.toArray) w := by
 obtain ⟨d, hu, hd⟩ := aggT_spec ha
 obtain ⟨T, hg⟩ := hg
 exact run_loadVar_row w g T ty _ (0, 0) d hg hu (by cases d <;> first | rfl | cases hd) (by simpa using hi)
theorem results_arr4 {fn : Func} {p1 p2 p3 p4 : Tmp} {ty : TypeId} (h : fn.results = #[.cell p1 ty, .cell p2 ty, .cell p3 ty, .cell p4 ty]) (tmps : Array Value) (w : World) (g1 g2 g3 g4 : Nat)
 (hp1 : tmps.getD p1 undef = .pointer (some ⟨g1, 0, none⟩)) (hp2 : tmps.getD p2 undef = .pointer (some ⟨g2, 0, none⟩)) (hp3 : tmps.getD p3 undef = .pointer (some ⟨g3, 0, none⟩)) (hp4 : tmps.getD p4 undef = .pointer (some ⟨g4, 0, none⟩))
 (ha : aggT P ty = true) (x1 x2 x3 x4 : List Value) (k1 : Arr w g1 x1) (k2 : Arr w g2 x2) (k3 : Arr w g3 x3) (k4 : Arr w g4 x4)
 (i1 : (P.info? ty).map (·.size) = some x1.length) (i2 : (P.info? ty).map (·.size) = some x2.length) (i3 : (P.info? ty).map (·.size) = some x3.length) (i4 : (P.info? ty).map (·.size) = some x4.length) :
 (results fn tmps).run P w = .ok (.tuple #[.agg x1.toArray, .agg x2.toArray, .agg x3.toArray, .agg x4.toArray]) w := by
 have e1 := run_cell_arr ha k1 i1
 have e2 := run_cell_arr ha k2 i2
 have e3 := run_cell_arr ha k3 i3
 have e4 := run_cell_arr ha k4 i4
 simp only [results, h]
 simp only [Array.getD_eq_getD_getElem?] at hp1 hp2 hp3 hp4
 simp [Sem.run_bind, Result.andThen, hp1, hp2, hp3, hp4, asAddr, e1, e2, e3, e4]
end
theorem wpl_store {P : Program} {w : World} {ops : Array Oper} {rest : List Oper} {o : Oper} {a : Act} {Q : Exit → Act → World → Prop} (hgd : o.guard = none) (ty : TypeId) (x y : Operand) (ho : o.op = .store ty x y)
 (g : Nat) (ys : List Value) (hx : a.eval x = .pointer (some ⟨g, 0, none⟩)) (hy : a.eval y = .agg ys.toArray) (xs : List Value) (hg : Arr w g xs) (hi : (P.info? ty).map (·.size) = some ys.length)
 (hold : xs.length = ys.length) (h1 : ∀ v ∈ ys, v.oneCell' = true)
 (h : ∀ W, Arr W g ys → (∀ k zs, k ≠ g → Arr w k zs → Arr W k zs) → (∀ n w0, n ≤ g → Below n w0 w → Below n w0 W) → wpList P ops Q rest (a.put o.dst undef) W) : wpList P ops Q (o :: rest) a w :=
 wpList_store_arr hgd ty x y ho g ys hx hy xs hg hi hold h1 (h _ (hg.setRow ys) (fun _ _ hk h => h.row_other hk _) (fun _ _ hn h => below_setRow h hn _))
end Go.Proofs.YtncnlfpiondpnaaGreat
