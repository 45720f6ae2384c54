/- PortcullisWrong: part 3 of its proof: lemmas and contracts, each with its conditions in its own statement; the last part holds the law itself. -/
import Derived.Test.YtibdgkhkhmdihaaGreatDoorJe02
import Derived.Laws.CopyRow
import Derived.BigFrame
import Derived.Deep.MidRow
import Derived.Test.YtibdgkhkhmdihaaGreatDoorRows
import Derived.WalkSpells
import Derived.WalkKit
import Derived.Deep.CutRange
import Derived.Deep.CutBlock
import Derived.RegionTactic
import Derived.ScopeJumps
import Derived.WalkLawsBesides
import Derived.StillTailTactics
import Derived.ProofKit

set_option maxHeartbeats 4000000
set_option maxRecDepth 100000
namespace Go.Proofs.YtibdgkhkhmdihaaGreatDoor
open Go.RowKit
section
variable {K : Act → World → Prop} {Q : Exit → Act → World → Prop} {e : Exit} {a : Act} {w : World} {g j : Nat} {xs : List Value} {u : Value}
end
section
variable {P : Program} {ops : Array Oper} {Q : Exit → Act → World → Prop} {md : Region.Mode} {S : World → Prop} {B : Nat}
def Closed (md : Region.Mode) (ops : Array Oper) (listed : Array Bool) : Prop :=
 ∀ k ok, ops[k]? = some ok → listed.getD k false = true → ∀ e ∈ ok.after, Region.binds md e = true → listed.getD e.on false = true
theorem Closed.set {listed : Array Bool} {j : Nat} (h : Closed md ops listed) (hj : j ∈ Region.ready md ops listed) : Closed md ops (listed.setIfInBounds j true) := by
 intro k ok hk hl e he hb
 by_cases hkj : k = j
 · subst hkj
   obtain ⟨-, o, ho, hall⟩ := mem_ready.1 hj
   rw [hk] at ho
   cases ho
   exact getD_set_true (hall e he hb)
 · rw [getD_set_ne false (Ne.symm hkj)] at hl
   exact getD_set_true (h k ok hk hl e he hb)
theorem wpAnyB_first2 {i : Nat} {oi : Oper} {v : Value} (hi : ops[i]? = some oi) (hsel : ∀ (j : Nat) (o : Oper) cs b, ops[j]? = some o → o.op ≠ .select cs b)
 (hQ : ∀ c a w, Q (.panic c) (a.put oi.dst v) w → Q (.panic c) a w) (hiB : i ≠ B)
 (hBw : ∀ listed, Closed md ops listed → B ∈ Region.ready md ops listed → listed.getD i false = true) :
 ∀ (fuel : Nat) (listed : Array Bool) (a : Act) (w : World), Closed md ops listed →
  (∀ j oj, ops[j]? = some oj → j ≠ i → listed.getD j true = false → (∀ e ∈ oj.after, Region.binds md e = true → e.on ≠ i) → oi.apart ops oj = true) →
  i ∈ Region.ready md ops listed → YieldsIf P ops S oi v a → S w →
  wpAnyB P md ops Q S B fuel (listed.setIfInBounds i true) (a.put oi.dst v) w → wpAnyB P md ops Q S B (fuel + 1) listed a w := by
 intro fuel
 induction fuel with
 | zero =>
  intro listed a w _ _ hr hy hS H
  refine ⟨fun h => (by rw [h] at hr; cases hr), fun j hj => ?_⟩
  by_cases hji : j = i
  · subst hji; simp only [if_neg hiB]; exact hy.wpOp hi hS ⟨hS, H⟩
  · have := ready_mono hj hji
    rw [H.1] at this
    cases this
 | succ fuel ih =>
  intro listed a w hc hfree hr hy hS H
  refine ⟨fun h => (by rw [h] at hr; cases hr), fun j hj => ?_⟩
  by_cases hji : j = i
  · subst hji; simp only [if_neg hiB]; exact hy.wpOp hi hS ⟨hS, H⟩
  · have h1 := H.2 j (ready_mono hj hji)
    obtain ⟨hjun, oj, hoj, hall⟩ := mem_ready.1 hj
    have hun0 : listed.getD i false = true → False := fun h2 => by
     have h0 := (mem_ready.1 hr).1
     rcases Nat.lt_or_ge i listed.size with h' | h'
     · simp [h'] at h0 h2; rw [h0] at h2; cases h2
     · simp [Array.getElem?_eq_none h'] at h2
    have hnot : ∀ e ∈ oj.after, Region.binds md e = true → e.on ≠ i := fun e he hb heq => by
     have h1 := hall e he hb
     rw [heq] at h1
     exact hun0 h1
    have hjB : ¬ j = B := fun e => by
     subst e
     exact hun0 (hBw listed hc hj)
    simp only [if_neg hjB] at h1 ⊢
    have h2 := wpOp_putIf hoj (hfree j oj hoj hji hjun hnot) (fun cs b => hsel i oi cs b hi) (fun cs b => hsel j oj cs b hoj) hQ hy h1
    have hfree' : ∀ k ok, ops[k]? = some ok → k ≠ i → (listed.setIfInBounds j true).getD k true = false →
     (∀ e ∈ ok.after, Region.binds md e = true → e.on ≠ i) → oi.apart ops ok = true := fun k ok hk hki hun hno => by
     refine hfree k ok hk hki ?_ hno
     by_cases hjk : j = k
     · subst hjk; exact hjun
     · rw [getD_set_ne true hjk] at hun; exact hun
    refine wpOp_mono (fun a' w' h3 => ⟨h3.2.1, ih (listed.setIfInBounds j true) a' w' (hc.set hj) hfree' (ready_mono hr (Ne.symm hji)) h3.1 h3.2.1 ?_⟩) h2
    rw [Array.setIfInBounds_comm _ _ hji]
    exact h3.2.2
end
def reaches (l : List Oper) : Nat → Nat → Nat → Bool
 | 0, _, _ => false
 | f + 1, b, i => match l[b]? with | some o => o.after.any (fun e => Region.binds .any e && (e.on == i || reaches l f e.on i)) | none => false
theorem reach_listed {l : List Oper} {listed : Array Bool} {i : Nat} (hc : Closed .any l.toArray listed) : ∀ f b, reaches l f b i = true →
 (∀ o, l[b]? = some o → ∀ e ∈ o.after, Region.binds .any e = true → listed.getD e.on false = true) → listed.getD i false = true
 | 0, _, h, _ => by cases h
 | f + 1, b, h, hb => by
  unfold reaches at h
  cases ho : l[b]? with
  | none => rw [ho] at h; cases h
  | some o =>
   rw [ho] at h
   obtain ⟨k, hk, hkb⟩ := Array.any_eq_true.1 h
   simp only [Bool.and_eq_true, Bool.or_eq_true, beq_iff_eq] at hkb
   have h1 := hb o ho _ (Array.getElem_mem hk) hkb.1
   rcases hkb.2 with h2 | h2
   · rw [h2] at h1; exact h1
   · refine reach_listed hc f _ h2 (fun o' ho' e' he' hb' => ?_)
     exact hc _ o' (by simpa using ho') h1 e' he' hb'
def closedOk (l : List Oper) (d : Nat) : Bool := (List.range l.length).all fun k => !d.testBit k || (match l[k]? with | some o => o.after.all (fun e => !Region.binds .any e || (mask l.length d).getD e.on false) | none => true)
def closedAll (l : List Oper) : Nat → List Nat → Bool
 | _, [] => true
 | d, i :: is => closedOk l d && closedAll l (d ||| 2 ^ i) is
theorem mask_getDt (n d k : Nat) : (mask n d).getD k false = true → k < n ∧ d.testBit k = true := by
 intro h
 unfold mask at h
 by_cases hk : k < n
 · simp [hk] at h
   exact ⟨hk, h⟩
 · simp [hk] at h
theorem closedOk_spec {l : List Oper} {d : Nat} (h : closedOk l d = true) : Closed .any l.toArray (mask l.length d) := by
 intro k ok hk hl e he hb
 obtain ⟨hkn, hkd⟩ := mask_getDt _ _ _ hl
 have h1 := List.all_eq_true.1 h k (List.mem_range.2 hkn)
 rw [hkd, show l[k]? = some ok by simpa using hk] at h1
 simp only [Bool.not_true, Bool.false_or] at h1
 have h2 := Array.all_eq_true_iff_forall_mem.1 h1 e he
 rw [hb] at h2
 simpa using h2
def barOk2 (l : List Oper) (B i : Nat) : Bool := i != B && (match l[B]? with | some _ => reaches l l.length B i | none => true)
section
variable {P : Program} {Q : Exit → Act → World → Prop}
theorem Tx.seg2 {l : List Oper} {S : World → Prop} {B : Nat} {w : World} {A : Act} (f' d' : Nat) (hs : Region.noSelect l.toArray = true) (hS : S w) :
 ∀ (is : List Nat) {f d : Nat} {a : Act}, (segOk l a.tmps.size f' f d is d' && (is.all (barOk2 l B) && closedAll l d is)) = true → (∀ w', S w' → rd P l w' is a A) → Tx P l Q S B f' d' A w → Tx P l Q S B f d a w
 | [], f, d, a, hok, h, H => by
  simp only [segOk, Bool.and_eq_true, beq_iff_eq] at hok
  obtain ⟨⟨rfl, rfl⟩, -⟩ := hok
  rw [show a = A from h w hS]; exact H
 | i :: is, 0, d, a, hok, h, H => by simp [segOk] at hok
 | i :: is, f + 1, d, a, hok, h, H => by
  simp only [segOk, closedAll, Bool.and_eq_true, List.all_cons] at hok
  obtain ⟨⟨⟨⟨hrest, hf⟩, hr⟩, hd⟩, ⟨hb1, hb2⟩, hc1, hc2⟩ := hok
  cases hi : l[i]? with
  | none => rw [hi] at hd; cases hd
  | some o =>
   rw [hi] at hd
   cases hdst : o.dst with
   | none => simp [hdst] at hd
   | some e =>
    simp only [hdst] at hd
    simp only [Bool.and_eq_true, decide_eq_true_eq, Bool.not_eq_true'] at hd
    obtain ⟨v, hy, hgo⟩ := rd_step (P := P) hi hdst hd.1 hd.2 hS h
    have ih := Tx.seg2 f' d' hs hS is (f := f) (d := d ||| 2 ^ i) (a := a.put o.dst v) (by rw [put_size, hrest, hb2, hc2]; rfl) hgo H
    unfold Tx
    simp only [barOk2, Bool.and_eq_true, bne_iff_ne, ne_eq] at hb1
    refine wpAnyB_first2 (oi := o) (v := v) (by simpa using hi) (Region.noSelect_spec hs) (fun c a w hq => hq) hb1.1 (fun listed hcl hB => ?_) f _ a w (closedOk_spec hc1) (Region.free_spec (by simpa using hi) hf) (by simpa using hr) hy hS ?_
    · obtain ⟨-, oB, hoB, hall⟩ := mem_ready.1 hB
      have hoB' : l[B]? = some oB := by simpa using hoB
      have h2 := hb1.2
      rw [hoB'] at h2
      refine reach_listed hcl l.length B h2 (fun o' ho' e' he' hb' => ?_)
      rw [hoB'] at ho'
      cases ho'
      exact hall e' he' hb'
    · rw [mask_set]
      exact ih
theorem Tx.row {l : List Oper} {S : World → Prop} {B f d : Nat} {a : Act} {w : World} {g : Nat} {xs ys : List Value} (hg : Arr w g xs)
 (h : ∀ W, Arr W g ys → (∀ k zs, k ≠ g → Arr w k zs → Arr W k zs) → (∀ n w0, n ≤ g → Below n w0 w → Below n w0 W) → Tx P l Q S B f d a W) : Tx P l Q S B f d a (w.setRow g ys.toArray) :=
 h _ (hg.setRow ys) (fun _ _ hk h => h.row_other hk _) (fun _ _ hn h => below_setRow h hn _)
theorem inb_row {K : Exit → Act → World → Prop} {n : Nat} {e : Exit} {a : Act} {w : World} {g : Nat} {xs ys : List Value} (hg : Arr w g xs)
 (h : ∀ W, Arr W g ys → (∀ k zs, k ≠ g → Arr w k zs → Arr W k zs) → (∀ n w0, n ≤ g → Below n w0 w → Below n w0 W) → Exit.inBlock n K e a W) : Exit.inBlock n K e a (w.setRow g ys.toArray) :=
 h _ (hg.setRow ys) (fun _ _ hk h => h.row_other hk _) (fun _ _ hn h => below_setRow h hn _)
end
section
variable {P : Program}
theorem run_cell_arr {w : World} {g : Nat} {ty : TypeId} (ha : aggT P ty = true) {xs : List Value} (hg : Arr w g xs) (hi : (P.info? ty).map (·.size) = some xs.length) : (loadVar ty ⟨g, 0, none⟩).run P w = .ok (.agg xs.toArray) w := by
 obtain ⟨d, hu, hd⟩ := aggT_spec ha
 obtain ⟨T, hg⟩ := hg
 exact run_loadVar_row w g T ty _ (0, 0) d hg hu (by cases d <;> first | rfl | cases hd) (by simpa using hi)
theorem results_arr4 {fn : Func} {p1 p2 p3 p4 : Tmp} {ty : TypeId} (h : fn.results = #[.cell p1 ty, .cell p2 ty, .cell p3 ty, .cell p4 ty]) (tmps : Array Value) (w : World) (g1 g2 g3 g4 : Nat)
 (hp1 : tmps.getD p1 undef = .pointer (some ⟨g1, 0, none⟩)) (hp2 : tmps.getD p2 undef = .pointer (some ⟨g2, 0, none⟩)) (hp3 : tmps.getD p3 undef = .pointer (some ⟨g3, 0, none⟩)) (hp4 : tmps.getD p4 undef = .pointer (some ⟨g4, 0, none⟩))
 (ha : aggT P ty = true) (x1 x2 x3 x4 : List Value) (k1 : Arr w g1 x1) (k2 : Arr w g2 x2) (k3 : Arr w g3 x3) (k4 : Arr w g4 x4)
 (i1 : (P.info? ty).map (·.size) = some x1.length) (i2 : (P.info? ty).map (·.size) = some x2.length) (i3 : (P.info? ty).map (·.size) = some x3.length) (i4 : (P.info? ty).map (·.size) = some x4.length) :
 (results fn tmps).run P w = .ok (.tuple #[.agg x1.toArray, .agg x2.toArray, .agg x3.toArray, .agg x4.toArray]) w := by
 have e1 := run_cell_arr ha k1 i1
 have e2 := run_cell_arr ha k2 i2
 have e3 := run_cell_arr ha k3 i3
 have e4 := run_cell_arr ha k4 i4
 simp only [results, h]
 simp only [Array.getD_eq_getD_getElem?] at hp1 hp2 hp3 hp4
 simp [Sem.run_bind, Result.andThen, hp1, hp2, hp3, hp4, asAddr, e1, e2, e3, e4]
end
theorem wpl_store {P : Program} {w : World} {ops : Array Oper} {rest : List Oper} {o : Oper} {a : Act} {Q : Exit → Act → World → Prop} (hgd : o.guard = none) (ty : TypeId) (x y : Operand) (ho : o.op = .store ty x y)
 (g : Nat) (ys : List Value) (hx : a.eval x = .pointer (some ⟨g, 0, none⟩)) (hy : a.eval y = .agg ys.toArray) (xs : List Value) (hg : Arr w g xs) (hi : (P.info? ty).map (·.size) = some ys.length)
 (hold : xs.length = ys.length) (h1 : ∀ v ∈ ys, v.oneCell' = true)
 (h : ∀ W, Arr W g ys → (∀ k zs, k ≠ g → Arr w k zs → Arr W k zs) → (∀ n w0, n ≤ g → Below n w0 w → Below n w0 W) → wpList P ops Q rest (a.put o.dst undef) W) : wpList P ops Q (o :: rest) a w :=
 wpList_store_arr hgd ty x y ho g ys hx hy xs hg hi hold h1 (h _ (hg.setRow ys) (fun _ _ hk h => h.row_other hk _) (fun _ _ hn h => below_setRow h hn _))
theorem run_append_new {P : Program} {w : World} (t ty e : TypeId) {i : TypeInfo} {z : Value} {bytes : Nat} (ht : P.underlying t = some (.slice e)) (hi : P.info? e = some i) (hz : i.zero = some z)
 (hsize : i.size = 1) (hby : i.bytes = bytes) (hzs : z.cells.size = 1) {a : Option Addr} {n cap : Nat} {xs : List Value} (hs : Sl w (.slice a n cap) xs) {vx : Value} {news : List Value} (hx : Sl w vx news)
 (hcap : cap < xs.length + news.length) (h1 : ∀ u ∈ news, u.oneCell' = true) (h63 : n + news.length ≤ maxLen) (hbytes : (n + news.length) * bytes ≤ 140737488355328) :
 ∃ v' w', (Builtin.append_ #[t, t] ty #[.slice a n cap, vx]).run P w = .ok v' w' ∧ w'.ownsRow w.heap.size e 1 v' (n + news.length) (xs ++ news) ∧ Below w.heap.size w w' := by
 obtain ⟨a', cap', e1, h2, h3, h4, h5⟩ := hs
 simp only [Value.slice.injEq] at e1
 obtain ⟨rfl, rfl, rfl⟩ := e1
 cases a with
 | none =>
  obtain rfl := h4 rfl
  obtain rfl : xs = [] := List.eq_nil_of_length_eq_zero zOm
  obtain ⟨v', w', r1, r2, r3⟩ := run_append_sl (P := P) (w := w) (base := w.heap.size) t ty e ht hi hz hsize hby hzs (World.ownsRow_nil w w.heap.size e 1) hx h1 (by simpa using h63) (by simpa using hbytes) (Nat.le_refl _)
  exact ⟨v', w', r1, by simpa using r2, (Below.refl _ _).grown r3 (Nat.le_refl _) (fun k hk => by cases hk)⟩
 | some b =>
  obtain ⟨a2, cap2, rfl, g2, g3, g4, g5⟩ := hx
  cases a2 with
  | none =>
   obtain rfl := g4 rfl
   omega
  | some x =>
   subst hby
   have h6 : ((xs.length + news.length : Nat) : Int) ≤ 9223372036854775807 := by simp only [maxLen] at h63; omega
   have hr := run_append_grow (P := P) (w := w) t ty e i z ht hi hz b xs.length cap xs (by rw [hsize, Nat.mul_one]) (h5 b rfl) x news.length cap2 news (by rw [hsize, Nat.mul_one]) (g5 x rfl) hcap h6 (growslice_fits hcap hbytes)
   refine ⟨_, _, hr, ?_, ((Below.refl _ _).drew).alloc (Nat.le_refl _) _⟩
   refine ⟨by simp, .inr ⟨w.heap.size, _, _, rfl, Nat.le_refl _, heap_alloc_new w.drew _, grownCap_ge _ _ _ _, grownCap_le_maxLen _ _ _ _ h63, ?_, ?_⟩⟩
   · have := grownCap_ge w (xs.length + news.length) cap e
     simp only [Array.size_append, List.size_toArray, size_zeroCells, hzs, Nat.mul_one]
     omega
   · rw [Nat.mul_one]
     simp only [Array.toList_append, List.append_assoc]
     rw [← List.append_assoc, List.take_append_of_le_length (by simp), List.take_of_length_le (by simp)]
theorem wpList_copy_arr {P : Program} {w : World} {ops : Array Oper} {rest : List Oper} {o : Oper} {a : Act} {Q : Exit → Act → World → Prop} (hw : Region.wanted o (yielded ops a.tmps) = true) (d s : Operand) (dT sT : TypeId)
 (ho : o.op = .call { callee := .builtin .copy, args := #[d, s], argTypes := #[dT, sT] }) (elem : TypeId) (hu : P.underlying dT = some (.slice elem)) (hsz : (P.info? elem).map (·.size) = some 1)
 (g off dLen dCap : Nat) (hd : a.eval d = .slice (some ⟨g, off, none⟩) dLen dCap) (xs : List Value) (hg : Arr w g xs) (hfit : off + dLen ≤ xs.length) (vs : Value) (hs : a.eval s = vs) (full : List Value) (hsl : Sl w vs full) (h1 : ∀ v ∈ full, v.oneCell' = true)
 (h : wpList P ops Q rest (a.put o.dst (goInt (full.take dLen).length)) (w.setRow g (xs.take off ++ full.take dLen ++ xs.drop (off + (full.take dLen).length)).toArray)) : wpList P ops Q (o :: rest) a w := by
 refine wpList_step fun K hK => ?_
 rw [if_pos hw]
 obtain ⟨sp, cap, rfl, h2, h3, h4, h5⟩ := hsl
 obtain ⟨T, hg⟩ := hg
 cases sp with
 | none =>
  obtain rfl := h4 rfl
  obtain rfl : full = [] := List.eq_nil_of_length_eq_zero zOm
  have hrun := run_copy_nil (P := P) w dT sT o.type elem ⟨g, off, none⟩ dLen dCap hu (by cases hq : P.info? elem <;> simp [hq] at hsz ⊢)
  unfold Oper.wp
  simp only [execOp, ho, resolve, invoke, builtin, Sem.run_bind, Sem.run_pure, Result.andThen_ok, List.map_toArray, List.map_cons, List.map_nil, hd, hs, List.length_nil, hrun]
  refine hK _ _ ?_
  simp only [List.take_nil, List.append_nil, List.length_nil, Nat.add_zero, List.take_append_drop] at h
  rwa [setRow_self w g xs.toArray T (0, 0) hg] at h
 | some x =>
  have hl : (full.take dLen).length = Nat.min full.length dLen := by rw [List.length_take]; exact Nat.min_comm _ _
  have hrun := run_copy_row (P := P) w dT sT o.type elem g off dLen dCap x full.length cap xs.toArray T (full.take dLen) hu hsz hg hl (fun j v hj => h5 x rfl j v (by
   rw [List.getElem?_take] at hj
   split at hj
   · exact hj
   · cases hj)) (by have := List.length_take_le dLen full; simp only [List.size_toArray]; omega) (fun v hv => h1 v (List.mem_of_mem_take hv))
  unfold Oper.wp
  simp only [execOp, ho, resolve, invoke, builtin, Sem.run_bind, Sem.run_pure, Result.andThen_ok, List.map_toArray, List.map_cons, List.map_nil, hd, hs, hrun]
  exact hK _ _ h
theorem wpList_append_new {P : Program} {w : World} {ops : Array Oper} {rest : List Oper} {o : Oper} {a : Act} {Q : Exit → Act → World → Prop} (hgd : o.guard = none) (s x : Operand) (t : TypeId)
 (ho : o.op = .call { callee := .builtin .append, args := #[s, x], argTypes := #[t, t] })
 (e : TypeId) {i : TypeInfo} {z : Value} {bytes : Nat} (ht : P.underlying t = some (.slice e)) (hi : P.info? e = some i) (hz : i.zero = some z)
 (hsize : i.size = 1) (hby : i.bytes = bytes) (hzs : z.cells.size = 1) {d : Option Addr} {n cap : Nat} {xs : List Value} (hse : a.eval s = .slice d n cap) (hs : Sl w (.slice d n cap) xs) {vx : Value} {news : List Value} (hx : a.eval x = vx) (hsl : Sl w vx news)
 (hcap : cap < xs.length + news.length) (h1 : ∀ u ∈ news, u.oneCell' = true) (h63 : n + news.length ≤ maxLen) (hbytes : (n + news.length) * bytes ≤ 140737488355328)
 (h : ∀ v' w', w'.ownsRow w.heap.size e 1 v' (n + news.length) (xs ++ news) → Below w.heap.size w w' → wpList P ops Q rest (a.put o.dst v') w') : wpList P ops Q (o :: rest) a w := by
 refine wpList_plain hgd fun K hK => ?_
 obtain ⟨v', w', hr, h2, h3⟩ := run_append_new (P := P) t o.type e ht hi hz hsize hby hzs hs hsl hcap h1 h63 hbytes
 unfold Oper.wp execOp
 simp only [ho, resolve, invoke, builtin, Sem.run_bind, Sem.run_pure, Result.andThen_ok, List.map_toArray, List.map_cons, List.map_nil, hse, hx, hr]
 exact hK _ _ (h v' w' h2 h3)
section
variable {P : Program}
theorem Arr.range {w : World} {g : Nat} {xs : List Value} (h : Arr w g xs) {o : Nat} {cs : List Value} (hcs : ∀ j, j < cs.length → xs[o + j]? = cs[j]?) : w.rangeAt g o cs := by
 intro j v hv
 have hj : j < cs.length := (List.getElem?_eq_some_iff.1 hv).1
 exact h.cell (by rw [hcs j hj, hv])
theorem aggT_row {ty : TypeId} (h : aggT P ty = true) : ∃ d, P.underlying ty = some d ∧ d.isRow = true := by
 obtain ⟨d, h1, h2⟩ := aggT_spec h
 exact ⟨d, h1, by cases d <;> first | rfl | cases h2⟩
theorem rd_load_mid {l : List Oper} {w : World} {i : Nat} {is : List Nat} {a A : Act} {o : Oper} (hi : l[i]? = some o) (hw : Region.wanted o (yielded l.toArray a.tmps) = true) (ty : TypeId) (x : Operand) (ho : o.op = .load ty x)
 (g off : Nat) (hx : a.eval x = .pointer (some ⟨g, off, none⟩)) (ha : aggT P ty = true) (cs : List Value) (hg : w.rangeAt g off cs) (hz : (P.info? ty).map (·.size) = some cs.length)
 (h : rd P l w is (a.put o.dst (.agg cs.toArray)) A) : rd P l w (i :: is) a A := by
 obtain ⟨d, hu, hd⟩ := aggT_row ha
 refine rd_take hi hw ?_ h
 unfold execOp
 simp only [ho, hx, Instr.loadAt, Instr.sureAddr, Sem.run_bind, Sem.run_pure, Result.andThen_ok, run_loadVar_mid w g off ty cs d hg hu hd hz]
theorem wpList_load_mid2 {ops : Array Oper} {rest : List Oper} {o : Oper} {a : Act} {w : World} {Q : Exit → Act → World → Prop} (hw : Region.wanted o (yielded ops a.tmps) = true) (ty : TypeId) (x : Operand) (ho : o.op = .load ty x)
 (g off : Nat) (hx : a.eval x = .pointer (some ⟨g, off, none⟩)) (ha : aggT P ty = true) (cs : List Value) (hg : w.rangeAt g off cs) (hi : (P.info? ty).map (·.size) = some cs.length)
 (h : wpList P ops Q rest (a.put o.dst (.agg cs.toArray)) w) : wpList P ops Q (o :: rest) a w := by
 obtain ⟨d, hu, hd⟩ := aggT_row ha
 refine wpList_step fun K hK => ?_
 rw [if_pos hw]
 exact wp_load_mid ty x ho g off hx cs d hg hu hd hi (hK _ _ h)
def putAt (o : Nat) (cs xs : List Value) : List Value := xs.take o ++ (cs ++ xs.drop (o + cs.length))
theorem putAt_nil (o : Nat) (xs : List Value) : putAt o [] xs = xs := by simp [putAt]
theorem putAt_cons {o : Nat} {c : Value} {cs xs : List Value} (h : o + (c :: cs).length ≤ xs.length) : putAt (o + 1) cs (xs.set o c) = putAt o (c :: cs) xs := by
 simp only [List.length_cons] at h
 have e : (xs.set o c).drop (o + 1 + cs.length) = xs.drop (o + 1 + cs.length) := by rw [List.drop_set_of_lt zOm]
 have e2 : (xs.set o c).take (o + 1) = xs.take o ++ [c] := by
  rw [List.take_succ_eq_append_getElem (by simp; omega), List.take_set_of_le (Nat.le_refl _)]; simp
 rw [putAt, putAt, e, e2, List.length_cons, show o + (cs.length + 1) = o + 1 + cs.length by omega, List.append_assoc]
 rfl
theorem Arr.setCells {g : Nat} : ∀ (cs : List Value) (o : Nat) {w : World} {xs : List Value}, Arr w g xs → o + cs.length ≤ xs.length → Arr (w.setCells g o cs) g (putAt o cs xs)
 | [], o, w, xs, h, _ => by rw [putAt_nil]; exact h
 | c :: cs, o, w, xs, h, hl => by
  rw [World.setCells, ← putAt_cons hl]
  exact Arr.setCells cs (o + 1) (h.set o c) (by simp at hl ⊢; omega)
theorem Arr.there {w : World} {g : Nat} {xs : List Value} (h : Arr w g xs) {o n : Nat} (hn : o + n ≤ xs.length) : w.there g o n := fun j hj =>
 ⟨by rw [h.cell (List.getElem?_eq_getElem (by omega : o + j < xs.length))]; rfl, h.frozen _⟩
theorem setCells_heap {g k : Nat} (hk : k ≠ g) : ∀ (cs : List Value) (o : Nat) (w : World), (w.setCells g o cs).heap[k]? = w.heap[k]?
 | [], _, _ => rfl
 | c :: cs, o, w => by
  rw [World.setCells, setCells_heap hk cs (o + 1)]
  exact heap_setCell_other w ⟨g, o, none⟩ k c hk
theorem setCells_below {n g : Nat} (hg : n ≤ g) {w0 : World} : ∀ (cs : List Value) (o : Nat) (w : World), Below n w0 w → Below n w0 (w.setCells g o cs)
 | [], _, _, h => h
 | _ :: cs, o, _, h => setCells_below hg cs (o + 1) _ (h.setCell (p := ⟨g, o, none⟩) hg _)
theorem gr_trans {a b c : World} {row : Option Nat} (h : a.grownBy b row) (k : b.grownBy c row) : a.grownBy c row :=
 ⟨k.os.trans h.os, k.tape.trans h.tape, k.output.trans h.output, Nat.le_trans h.size k.size, fun i hi hn => by rw [k.block i (Nat.lt_of_lt_of_le hi h.size) hn, h.block i hi hn]⟩
theorem gr_cell (w : World) (g o : Nat) (u : Value) : w.grownBy (w.setCell ⟨g, o, none⟩ u) (some g) :=
 ⟨rfl, rfl, rfl, by simp [World.setCell], fun k _ hn => Below.heap_setCell _ _ _ _ (by simpa using hn)⟩
theorem gr_cells {g : Nat} : ∀ (cs : List Value) (o : Nat) (w : World), w.grownBy (w.setCells g o cs) (some g)
 | [], _, _ => World.grownBy.refl _ _
 | c :: cs, o, w => gr_trans (gr_cell w g o c) (gr_cells cs (o + 1) _)
theorem gr_below {w w' : World} {row : Option Nat} (h : Below w.heap.size w w') : w.grownBy w' row := ⟨h.os, h.tape, h.output, h.size, fun k hk _ => h.block k hk⟩
theorem below_gr {n : Nat} {w0 w w' : World} {g : Nat} (h : Below n w0 w) (hg : w.grownBy w' (some g)) (hn : n ≤ g) (hs : n ≤ w.heap.size) : Below n w0 w' :=
 h.grown hg hs (fun k hk => by cases hk; exact hn)
theorem wpl_store_mid {w : World} {ops : Array Oper} {rest : List Oper} {o : Oper} {a : Act} {Q : Exit → Act → World → Prop} (hgd : o.guard = none) (ty : TypeId) (x y : Operand) (ho : o.op = .store ty x y)
 (g off : Nat) (cs : List Value) (hx : a.eval x = .pointer (some ⟨g, off, none⟩)) (hy : a.eval y = .agg cs.toArray) (xs : List Value) (hg : Arr w g xs) (hi : (P.info? ty).map (·.size) = some cs.length)
 (hfit : off + cs.length ≤ xs.length) (h1 : ∀ v ∈ cs, v.oneCell' = true)
 (h : ∀ W, Arr W g (putAt off cs xs) → (∀ k zs, k ≠ g → Arr w k zs → Arr W k zs) → (∀ n w0, n ≤ g → Below n w0 w → Below n w0 W) → (w.grownBy W (some g)) → wpList P ops Q rest (a.put o.dst undef) W) : wpList P ops Q (o :: rest) a w := by
 refine wpList_store_mid hgd ty x y ho g off cs.toArray hx hy (by simpa using hg.there hfit) (by simpa using hi) (all_oneCell_toArray h1) ?_
 refine h _ (Arr.setCells _ _ hg (by simpa using hfit)) (fun k zs hk ha => ?_) (fun n w0 hn hb => setCells_below hn _ _ _ hb) (gr_cells _ _ _)
 obtain ⟨T, ha⟩ := ha
 exact ⟨T, by rw [setCells_heap hk]; exact ha⟩
theorem step_copy_arr {w : World} {ops : Array Oper} {o : Oper} {a : Act} {K : Act → World → Prop} {Q : Exit → Act → World → Prop} {E : Prop} (hw : Region.wanted o (yielded ops a.tmps) = true) (d s : Operand) (dT sT : TypeId)
 (ho : o.op = .call { callee := .builtin .copy, args := #[d, s], argTypes := #[dT, sT] }) (elem : TypeId) (hu : P.underlying dT = some (.slice elem)) (hsz : (P.info? elem).map (·.size) = some 1)
 (g off dLen dCap : Nat) (hd : a.eval d = .slice (some ⟨g, off, none⟩) dLen dCap) (xs : List Value) (hg : Arr w g xs) (hfit : off + dLen ≤ xs.length) (vs : Value) (hs : a.eval s = vs) (full : List Value) (hsl : Sl w vs full) (h1 : ∀ v ∈ full, v.oneCell' = true)
 (h : K (a.put o.dst (goInt (full.take dLen).length)) (w.setRow g (xs.take off ++ full.take dLen ++ xs.drop (off + (full.take dLen).length)).toArray)) : if Region.wanted o (yielded ops a.tmps) = true then Oper.wp P o a w K Q else E := by
 rw [if_pos hw]
 obtain ⟨sp, cap, rfl, h2, h3, h4, h5⟩ := hsl
 obtain ⟨T, hg⟩ := hg
 cases sp with
 | none =>
  obtain rfl := h4 rfl
  obtain rfl : full = [] := List.eq_nil_of_length_eq_zero zOm
  have hrun := run_copy_nil (P := P) w dT sT o.type elem ⟨g, off, none⟩ dLen dCap hu (by cases hq : P.info? elem <;> simp [hq] at hsz ⊢)
  unfold Oper.wp
  simp only [execOp, ho, resolve, invoke, builtin, Sem.run_bind, Sem.run_pure, Result.andThen_ok, List.map_toArray, List.map_cons, List.map_nil, hd, hs, List.length_nil, hrun]
  simp only [List.take_nil, List.append_nil, List.length_nil, Nat.add_zero, List.take_append_drop] at h
  rwa [setRow_self w g xs.toArray T (0, 0) hg] at h
 | some x =>
  have hl : (full.take dLen).length = Nat.min full.length dLen := by rw [List.length_take]; exact Nat.min_comm _ _
  have hrun := run_copy_row (P := P) w dT sT o.type elem g off dLen dCap x full.length cap xs.toArray T (full.take dLen) hu hsz hg hl (fun j v hj => h5 x rfl j v (by
   rw [List.getElem?_take] at hj
   split at hj
   · exact hj
   · cases hj)) (by have := List.length_take_le dLen full; simp only [List.size_toArray]; omega) (fun v hv => h1 v (List.mem_of_mem_take hv))
  unfold Oper.wp
  simp only [execOp, ho, resolve, invoke, builtin, Sem.run_bind, Sem.run_pure, Result.andThen_ok, List.map_toArray, List.map_cons, List.map_nil, hd, hs, hrun]
  exact h
end
theorem Sl.of_part {w : World} {g o n cap : Nat} {xs cs : List Value} (h : Arr w g xs) (hn : cs.length = n) (hc : n ≤ cap) (hm : cap ≤ maxLen) (hcs : ∀ j, j < cs.length → xs[o + j]? = cs[j]?) : Sl w (.slice (some ⟨g, o, none⟩) n cap) cs := by
 refine ⟨_, cap, by rw [hn], by omega, hm, fun h => (by cases h), fun x hx => ?_⟩
 cases hx
 intro j u hu
 rw [Addr.add_lit]
 have hj : j < cs.length := (List.getElem?_eq_some_iff.1 hu).1
 exact h.cell (by rw [hcs j hj, hu])
theorem gr_row (w : World) (g : Nat) (ys : Array Value) : w.grownBy (w.setRow g ys) (some g) :=
 ⟨rfl, rfl, rfl, by simp [World.setRow], fun k _ hn => by
  simp only [World.setRow, Array.getElem?_modify]
  rw [if_neg (by intro e; exact hn (by rw [e]))]⟩
theorem own_keptN {w w' : World} {g base : Nat} {e : TypeId} {size : Nat} {v : Value} {n : Nat} {xs : List Value} (h : w.ownsRow base e size v n xs) (hg : w.grownBy w' (some g)) (hne : v.ownBlock ≠ some g) : w'.ownsRow base e size v n xs :=
 h.kept hg (.inr hne)
section
variable {P : Program} {Q : Exit → Act → World → Prop}
theorem wpl_storeG {w : World} {ops : Array Oper} {rest : List Oper} {o : Oper} {a : Act} (hgd : o.guard = none) (ty : TypeId) (x y : Operand) (ho : o.op = .store ty x y)
 (g : Nat) (ys : List Value) (hx : a.eval x = .pointer (some ⟨g, 0, none⟩)) (hy : a.eval y = .agg ys.toArray) (xs : List Value) (hg : Arr w g xs) (hi : (P.info? ty).map (·.size) = some ys.length)
 (hold : xs.length = ys.length) (h1 : ∀ v ∈ ys, v.oneCell' = true)
 (h : ∀ W, Arr W g ys → w.grownBy W (some g) → W.heap.size = w.heap.size → wpList P ops Q rest (a.put o.dst undef) W) : wpList P ops Q (o :: rest) a w :=
 wpList_store_arr hgd ty x y ho g ys hx hy xs hg hi hold h1 (h _ (hg.setRow ys) (gr_row w g _) (by simp [World.setRow]))
theorem code_cellG {C : Code} {a : Act} {w : World} {g j : Nat} {xs : List Value} {u : Value} (hg : Arr w g xs)
 (h : ∀ W, Arr W g (xs.set j u) → w.grownBy W (some g) → W.heap.size = w.heap.size → Code.wp P C Q a W) : Code.wp P C Q a (w.setCell ⟨g, j, none⟩ u) :=
 h _ (hg.set j u) (gr_cell w g j u) (by simp [World.setCell])
theorem wpl_storeMG {w : World} {ops : Array Oper} {rest : List Oper} {o : Oper} {a : Act} (hgd : o.guard = none) (ty : TypeId) (x y : Operand) (ho : o.op = .store ty x y)
 (g off : Nat) (cs : List Value) (hx : a.eval x = .pointer (some ⟨g, off, none⟩)) (hy : a.eval y = .agg cs.toArray) (xs : List Value) (hg : Arr w g xs) (hi : (P.info? ty).map (·.size) = some cs.length)
 (hfit : off + cs.length ≤ xs.length) (h1 : ∀ v ∈ cs, v.oneCell' = true)
 (h : ∀ W, Arr W g (putAt off cs xs) → w.grownBy W (some g) → wpList P ops Q rest (a.put o.dst undef) W) : wpList P ops Q (o :: rest) a w :=
 wpl_store_mid hgd ty x y ho g off cs hx hy xs hg hi hfit h1 (fun W h1 _ _ h4 => h W h1 h4)
theorem one_cells {v : Value} (h : v.oneCell' = true) : v.cells = #[v] := by
 cases v <;> first | rfl | simp [Value.oneCell'] at h
theorem run_store_one {w : World} {ty : TypeId} {g j : Nat} {xs : List Value} {u : Value} (hg : Arr w g xs) (hj : j < xs.length) (hi : (P.info? ty).map (·.size) = some 1) (hu : u.oneCell' = true) :
 (Instr.storeAt ty (.pointer (some ⟨g, j, none⟩)) u).run P w = .ok () (w.setCell ⟨g, j, none⟩ u) := by
 have hc := hg.cell (List.getElem?_eq_getElem hj)
 have hf := hg.frozen j
 cases hq : P.info? ty with
 | none => simp [hq] at hi
 | some i =>
  have hs : i.size = 1 := by simpa [hq] using hi
  simp [Instr.storeAt, Instr.sureAddr, storeVar, one_cells hu, sizeOf, typeInfo, hq, hs, storeCells, run_store P _ _ u _ hu, Addr.add_zero', hc, hf, Result.andThen]
theorem wpl_cellG {w : World} {ops : Array Oper} {rest : List Oper} {o : Oper} {a : Act} (hgd : o.guard = none) (ty : TypeId) (x y : Operand) (ho : o.op = .store ty x y)
 (g j : Nat) (u : Value) (hx : a.eval x = .pointer (some ⟨g, j, none⟩)) (hy : a.eval y = u) (xs : List Value) (hg : Arr w g xs) (hi : (P.info? ty).map (·.size) = some 1) (hj : j < xs.length) (hu : u.oneCell' = true)
 (h : ∀ W, Arr W g (xs.set j u) → w.grownBy W (some g) → W.heap.size = w.heap.size → wpList P ops Q rest (a.put o.dst undef) W) : wpList P ops Q (o :: rest) a w := by
 refine wpList_plain hgd fun K hK => ?_
 unfold Oper.wp execOp
 simp only [ho, hx, hy, Sem.run_bind, Sem.run_pure, Result.andThen_ok, run_store_one hg hj hi hu]
 exact hK _ _ (h _ (hg.set j u) (gr_cell w g j u) (by simp [World.setCell]))
theorem step_cellG {l : List Oper} {o : Oper} {a : Act} {w : World} {K : Act → World → Prop} {E : Prop} (hw : Region.wanted o (yielded l.toArray a.tmps) = true) (ty : TypeId) (x y : Operand) (ho : o.op = .store ty x y)
 (g j : Nat) (u : Value) (hx : a.eval x = .pointer (some ⟨g, j, none⟩)) (hy : a.eval y = u) (xs : List Value) (hg : Arr w g xs) (hi : (P.info? ty).map (·.size) = some 1) (hj : j < xs.length) (hu : u.oneCell' = true)
 (h : ∀ W, Arr W g (xs.set j u) → w.grownBy W (some g) → W.heap.size = w.heap.size → K (a.put o.dst undef) W) : if Region.wanted o (yielded l.toArray a.tmps) = true then Oper.wp P o a w K Q else E := by
 rw [if_pos hw]
 unfold Oper.wp execOp
 simp only [ho, hx, hy, Sem.run_bind, Sem.run_pure, Result.andThen_ok, run_store_one hg hj hi hu]
 exact h _ (hg.set j u) (gr_cell w g j u) (by simp [World.setCell])
theorem step_storeG {l : List Oper} {o : Oper} {a : Act} {w : World} {K : Act → World → Prop} {E : Prop} (hgd : o.guard = none) (ty : TypeId) (x y : Operand) (ho : o.op = .store ty x y)
 (g : Nat) (ys : List Value) (hx : a.eval x = .pointer (some ⟨g, 0, none⟩)) (hy : a.eval y = .agg ys.toArray) (xs : List Value) (hg : Arr w g xs) (hi : (P.info? ty).map (·.size) = some ys.length)
 (hold : xs.length = ys.length) (h1 : ∀ v ∈ ys, v.oneCell' = true) (h : ∀ W, Arr W g ys → w.grownBy W (some g) → W.heap.size = w.heap.size → K (a.put o.dst undef) W) :
 if Region.wanted o (yielded l.toArray a.tmps) = true then Oper.wp P o a w K Q else E :=
 step_store_arr hgd ty x y ho g ys hx hy xs hg hi hold h1 (h _ (hg.setRow ys) (gr_row w g _) (by simp [World.setRow]))
end
theorem below_of_gr {n : Nat} {w0 w w' : World} {g : Nat} (h : Below n w0 w) (hg : w.grownBy w' (some g)) (hn : n ≤ g) (hs : n ≤ w.heap.size) : Below n w0 w' := below_gr h hg hn hs
def lims (k n : Nat) : List Value := (digs 18446744073709551616 k n).map fun (x : Nat) => .int .u64 (x : Int)
def byts (n : Nat) : List Value := (digs 256 32 n).map fun (x : Nat) => .int .u8 (x : Int)
theorem lims_len (k n : Nat) : (lims k n).length = k := by simp [lims, digs_len]
theorem byts_len (n : Nat) : (byts n).length = 32 := by simp [byts, digs_len]
theorem lims_get (k n i : Nat) (h : i < k) : (lims k n)[i]? = some (.int .u64 ((n / 18446744073709551616 ^ i % 18446744073709551616 : Nat) : Int)) := by simp [lims, digs_get _ _ _ _ h]
theorem byts_get (n i : Nat) (h : i < 32) : (byts n)[i]? = some (.int .u8 ((n / 256 ^ i % 256 : Nat) : Int)) := by simp [byts, digs_get _ _ _ _ h]
theorem lims_one (k n : Nat) : ∀ v ∈ lims k n, v.oneCell' = true := by
 intro v hv
 simp only [lims, List.mem_map] at hv
 obtain ⟨x, -, rfl⟩ := hv
 rfl
theorem byts_one (n : Nat) : ∀ v ∈ byts n, v.oneCell' = true := by
 intro v hv
 simp only [byts, List.mem_map] at hv
 obtain ⟨x, -, rfl⟩ := hv
 rfl
theorem limNum_any (n : Nat) (w : World) :
 Calls Tryz.prog 125 #[.agg (lims 4 n).toArray] w fun e w' => e = .returned (.agg (byts n).toArray) ∧ Below w.heap.size w w' := by
 go_enter Tryz.func125, Tryz.ntmps125
 go_wp2_with fail
 refine wp_new3 (fun W hsz h1 h2 h3 hb => ?_)
 go_loopw [5] (fun kv wr => ∃ k : Nat, k ≤ 32 ∧ kv = .int .i64 k ∧ Arr wr w.heap.size (lims 4 n) ∧ Arr wr (w.heap.size + 1 + 1) (part k (byts n) (.int .u8 0)) ∧ Arr wr (w.heap.size + 1) (List.replicate 32 (.int .u8 0)) ∧ Below w.heap.size w wr) (fun kv _ => 32 - (intOf kv).toNat)
 case atStart => exact ⟨0, Nat.zero_le _, rfl, h1, h3, h2, hb⟩
 case round =>
  obtain ⟨k, hk, rfl, k1, k3, k2, kb⟩ := hrel
  clear h1 h2 h3 hb hsz
  by_cases hlt : k < 32
  · have hc := k1.cell (lims_get 4 n (k / 8) zOm)
    have hf := k3.frozen k
    have hd := k3.cell (j := k) (u := .int .u8 0) (by rw [part_get k k (byts n) (.int .u8 0) (by rw [byts_len]; exact hlt), if_neg zOm])
    go_wp2_with fail
    have e : (n : Int) / 18446744073709551616 ^ (k / 8) % 18446744073709551616 / 2 ^ (8 * (k % 8)) % 256 = ((n / 256 ^ k % 256 : Nat) : Int) := by
     rw [← limb_byte]; simp
    rw [e]
    refine ⟨⟨k + 1, by omega, by go_num, k1.other (by simp; omega) _, ?_, k2.other (by simp) _, kb.setCell (by simp; omega) _⟩, by simp [intOf]; omega⟩
    have := k3.set k (.int .u8 ((n / 256 ^ k % 256 : Nat) : Int))
    rwa [part_set (byts_get n k hlt)] at this
  · obtain rfl : k = 32 := by omega
    have h4 : Arr wr (w.heap.size + 1 + 1) (byts n) := by
     have e := part_all (byts n) (.int .u8 0)
     rw [byts_len] at e
     rwa [e] at k3
    have hl := byts_len n
    have hone : ∀ v ∈ byts n, v.oneCell' = true := by
     intro v hv
     simp only [byts, List.mem_map] at hv
     obtain ⟨x, -, rfl⟩ := hv
     rfl
    clear k3
    go_wp2_with (first | (refine wpList_load_arr rfl 34 _ rfl (w.heap.size + 1 + 1) rfl _ Tryz.underlying34 rfl _ h4 (by rw [hl]; kernel_rfl) ?_) | (refine wpList_store_arr rfl 34 _ _ rfl (w.heap.size + 1) (byts n) rfl rfl _ k2 (by rw [hl]; kernel_rfl) (by rw [hl]; simp) hone ?_))
    refine bodyPost_ret (v := .agg (byts n).toArray) (results_arr Tryz.results125 _ _ (w.heap.size + 1) _ rfl Tryz.underlying34 rfl _ (k2.setRow _) (by rw [hl]; kernel_rfl)) rfl ⟨rfl, below_setRow kb zOm _⟩
theorem rotra_7 {x r : Nat} (hx : x < 4294967296) (hr : rl x 25 = r) (w : World) :
 Calls Tryz.prog 114 #[.int .u32 (x : Int), .int .i64 (-7)] w fun e w' => e = .returned (.int .u32 (r : Int)) ∧ Below w.heap.size w w' := by
 have h0 : bits .and .u64 (IntKind.u64.wrap (-7)) 31 = 25 := by decide
 have h2 : bits .or .u32 ((x : Int) * 33554432 % 4294967296) ((x : Int) / 128) = ((rl x 25 : Nat) : Int) := by
  have := or_u32 (a := x * 33554432 % 4294967296) (b := x / 128) (Nat.mod_lt _ zDc) (Nat.lt_of_le_of_lt (Nat.div_le_self _ _) hx)
  rw [show ((x : Int) * 33554432 % 4294967296) = ((x * 33554432 % 4294967296 : Nat) : Int) by omega, show ((x : Int) / 128) = ((x / 128 : Nat) : Int) by omega]
  exact this
 rw [hr] at h2
 clear hr
 go_enter Tryz.func114, Tryz.ntmps114
 go_wp2_with fail
 go_ret
 exact ⟨rfl, Below.refl _ _⟩
theorem rotra_18 {x r : Nat} (hx : x < 4294967296) (hr : rl x 14 = r) (w : World) :
 Calls Tryz.prog 114 #[.int .u32 (x : Int), .int .i64 (-18)] w fun e w' => e = .returned (.int .u32 (r : Int)) ∧ Below w.heap.size w w' := by
 have h0 : bits .and .u64 (IntKind.u64.wrap (-18)) 31 = 14 := by decide
 have h2 : bits .or .u32 ((x : Int) * 16384 % 4294967296) ((x : Int) / 262144) = ((rl x 14 : Nat) : Int) := by
  have := or_u32 (a := x * 16384 % 4294967296) (b := x / 262144) (Nat.mod_lt _ zDc) (Nat.lt_of_le_of_lt (Nat.div_le_self _ _) hx)
  rw [show ((x : Int) * 16384 % 4294967296) = ((x * 16384 % 4294967296 : Nat) : Int) by omega, show ((x : Int) / 262144) = ((x / 262144 : Nat) : Int) by omega]
  exact this
 rw [hr] at h2
 clear hr
 go_enter Tryz.func114, Tryz.ntmps114
 go_wp2_with fail
 go_ret
 exact ⟨rfl, Below.refl _ _⟩
theorem rotra_17 {x r : Nat} (hx : x < 4294967296) (hr : rl x 15 = r) (w : World) :
 Calls Tryz.prog 114 #[.int .u32 (x : Int), .int .i64 (-17)] w fun e w' => e = .returned (.int .u32 (r : Int)) ∧ Below w.heap.size w w' := by
 have h0 : bits .and .u64 (IntKind.u64.wrap (-17)) 31 = 15 := by decide
 have h2 : bits .or .u32 ((x : Int) * 32768 % 4294967296) ((x : Int) / 131072) = ((rl x 15 : Nat) : Int) := by
  have := or_u32 (a := x * 32768 % 4294967296) (b := x / 131072) (Nat.mod_lt _ zDc) (Nat.lt_of_le_of_lt (Nat.div_le_self _ _) hx)
  rw [show ((x : Int) * 32768 % 4294967296) = ((x * 32768 % 4294967296 : Nat) : Int) by omega, show ((x : Int) / 131072) = ((x / 131072 : Nat) : Int) by omega]
  exact this
 rw [hr] at h2
 clear hr
 go_enter Tryz.func114, Tryz.ntmps114
 go_wp2_with fail
 go_ret
 exact ⟨rfl, Below.refl _ _⟩
theorem rotra_19 {x r : Nat} (hx : x < 4294967296) (hr : rl x 13 = r) (w : World) :
 Calls Tryz.prog 114 #[.int .u32 (x : Int), .int .i64 (-19)] w fun e w' => e = .returned (.int .u32 (r : Int)) ∧ Below w.heap.size w w' := by
 have h0 : bits .and .u64 (IntKind.u64.wrap (-19)) 31 = 13 := by decide
 have h2 : bits .or .u32 ((x : Int) * 8192 % 4294967296) ((x : Int) / 524288) = ((rl x 13 : Nat) : Int) := by
  have := or_u32 (a := x * 8192 % 4294967296) (b := x / 524288) (Nat.mod_lt _ zDc) (Nat.lt_of_le_of_lt (Nat.div_le_self _ _) hx)
  rw [show ((x : Int) * 8192 % 4294967296) = ((x * 8192 % 4294967296 : Nat) : Int) by omega, show ((x : Int) / 524288) = ((x / 524288 : Nat) : Int) by omega]
  exact this
 rw [hr] at h2
 clear hr
 go_enter Tryz.func114, Tryz.ntmps114
 go_wp2_with fail
 go_ret
 exact ⟨rfl, Below.refl _ _⟩
theorem rotra_6 {x r : Nat} (hx : x < 4294967296) (hr : rl x 26 = r) (w : World) :
 Calls Tryz.prog 114 #[.int .u32 (x : Int), .int .i64 (-6)] w fun e w' => e = .returned (.int .u32 (r : Int)) ∧ Below w.heap.size w w' := by
 have h0 : bits .and .u64 (IntKind.u64.wrap (-6)) 31 = 26 := by decide
 have h2 : bits .or .u32 ((x : Int) * 67108864 % 4294967296) ((x : Int) / 64) = ((rl x 26 : Nat) : Int) := by
  have := or_u32 (a := x * 67108864 % 4294967296) (b := x / 64) (Nat.mod_lt _ zDc) (Nat.lt_of_le_of_lt (Nat.div_le_self _ _) hx)
  rw [show ((x : Int) * 67108864 % 4294967296) = ((x * 67108864 % 4294967296 : Nat) : Int) by omega, show ((x : Int) / 64) = ((x / 64 : Nat) : Int) by omega]
  exact this
 rw [hr] at h2
 clear hr
 go_enter Tryz.func114, Tryz.ntmps114
 go_wp2_with fail
 go_ret
 exact ⟨rfl, Below.refl _ _⟩
theorem rotra_11 {x r : Nat} (hx : x < 4294967296) (hr : rl x 21 = r) (w : World) :
 Calls Tryz.prog 114 #[.int .u32 (x : Int), .int .i64 (-11)] w fun e w' => e = .returned (.int .u32 (r : Int)) ∧ Below w.heap.size w w' := by
 have h0 : bits .and .u64 (IntKind.u64.wrap (-11)) 31 = 21 := by decide
 have h2 : bits .or .u32 ((x : Int) * 2097152 % 4294967296) ((x : Int) / 2048) = ((rl x 21 : Nat) : Int) := by
  have := or_u32 (a := x * 2097152 % 4294967296) (b := x / 2048) (Nat.mod_lt _ zDc) (Nat.lt_of_le_of_lt (Nat.div_le_self _ _) hx)
  rw [show ((x : Int) * 2097152 % 4294967296) = ((x * 2097152 % 4294967296 : Nat) : Int) by omega, show ((x : Int) / 2048) = ((x / 2048 : Nat) : Int) by omega]
  exact this
 rw [hr] at h2
 clear hr
 go_enter Tryz.func114, Tryz.ntmps114
 go_wp2_with fail
 go_ret
 exact ⟨rfl, Below.refl _ _⟩
theorem rotra_25 {x r : Nat} (hx : x < 4294967296) (hr : rl x 7 = r) (w : World) :
 Calls Tryz.prog 114 #[.int .u32 (x : Int), .int .i64 (-25)] w fun e w' => e = .returned (.int .u32 (r : Int)) ∧ Below w.heap.size w w' := by
 have h0 : bits .and .u64 (IntKind.u64.wrap (-25)) 31 = 7 := by decide
 have h2 : bits .or .u32 ((x : Int) * 128 % 4294967296) ((x : Int) / 33554432) = ((rl x 7 : Nat) : Int) := by
  have := or_u32 (a := x * 128 % 4294967296) (b := x / 33554432) (Nat.mod_lt _ zDc) (Nat.lt_of_le_of_lt (Nat.div_le_self _ _) hx)
  rw [show ((x : Int) * 128 % 4294967296) = ((x * 128 % 4294967296 : Nat) : Int) by omega, show ((x : Int) / 33554432) = ((x / 33554432 : Nat) : Int) by omega]
  exact this
 rw [hr] at h2
 clear hr
 go_enter Tryz.func114, Tryz.ntmps114
 go_wp2_with fail
 go_ret
 exact ⟨rfl, Below.refl _ _⟩
theorem rotra_2 {x r : Nat} (hx : x < 4294967296) (hr : rl x 30 = r) (w : World) :
 Calls Tryz.prog 114 #[.int .u32 (x : Int), .int .i64 (-2)] w fun e w' => e = .returned (.int .u32 (r : Int)) ∧ Below w.heap.size w w' := by
 have h0 : bits .and .u64 (IntKind.u64.wrap (-2)) 31 = 30 := by decide
 have h2 : bits .or .u32 ((x : Int) * 1073741824 % 4294967296) ((x : Int) / 4) = ((rl x 30 : Nat) : Int) := by
  have := or_u32 (a := x * 1073741824 % 4294967296) (b := x / 4) (Nat.mod_lt _ zDc) (Nat.lt_of_le_of_lt (Nat.div_le_self _ _) hx)
  rw [show ((x : Int) * 1073741824 % 4294967296) = ((x * 1073741824 % 4294967296 : Nat) : Int) by omega, show ((x : Int) / 4) = ((x / 4 : Nat) : Int) by omega]
  exact this
 rw [hr] at h2
 clear hr
 go_enter Tryz.func114, Tryz.ntmps114
 go_wp2_with fail
 go_ret
 exact ⟨rfl, Below.refl _ _⟩
theorem rotra_13 {x r : Nat} (hx : x < 4294967296) (hr : rl x 19 = r) (w : World) :
 Calls Tryz.prog 114 #[.int .u32 (x : Int), .int .i64 (-13)] w fun e w' => e = .returned (.int .u32 (r : Int)) ∧ Below w.heap.size w w' := by
 have h0 : bits .and .u64 (IntKind.u64.wrap (-13)) 31 = 19 := by decide
 have h2 : bits .or .u32 ((x : Int) * 524288 % 4294967296) ((x : Int) / 8192) = ((rl x 19 : Nat) : Int) := by
  have := or_u32 (a := x * 524288 % 4294967296) (b := x / 8192) (Nat.mod_lt _ zDc) (Nat.lt_of_le_of_lt (Nat.div_le_self _ _) hx)
  rw [show ((x : Int) * 524288 % 4294967296) = ((x * 524288 % 4294967296 : Nat) : Int) by omega, show ((x : Int) / 8192) = ((x / 8192 : Nat) : Int) by omega]
  exact this
 rw [hr] at h2
 clear hr
 go_enter Tryz.func114, Tryz.ntmps114
 go_wp2_with fail
 go_ret
 exact ⟨rfl, Below.refl _ _⟩
theorem rotra_22 {x r : Nat} (hx : x < 4294967296) (hr : rl x 10 = r) (w : World) :
 Calls Tryz.prog 114 #[.int .u32 (x : Int), .int .i64 (-22)] w fun e w' => e = .returned (.int .u32 (r : Int)) ∧ Below w.heap.size w w' := by
 have h0 : bits .and .u64 (IntKind.u64.wrap (-22)) 31 = 10 := by decide
 have h2 : bits .or .u32 ((x : Int) * 1024 % 4294967296) ((x : Int) / 4194304) = ((rl x 10 : Nat) : Int) := by
  have := or_u32 (a := x * 1024 % 4294967296) (b := x / 4194304) (Nat.mod_lt _ zDc) (Nat.lt_of_le_of_lt (Nat.div_le_self _ _) hx)
  rw [show ((x : Int) * 1024 % 4294967296) = ((x * 1024 % 4294967296 : Nat) : Int) by omega, show ((x : Int) / 4194304) = ((x / 4194304 : Nat) : Int) by omega]
  exact this
 rw [hr] at h2
 clear hr
 go_enter Tryz.func114, Tryz.ntmps114
 go_wp2_with fail
 go_ret
 exact ⟨rfl, Below.refl _ _⟩
theorem info_u8 : (Tryz.prog.info? 5).map (fun i => (i.zero, i.size, i.bytes)) = some (some (.int .u8 0), 1, 1) := by kernel_rfl
theorem clone_some (x : Addr) (len cap : Nat) (bs : List UInt8) (w : World) (hl : bs.length = len) (hr : len ≤ 140737488355328) (hc : Cells w x (u8s bs)) :
 Calls Tryz.prog 45 #[.slice (some x) len cap] w fun e w' =>
  ∃ v, e = .returned v ∧ w'.ownsRow w.heap.size 5 1 v len (u8s bs) ∧ Below w.heap.size w w' ∧ v ≠ .slice none 0 0 := by
 obtain ⟨i, hi, hz0, hz1, hz2⟩ := info_parts info_u8
 have hnil := fun (x : Option Addr) (n c : Nat) => Lib.run_eql_slice_nil (P := Tryz.prog) w 26 5 x n c 0 0 Tryz.underlying26
 have hc' : Hid (Cells (w.alloc (.cells #[] 5)) x (u8s bs)) := hc.alloc _
 clear hc
 have hl' := zH hl
 clear hl
 go_enter Tryz.func45, Tryz.ntmps45
 go_wp2_with (at_builtin; refine wpList_append_own _ rfl _ _ 26 rfl w.heap.size 5 i (.int .u8 0) 1 1 Tryz.underlying26 hi hz0 hz1 hz2 rfl zDc _ 0 [] rfl (World.ownsRow_made _ _ _ (Nat.le_refl _) (Nat.zero_le _) rfl) x len cap (u8s bs) rfl ?c1 hc'.out (u8s_one bs) ?c2 ?c3 ?c4 ?_)
 case c1 => rw [u8s_len]; have := hl'.out; omega
 case c2 => unfold maxLen; omega
 case c3 => omega
 case c4 => simp
 intro v' w' hown hg hn
 go_wp2
 go_ret
 refine ⟨v', rfl, by simpa using hown, ((Below.refl _ _).alloc (Nat.le_refl _) _).grown hg (by simp) ?_, ?_⟩
 · intro k hk; simp [Value.ownBlock] at hk; omega
 · exact hn
theorem clone_nil (w : World) : Calls Tryz.prog 45 #[.slice none 0 0] w fun e w' => e = .returned (.slice none 0 0) ∧ w' = w := by
 have hnil := fun (x : Option Addr) (n c : Nat) => Lib.run_eql_slice_nil (P := Tryz.prog) w 26 5 x n c 0 0 Tryz.underlying26
 go_enter Tryz.func45, Tryz.ntmps45
 go_wp2
 go_ret
 exact ⟨rfl, rfl⟩
theorem clone_any (vb : Value) (bs : List UInt8) (w : World) (hb : Sl w vb (u8s bs)) (hr : bs.length ≤ 140737488355328) :
 Calls Tryz.prog 45 #[vb] w fun e w' => ∃ v, e = .returned v ∧ w'.ownsRow w.heap.size 5 1 v bs.length (u8s bs) ∧ Below w.heap.size w w' ∧ (v = .slice none 0 0 ↔ vb = .slice none 0 0) := by
 obtain ⟨a, cap, rfl, h2, h3, h4, h5⟩ := hb
 rw [u8s_len] at *
 cases a with
 | none =>
  obtain rfl := h4 rfl
  have : bs = [] := List.eq_nil_of_length_eq_zero zOm
  subst this
  refine (clone_nil w).mono ?_
  rintro e w' ⟨rfl, rfl⟩
  exact ⟨_, rfl, World.ownsRow_nil _ _ _ _, Below.refl _ _, by simp⟩
 | some x =>
  refine (clone_some x bs.length cap bs w rfl hr (h5 x rfl)).mono ?_
  rintro e w' ⟨v, rfl, h6, h7, h8⟩
  exact ⟨v, rfl, h6, h7, by simp [h8]⟩
end Go.Proofs.YtibdgkhkhmdihaaGreatDoor
