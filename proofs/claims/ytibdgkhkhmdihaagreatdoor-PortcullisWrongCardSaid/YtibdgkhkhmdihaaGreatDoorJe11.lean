/- PortcullisWrong: part 11 of its proof: lemmas and contracts, each with its conditions in its own statement; the last part holds the law itself. -/
import Derived.Test.YtibdgkhkhmdihaaGreatDoorJe09
import Derived.Laws.IdiomStrings

set_option maxHeartbeats 4000000
set_option maxRecDepth 100000
namespace Go.Proofs.YtibdgkhkhmdihaaGreatDoor
open Go.RowKit
section
variable {P : Program} {Q : Exit → Act → World → Prop}
def chainTo (l : List Oper) (is : List Nat) : Nat → Nat → Nat → Bool
 | 0, q, p => waitsFor l q p
 | n + 1, q, p => waitsFor l q p || is.any (fun r => waitsFor l q r && chainTo l is n r p)
theorem chain_done {l : List Oper} {is : List Nat} {m : Nat} (hW : ∀ q, q ∈ is → m.testBit q = true → ∀ j, waitsFor l q j = true → m.testBit j = true) : ∀ (n q p : Nat), q ∈ is → m.testBit q = true → chainTo l is n q p = true → m.testBit p = true
 | 0, q, p, hq, hm, h => hW q hq hm p h
 | n + 1, q, p, hq, hm, h => by
  rw [chainTo, Bool.or_eq_true] at h
  rcases h with h | h
  · exact hW q hq hm p h
  · obtain ⟨r, hr, h2⟩ := List.any_eq_true.1 h
    rw [Bool.and_eq_true] at h2
    exact chain_done hW n r p hr (hW q hq hm r h2.1) h2.2
def poolOkC (l : List Oper) (size f d : Nat) (is : List Nat) (deps : List (Bool × List (Nat × Nat))) (f' d' : Nat) : Bool :=
 f == f' + is.length && is.foldl (fun m i => m ||| 2 ^ i) d == d' && seqReady l d is &&
 diffB l is &&
 is.all (fun i => match dstAt l i with | some t => decide (t < size) | none => true) &&
 deps.length == is.length && (is.zip deps).all (fun p => depsOk l is p.1 p.2.2 && slotsDiff p.2.2 && (!p.2.1 || freeE l d p.1)) &&
 (List.range l.length).all (fun k => d.testBit k || is.contains k || (is.zip deps).all (fun p => p.2.1 || waitsFor l k p.1 || is.any (fun q => waitsFor l k q && chainTo l is 6 q p.1)) || (List.range l.length).any (fun k' => !d.testBit k' && !is.contains k' && waitsFor l k k'))
theorem Tx.poolC {l : List Oper} {S : World → Prop} {B : Nat} {w : World} {f d : Nat} {a : Act} (Ext : World → World → Prop) (f' d' : Nat) (is : List Nat) (deps : List (Bool × List (Nat × Nat))) (Φ N : Nat → Value → World → Prop) (Pr : Nat → Value → Nat → Value → Prop)
 (hok : poolOkC l a.tmps.size f d is deps f' d' = true) (hsel : Region.noSelect l.toArray = true) (hBp : is.contains B = false) (hrefl : ∀ w, Ext w w) (htrans : ∀ w1 w2 w3, Ext w1 w2 → Ext w2 w3 → Ext w1 w3)
 (hS : S w) (hSE : ∀ w1 w2, S w1 → Ext w1 w2 → S w2) (hΦ : ∀ i v w1 w2, Φ i v w1 → Ext w1 w2 → Φ i v w2)
 (hN : ∀ i j v u w, i ≠ j → N i v w → Φ j u w → Pr i v j u ∧ Pr j u i v)
 (hob : AllOb P l Q S Ext Φ N a w is deps)
 (H : ∀ (vs : Nat → Value) w', S w' → Ext w w' → (∀ i ∈ is, Φ i (vs i) w') → (∀ i ∈ is, ∀ j ∈ is, i ≠ j → Pr i (vs i) j (vs j)) → Tx P l Q S B f' d' (fill l d' vs is a) w') : Tx P l Q S B f d a w := by
 simp only [poolOkC, Bool.and_eq_true, beq_iff_eq] at hok
 obtain ⟨⟨⟨⟨⟨⟨⟨hf, hd'⟩, hseq⟩, hpw⟩, hsz⟩, hdl⟩, hdeps⟩, hblk⟩ := hok
 have hdiff : Diff l is := diff_of is hpw
 have hnd : ∀ i ∈ is, d.testBit i = false := by
  have key : ∀ (js : List Nat) (e : Nat), seqReady l e js = true → ∀ i ∈ js, e.testBit i = false := by
   intro js
   induction js with
   | nil => intro e _ i hi; cases hi
   | cons j js ih =>
    intro e h i hi
    simp only [seqReady, Bool.and_eq_true, Bool.not_eq_true'] at h
    rcases List.mem_cons.1 hi with rfl | hi
    · exact h.1.2
    · have := ih _ h.2 i hi
      rw [testBit_or_two, Bool.or_eq_false_iff] at this
      exact this.1
  exact key is d hseq
 have main : ∀ (n m : Nat) (vs : Nat → Value) (w1 : World), (is.filter fun i => !m.testBit i).length = n → (∀ k, k ∉ is → m.testBit k = d.testBit k) → S w1 → Ext w w1 →
  (∀ i ∈ is, m.testBit i = true → Φ i (vs i) w1) → (∀ i ∈ is, ∀ j ∈ is, m.testBit i = true → m.testBit j = true → i ≠ j → Pr i (vs i) j (vs j)) → (∀ i ∈ is, m.testBit i = true → ∀ j, waitsFor l i j = true → m.testBit j = true) → Tx P l Q S B (f' + n) m (fill l m vs is a) w1 := by
  intro n
  induction n with
  | zero =>
   intro m vs w1 hn hm hS1 hE hP hR hW
   have hall : ∀ i ∈ is, m.testBit i = true := by
    intro i hi
    have h0 := List.eq_nil_of_length_eq_zero hn
    rw [List.filter_eq_nil_iff] at h0
    have := h0 i hi
    simpa using this
   have em : m = d' := by
    apply Nat.eq_of_testBit_eq
    intro k
    rw [← hd', foldl_bits]
    by_cases hk : k ∈ is
    · rw [hall k hk]; simp [hk]
    · rw [hm k hk]; simp [hk]
   rw [em]
   exact H vs w1 hS1 hE (fun i hi => hP i hi (hall i hi)) (fun i hi j hj hij => hR i hi j hj (hall i hi) (hall j hj) hij)
  | succ n ih =>
   intro m vs w1 hn hm hS1 hE hP hR hW
   have hund : ∃ i ∈ is, m.testBit i = false := by
    have h0 : (is.filter fun i => !m.testBit i) ≠ [] := by intro h; rw [h] at hn; simp at hn
    obtain ⟨i, hi⟩ := List.exists_mem_of_ne_nil _ h0
    rw [List.mem_filter] at hi
    exact ⟨i, hi.1, by simpa using hi.2⟩
   have hdm : ∀ k, d.testBit k = true → m.testBit k = true := by
    intro k hk
    by_cases hki : k ∈ is
    · rw [hnd k hki] at hk; cases hk
    · rw [hm k hki]; exact hk
   obtain ⟨i1, hmem1, hr1⟩ := seqReady_ready is d hseq hdm hund
   by_cases hEx : ∃ i ds, (i, (true, ds)) ∈ is.zip deps ∧ i ∈ Region.ready .any l.toArray (mask l.length m)
   · obtain ⟨i, ds0, hz0, hi⟩ := hEx
     have hmem : i ∈ is := (List.of_mem_zip hz0).1
     obtain ⟨bb, ds, hz, hobi⟩ := allOb_mem is deps hob i hmem
     have hbb : bb = true := zip_same is deps hdl (hdiff.imp (fun h => h.1)) hz hz0
     rw [if_pos hbb] at hobi
     obtain ⟨o2, ho2, hob2⟩ := hobi
     obtain ⟨hun, o, ho, hed⟩ := mem_ready.1 hi
     have ho' : l[i]? = some o := by simpa using ho
     have hilt : i < l.length := (List.getElem?_eq_some_iff.1 ho').1
     rw [mask_getD hilt] at hun
     have hedm : ∀ j, waitsFor l i j = true → m.testBit j = true := by
      intro j hj
      unfold waitsFor at hj
      rw [ho'] at hj
      simp only [Array.any_eq_true] at hj
      obtain ⟨x, hx, hb⟩ := hj
      simp only [Bool.and_eq_true, beq_iff_eq] at hb
      have := hed _ (Array.getElem_mem hx) hb.1
      rw [hb.2] at this
      by_cases hjl : j < l.length
      · rw [mask_getD hjl] at this; exact this
      · rw [mask_getD_out hjl] at this; cases this
     rw [ho'] at ho2
     have ho3 := Option.some.inj ho2
     subst ho3
     have hdo := List.all_eq_true.1 hdeps (i, (bb, ds)) hz
     simp only [Bool.and_eq_true, depsOk] at hdo
     obtain ⟨⟨⟨hd1, hd2⟩, hd3⟩, hfr⟩ := hdo
     have hd3 := slotsDiff_of ds hd3
     have hsame : ∀ t ∈ o.looksAt l.toArray, (fill l m vs is a).tmps[t]? = (fillL vs ds a).tmps[t]? := by
      intro t ht
      by_cases hex : ∃ j ∈ is, dstAt l j = some t
      · obtain ⟨j, hj, hjt⟩ := hex
        have h1 := List.all_eq_true.1 hd2 j hj
        rw [ho', hjt] at h1
        simp only [Bool.or_eq_true, Bool.not_eq_true'] at h1
        have h2 : (j, t) ∈ ds := by
         rcases h1 with h1 | h1
         · rw [List.contains_iff_mem.2 ht] at h1; cases h1
         · simpa using h1
        have h3 := List.all_eq_true.1 hd1 _ h2
        simp only [Bool.and_eq_true] at h3
        have hlt : t < a.tmps.size := by
         have := List.all_eq_true.1 hsz j hj
         rw [hjt] at this
         simpa using this
        rw [fill_some is a hdiff hj (hedm j h3.2) hjt hlt, fillL_some ds a hd3 h2 hlt]
      · rw [fill_none is a (fun j hj _ hjt => hex ⟨j, hj, hjt⟩), fillL_none ds a]
        rintro ⟨j, e⟩ hp rfl
        have h3 := List.all_eq_true.1 hd1 _ hp
        simp only [Bool.and_eq_true, beq_iff_eq] at h3
        exact hex ⟨j, by simpa using h3.1.1, h3.1.2⟩
     have hns : ∀ cs b, o.op ≠ .select cs b := fun cs b => Region.noSelect_spec hsel i o cs b ho
     have hphi : AllPhi Φ vs w1 ds := allPhi_of ds (fun p hp => by
      have h3 := List.all_eq_true.1 hd1 p hp
      simp only [Bool.and_eq_true] at h3
      exact hP p.1 (by simpa using h3.1.1) (hedm p.1 h3.2))
     have hlast : ∀ v w2, Φ i v w2 ∧ Ext w1 w2 ∧ N i v w1 → if i = B then wpAny P .any l.toArray (NoP Q) (f' + n) ((mask l.length m).setIfInBounds i true) ((fill l m vs is a).put o.dst v) w2 else S w2 ∧ wpAnyB P .any l.toArray (NoP Q) S B (f' + n) ((mask l.length m).setIfInBounds i true) ((fill l m vs is a).put o.dst v) w2 := by
      rintro v w2 ⟨hv, hE2, hNv⟩
      have hiB : ¬ i = B := fun e => by rw [e] at hmem; rw [List.contains_iff_mem.2 hmem] at hBp; cases hBp
      rw [if_neg hiB]
      refine ⟨hSE _ _ hS1 hE2, ?_⟩
      have hdst : dstAt l i = o.dst := by unfold dstAt; rw [ho']; rfl
      rw [mask_set, ← hdst, fill_put is a hdiff hmem hun]
      refine ih (m ||| 2 ^ i) (upd vs i v) w2 ?_ ?_ (hSE _ _ hS1 hE2) (htrans _ _ _ hE hE2) ?_ ?_ (fun j0 hj0 hb j hj => by
       rw [testBit_or_two] at hb ⊢
       by_cases e : i = j0
       · rw [← e] at hj; rw [hedm j hj, Bool.true_or]
       · rw [decide_eq_false e, Bool.or_false] at hb
         rw [hW j0 hj0 hb j hj, Bool.true_or])
      · have key : ∀ (js : List Nat), js.Nodup → (js.filter fun k => !(m ||| 2 ^ i).testBit k).length + (if i ∈ js then 1 else 0) = (js.filter fun k => !m.testBit k).length := by
         intro js
         induction js with
         | nil => intro _; rfl
         | cons j js ihj =>
          intro hnd2
          rw [List.nodup_cons] at hnd2
          have h6 := ihj hnd2.2
          by_cases e : i = j
          · subst e
            rw [if_neg hnd2.1] at h6
            rw [List.filter_cons_of_neg (by simp), List.filter_cons_of_pos (by simp [hun]), List.length_cons, if_pos (by simp)]
            omega
          · have e2 : (i ∈ j :: js) = (i ∈ js) := by simp [e]
            have e3 : (m ||| 2 ^ i).testBit j = m.testBit j := by rw [testBit_or_two, decide_eq_false e, Bool.or_false]
            rw [List.filter_cons, List.filter_cons, e3]
            have e2 : (if i ∈ j :: js then 1 else 0) = (if i ∈ js then 1 else 0) := by
             by_cases hij : i ∈ js
             · rw [if_pos hij, if_pos (List.mem_cons_of_mem _ hij)]
             · rw [if_neg hij, if_neg (by simp [e, hij])]
            rw [e2]
            cases m.testBit j <;> simp only [Bool.not_true, Bool.not_false, Bool.false_eq_true, if_false, if_true, List.length_cons] <;> omega
        have hnodup : is.Nodup := hdiff.imp (fun h => h.1)
        have := key is hnodup
        rw [if_pos hmem] at this
        omega
      · intro k hk
        have hik : ¬ i = k := fun e => hk (by rw [← e]; exact hmem)
        rw [testBit_or_two, decide_eq_false hik, Bool.or_false, hm k hk]
      · intro j hj hjb
        unfold upd
        by_cases e : j = i
        · subst e; rw [if_pos rfl]; exact hv
        · rw [if_neg e]
          rw [testBit_or_two, decide_eq_false (Ne.symm e), Bool.or_false] at hjb
          exact hΦ _ _ _ _ (hP j hj hjb) hE2
      · intro j hj k hk hjb hkb hjk
        unfold upd
        by_cases e : j = i
        · subst e
          have e2 : ¬ k = j := fun h => hjk h.symm
          rw [if_pos rfl, if_neg e2]
          rw [testBit_or_two, decide_eq_false (fun h => e2 h.symm), Bool.or_false] at hkb
          exact (hN _ _ _ _ w1 hjk hNv (hP k hk hkb)).1
        · rw [if_neg e]
          rw [testBit_or_two, decide_eq_false (Ne.symm e), Bool.or_false] at hjb
          by_cases e2 : k = i
          · subst e2
            rw [if_pos rfl]
            exact (hN _ _ _ _ w1 (Ne.symm e) hNv (hP j hj hjb)).2
          · rw [if_neg e2]
            rw [testBit_or_two, decide_eq_false (Ne.symm e2), Bool.or_false] at hkb
            exact hR j hj k hk hjb hkb hjk
     obtain ⟨v, hwd, hrun, hv, hNv⟩ := hob2 vs w1 hS1 hE hphi
     have hl := hlast v w1 ⟨hv, hrefl w1, hNv⟩
     have hiB : ¬ i = B := fun e => by rw [e] at hmem; rw [List.contains_iff_mem.2 hmem] at hBp; cases hBp
     rw [if_neg hiB] at hl
     have hfr2 : freeE l d i = true := by rw [hbb] at hfr; simpa using hfr
     refine wpAnyB_pure ho (Region.noSelect_spec hsel) (fun c a w hq => hq) hiB (f' + n) _ _ _ (fun j oj hj hji hjun hno => ?_) hi (.inl ⟨by rw [wanted_same hsame]; exact hwd, fun w' => by rw [exec_same hns hsame]; exact hrun w'⟩) hS1 hl.2
     have hjl : j < l.length := by have := (Array.getElem?_eq_some_iff.1 hj).1; simpa using this
     have hj' : l[j]? = some oj := by simpa using hj
     rw [mask_getD hjl] at hjun
     unfold freeE at hfr2
     rw [ho'] at hfr2
     have h1 := List.all_eq_true.1 hfr2 j (List.mem_range.2 hjl)
     rw [hj'] at h1
     simp only [Bool.or_eq_true, beq_iff_eq] at h1
     rcases h1 with (((h1 | h1) | h1) | h1) | h1
     · exact absurd h1 hji
     · rw [hdm j h1] at hjun; cases hjun
     · exfalso
       unfold waitsFor at h1
       rw [hj'] at h1
       obtain ⟨x, hx, hb⟩ := Array.any_eq_true.1 h1
       simp only [Bool.and_eq_true, beq_iff_eq] at hb
       exact hno _ (Array.getElem_mem hx) hb.1 hb.2
     · rw [hedm j h1] at hjun; cases hjun
     · exact h1
   · unfold Tx
     refine ⟨fun h0 => (by rw [h0] at hr1; cases hr1), fun i hi => ?_⟩
     obtain ⟨hun, o, ho, hed⟩ := mem_ready.1 hi
     have ho' : l[i]? = some o := by simpa using ho
     have hilt : i < l.length := (List.getElem?_eq_some_iff.1 ho').1
     rw [mask_getD hilt] at hun
     have hedm : ∀ j, waitsFor l i j = true → m.testBit j = true := by
      intro j hj
      unfold waitsFor at hj
      rw [ho'] at hj
      simp only [Array.any_eq_true] at hj
      obtain ⟨x, hx, hb⟩ := hj
      simp only [Bool.and_eq_true, beq_iff_eq] at hb
      have := hed _ (Array.getElem_mem hx) hb.1
      rw [hb.2] at this
      by_cases hjl : j < l.length
      · rw [mask_getD hjl] at this; exact this
      · rw [mask_getD_out hjl] at this; cases this
     have hmem : i ∈ is := by
      by_cases hmem : i ∈ is
      · exact hmem
      · exfalso
        have h1 := List.all_eq_true.1 hblk i (List.mem_range.2 hilt)
        simp only [Bool.or_eq_true] at h1
        rcases h1 with ((h1 | h1) | h1) | h1
        · rw [← hm i hmem, hun] at h1; cases h1
        · exact hmem (by simpa using h1)
        · obtain ⟨b1, ds1, hz1, -⟩ := allOb_mem is deps hob i1 hmem1
          have h2 := List.all_eq_true.1 h1 _ hz1
          simp only [Bool.or_eq_true] at h2
          rcases h2 with (h2 | h2) | h2
          · exact hEx ⟨i1, ds1, by rw [← h2]; exact hz1, hr1⟩
          rotate_left
          · obtain ⟨q, hq, h5⟩ := List.any_eq_true.1 h2
            rw [Bool.and_eq_true] at h5
            have h3 := chain_done (m := m) (fun q hq hm j hw => hW q hq hm j hw) 6 q i1 hq (hedm q h5.1) h5.2
            have h4 := (mem_ready.1 hr1).1
            obtain ⟨o1, ho1, -⟩ := (mem_ready.1 hr1).2
            have hl1 : i1 < l.length := by have := (Array.getElem?_eq_some_iff.1 ho1).1; simpa using this
            rw [mask_getD hl1, h3] at h4
            cases h4
          · have h3 := hedm i1 h2
            have h4 := (mem_ready.1 hr1).1
            obtain ⟨o1, ho1, -⟩ := (mem_ready.1 hr1).2
            have hl1 : i1 < l.length := by have := (Array.getElem?_eq_some_iff.1 ho1).1; simpa using this
            rw [mask_getD hl1, h3] at h4
            cases h4
        · obtain ⟨k, -, hk⟩ := List.any_eq_true.1 h1
          simp only [Bool.and_eq_true, Bool.not_eq_true'] at hk
          have h2 := hedm k hk.2
          rw [hm k (by simpa using hk.1.2), hk.1.1] at h2
          cases h2
     obtain ⟨bb, ds, hz, hobi⟩ := allOb_mem is deps hob i hmem
     have hbb : ¬ bb = true := fun e => hEx ⟨i, ds, by rw [← e]; exact hz, hi⟩
     rw [if_neg hbb] at hobi
     obtain ⟨o2, ho2, hob2⟩ := hobi
     rw [ho'] at ho2
     have ho3 := Option.some.inj ho2
     subst ho3
     have hdo := List.all_eq_true.1 hdeps (i, (bb, ds)) hz
     simp only [Bool.and_eq_true, depsOk] at hdo
     obtain ⟨⟨⟨hd1, hd2⟩, hd3⟩, hfr⟩ := hdo
     have hd3 := slotsDiff_of ds hd3
     have hsame : ∀ t ∈ o.looksAt l.toArray, (fill l m vs is a).tmps[t]? = (fillL vs ds a).tmps[t]? := by
      intro t ht
      by_cases hex : ∃ j ∈ is, dstAt l j = some t
      · obtain ⟨j, hj, hjt⟩ := hex
        have h1 := List.all_eq_true.1 hd2 j hj
        rw [ho', hjt] at h1
        simp only [Bool.or_eq_true, Bool.not_eq_true'] at h1
        have h2 : (j, t) ∈ ds := by
         rcases h1 with h1 | h1
         · rw [List.contains_iff_mem.2 ht] at h1; cases h1
         · simpa using h1
        have h3 := List.all_eq_true.1 hd1 _ h2
        simp only [Bool.and_eq_true] at h3
        have hlt : t < a.tmps.size := by
         have := List.all_eq_true.1 hsz j hj
         rw [hjt] at this
         simpa using this
        rw [fill_some is a hdiff hj (hedm j h3.2) hjt hlt, fillL_some ds a hd3 h2 hlt]
      · rw [fill_none is a (fun j hj _ hjt => hex ⟨j, hj, hjt⟩), fillL_none ds a]
        rintro ⟨j, e⟩ hp rfl
        have h3 := List.all_eq_true.1 hd1 _ hp
        simp only [Bool.and_eq_true, beq_iff_eq] at h3
        exact hex ⟨j, by simpa using h3.1.1, h3.1.2⟩
     have hns : ∀ cs b, o.op ≠ .select cs b := fun cs b => Region.noSelect_spec hsel i o cs b ho
     have hphi : AllPhi Φ vs w1 ds := allPhi_of ds (fun p hp => by
      have h3 := List.all_eq_true.1 hd1 p hp
      simp only [Bool.and_eq_true] at h3
      exact hP p.1 (by simpa using h3.1.1) (hedm p.1 h3.2))
     have hlast : ∀ v w2, Φ i v w2 ∧ Ext w1 w2 ∧ N i v w1 → if i = B then wpAny P .any l.toArray (NoP Q) (f' + n) ((mask l.length m).setIfInBounds i true) ((fill l m vs is a).put o.dst v) w2 else S w2 ∧ wpAnyB P .any l.toArray (NoP Q) S B (f' + n) ((mask l.length m).setIfInBounds i true) ((fill l m vs is a).put o.dst v) w2 := by
      rintro v w2 ⟨hv, hE2, hNv⟩
      have hiB : ¬ i = B := fun e => by rw [e] at hmem; rw [List.contains_iff_mem.2 hmem] at hBp; cases hBp
      rw [if_neg hiB]
      refine ⟨hSE _ _ hS1 hE2, ?_⟩
      have hdst : dstAt l i = o.dst := by unfold dstAt; rw [ho']; rfl
      rw [mask_set, ← hdst, fill_put is a hdiff hmem hun]
      refine ih (m ||| 2 ^ i) (upd vs i v) w2 ?_ ?_ (hSE _ _ hS1 hE2) (htrans _ _ _ hE hE2) ?_ ?_ (fun j0 hj0 hb j hj => by
       rw [testBit_or_two] at hb ⊢
       by_cases e : i = j0
       · rw [← e] at hj; rw [hedm j hj, Bool.true_or]
       · rw [decide_eq_false e, Bool.or_false] at hb
         rw [hW j0 hj0 hb j hj, Bool.true_or])
      · have key : ∀ (js : List Nat), js.Nodup → (js.filter fun k => !(m ||| 2 ^ i).testBit k).length + (if i ∈ js then 1 else 0) = (js.filter fun k => !m.testBit k).length := by
         intro js
         induction js with
         | nil => intro _; rfl
         | cons j js ihj =>
          intro hnd2
          rw [List.nodup_cons] at hnd2
          have h6 := ihj hnd2.2
          by_cases e : i = j
          · subst e
            rw [if_neg hnd2.1] at h6
            rw [List.filter_cons_of_neg (by simp), List.filter_cons_of_pos (by simp [hun]), List.length_cons, if_pos (by simp)]
            omega
          · have e2 : (i ∈ j :: js) = (i ∈ js) := by simp [e]
            have e3 : (m ||| 2 ^ i).testBit j = m.testBit j := by rw [testBit_or_two, decide_eq_false e, Bool.or_false]
            rw [List.filter_cons, List.filter_cons, e3]
            have e2 : (if i ∈ j :: js then 1 else 0) = (if i ∈ js then 1 else 0) := by
             by_cases hij : i ∈ js
             · rw [if_pos hij, if_pos (List.mem_cons_of_mem _ hij)]
             · rw [if_neg hij, if_neg (by simp [e, hij])]
            rw [e2]
            cases m.testBit j <;> simp only [Bool.not_true, Bool.not_false, Bool.false_eq_true, if_false, if_true, List.length_cons] <;> omega
        have hnodup : is.Nodup := hdiff.imp (fun h => h.1)
        have := key is hnodup
        rw [if_pos hmem] at this
        omega
      · intro k hk
        have hik : ¬ i = k := fun e => hk (by rw [← e]; exact hmem)
        rw [testBit_or_two, decide_eq_false hik, Bool.or_false, hm k hk]
      · intro j hj hjb
        unfold upd
        by_cases e : j = i
        · subst e; rw [if_pos rfl]; exact hv
        · rw [if_neg e]
          rw [testBit_or_two, decide_eq_false (Ne.symm e), Bool.or_false] at hjb
          exact hΦ _ _ _ _ (hP j hj hjb) hE2
      · intro j hj k hk hjb hkb hjk
        unfold upd
        by_cases e : j = i
        · subst e
          have e2 : ¬ k = j := fun h => hjk h.symm
          rw [if_pos rfl, if_neg e2]
          rw [testBit_or_two, decide_eq_false (fun h => e2 h.symm), Bool.or_false] at hkb
          exact (hN _ _ _ _ w1 hjk hNv (hP k hk hkb)).1
        · rw [if_neg e]
          rw [testBit_or_two, decide_eq_false (Ne.symm e), Bool.or_false] at hjb
          by_cases e2 : k = i
          · subst e2
            rw [if_pos rfl]
            exact (hN _ _ _ _ w1 (Ne.symm e) hNv (hP j hj hjb)).2
          · rw [if_neg e2]
            rw [testBit_or_two, decide_eq_false (Ne.symm e2), Bool.or_false] at hkb
            exact hR j hj k hk hjb hkb hjk
     have hmid := hob2 vs w1 hS1 hE hphi (fun c w' => ∃ v, c = (fillL vs ds a).put o.dst v ∧ Φ i v w' ∧ Ext w1 w' ∧ N i v w1) (fun v w' h1 h2 h3 => ⟨v, rfl, h1, h2, h3⟩)
     unfold wpOp
     simp only [ho]
     rw [wanted_same hsame]
     have hdsz : ∀ t, o.dst = some t → t < (fillL vs ds a).tmps.size := by
      intro t ht
      rw [fillL_size]
      have h1 := List.all_eq_true.1 hsz i hmem
      have hdst : dstAt l i = some t := by unfold dstAt; rw [ho']; exact ht
      rw [hdst] at h1
      simpa using h1
     split
     · rename_i hw
       rw [if_pos hw] at hmid
       exact .inl (wp_pass hdsz (exec_same hns hsame) hmid hlast)
     · rename_i hw
       rw [if_neg hw] at hmid
       obtain ⟨v, h1, h2, h3, h3'⟩ := hmid
       have h4 := hlast v w1 ⟨h2, h3, h3'⟩
       rcases put_inj hdsz h1 with h5 | h5
       · rw [h5] at h4 ⊢; exact h4
       · rw [h5]; exact h4
 have h0 := main is.length d (fun _ => undef) w (by
  rw [List.filter_eq_self.2]
  intro i hi
  rw [hnd i hi]; rfl) (fun _ _ => rfl) hS (hrefl w) (fun i hi hb => by rw [hnd i hi] at hb; cases hb) (fun i hi _ _ hb _ _ => by rw [hnd i hi] at hb; cases hb) (fun i hi hb => by rw [hnd i hi] at hb; cases hb)
 rw [hf]
 have e : fill l d (fun _ => undef) is a = a := by
  have key : ∀ (js : List Nat) (b : Act), (∀ i ∈ js, d.testBit i = false) → fill l d (fun _ => undef) js b = b := by
   intro js
   induction js with
   | nil => intro b _; rfl
   | cons j js ihj =>
    intro b h
    rw [fill, h j (by simp)]
    exact ihj b (fun i hi => h i (List.mem_cons_of_mem _ hi))
  exact key is a hnd
 rw [e] at h0
 exact h0
theorem Tx.poolBC {l : List Oper} {W w : World} {B f d : Nat} {a : Act} (f' d' : Nat) (slots : List (Nat × Nat)) (deps : List (Bool × List (Nat × Nat))) (Φ : List (Nat × Ph))
 (hok : (poolOkC l a.tmps.size f d (slots.map (·.1)) deps f' d' && (slots.all fun p => d'.testBit p.1 && dstAt l p.1 == some p.2) && (Φ.map (·.1) == slots.map (·.1)) && !(slots.map (·.1)).contains B) = true) (hsel : Region.noSelect l.toArray = true)
 (hS : Below W.heap.size W w)
 (hob : AllOb P l Q (fun w' => Below W.heap.size W w') (fun w1 w2 => Below w1.heap.size w1 w2) (phi Φ) (newOf Φ) a w (slots.map (·.1)) deps)
 (H : ∀ (vs : Nat → Value) w', Below W.heap.size W w' → Below w.heap.size w w' → AllP Φ vs w' Φ → (∀ i j, (slots.map (·.1)).contains i = true → (slots.map (·.1)).contains j = true → (i != j) = true → freshOf Φ i = true → freshOf Φ j = true → vs i ≠ vs j) → Tx P l Q (fun w' => Below W.heap.size W w') B f' d' (fillL vs slots a) w') : Tx P l Q (fun w' => Below W.heap.size W w') B f d a w := by
 simp only [Bool.and_eq_true, beq_iff_eq, Bool.not_eq_true'] at hok
 refine Tx.poolC _ f' d' _ deps (phi Φ) (newOf Φ) (fun i v j u => freshOf Φ i = true → freshOf Φ j = true → v ≠ u) hok.1.1.1 hsel hok.2 (fun w => Below.refl _ _) (fun w1 w2 w3 h1 h2 => ext_trans h1 (Nat.le_refl _) h2) hS (fun w1 w2 h1 h2 => ext_trans h1 (Nat.le_refl _) h2)
  (fun i v w1 w2 h1 h2 => phi_mono h2 Φ h1) (fun i j v u w _ h1 h2 => ?_) hob ?_
 · have key : freshOf Φ i = true → freshOf Φ j = true → v ≠ u := by
    intro h3 h4
    obtain ⟨g, rfl, h5⟩ := newOf_spec Φ h1 h3
    obtain ⟨g', rfl, h6⟩ := phi_lt Φ h2 h4
    intro h
    simp only [Value.pointer.injEq, Option.some.injEq, Addr.mk.injEq] at h
    omega
   exact ⟨key, fun h3 h4 h5 => key h4 h3 h5.symm⟩
 intro vs w' h1 h2 h3 h4
 rw [fill_all slots a hok.1.1.2]
 refine H vs w' h1 h2 (allP_of Φ (fun q hq => h3 q.1 ?_)) (fun i j hi hj hij => h4 i (by simpa using hi) j (by simpa using hj) (by simpa using hij))
 rw [← hok.1.2]
 exact List.mem_map_of_mem hq
end
def keyN (s : Nat) (name : List UInt8) : Nat := macN (nb 32 s) (name ++ [1])
theorem Sls.new3 {w : World} {v1 v2 v3 : Value} {b1 b2 b3 : List UInt8} (h1 : Sl w v1 (u8s b1)) (h2 : Sl w v2 (u8s b2)) (h3 : Sl w v3 (u8s b3)) (T : TypeId) : Sls (w.alloc (.cells #[v1, v2, v3] T)) (.slice (some ⟨w.heap.size, 0, none⟩) 3 3) [b1, b2, b3] := by
 refine ⟨[v1, v2, v3], ⟨_, 3, rfl, Nat.le_refl _, by decide, fun h => (by cases h), fun x hx => ?_⟩, rfl, ?_⟩
 · cases hx
   intro j u hu
   rw [Addr.add_lit, Nat.zero_add]
   exact (Arr.new w #[v1, v2, v3] T).cell hu
 · intro j a b' ha hb'
   match j with
   | 0 => simp only [List.getElem?_cons_zero, Option.some.injEq] at ha hb'; subst ha hb'; exact h1.alloc _
   | 1 => simp only [List.getElem?_cons_zero, List.getElem?_cons_succ, Option.some.injEq] at ha hb'; subst ha hb'; exact h2.alloc _
   | 2 => simp only [List.getElem?_cons_zero, List.getElem?_cons_succ, Option.some.injEq] at ha hb'; subst ha hb'; exact h3.alloc _
   | j + 3 => simp at ha
theorem own_range {w : World} {base : Nat} {e : TypeId} {v : Value} {n : Nat} {xs : List Value} (h : w.ownsRow base e 1 v n xs) (hn : 0 < n) : ∃ g cap, v = .slice (some ⟨g, 0, none⟩) n cap ∧ base ≤ g ∧ n ≤ cap ∧ cap ≤ maxLen ∧ w.rangeAt g 0 xs := by
 obtain ⟨h1, ⟨-, h2⟩ | ⟨g, cap, cur, rfl, hg, hh, h3, h4, h5, h6⟩⟩ := h
 · omega
 · refine ⟨g, cap, rfl, hg, h3, h4, fun j v hv => ?_⟩
   rw [cell_of_row w g _ _ _ _ hh]
   rw [← h6] at hv
   rw [List.getElem?_take] at hv
   split at hv
   · simpa using hv
   · cases hv
def ExJ (N : Nat) (ov lv iv : Value) (wr : World) : Prop :=
 (iv = .int .i64 1 ∧ ov = .slice none 0 0 ∧ lv = .slice none 0 0) ∨ (iv = .int .i64 2 ∧ ∃ g cap, ov = .slice (some ⟨g, 0, none⟩) 32 cap ∧ 32 ≤ cap ∧ cap ≤ maxLen ∧ wr.rangeAt g 0 (bytn 32 N))
theorem expand_any (s : Nat) (a : Option Addr) (cap : Nat) (info : List UInt8) (w : World) (hs : Sl w (.slice a info.length cap) (u8s info)) :
 Calls Tryz.prog 245 #[.agg (bytn 32 s).toArray, .slice a info.length cap, .int .i64 32] w fun e w' =>
  ∃ g, e = .returned (.tuple #[.slice (some ⟨g, 0, none⟩) 32 32, .int .i64 0]) ∧ w'.rangeAt g 0 (bytn 32 (keyN s info)) ∧ Below w.heap.size w w' := by
 obtain ⟨N, hN⟩ : ∃ N, keyN s info = N := ⟨_, rfl⟩
 have cm := zH (show ∀ w a2 d, Sl w (.slice a2 32 32) (u8s (nb 32 s)) → Sls w (.slice d 3 3) [[], info, [1]] → Calls Tryz.prog 246 #[.slice a2 32 32, .slice d 3 3] w fun e w' => e = .returned (.agg (bytn 32 N).toArray) ∧ Below w.heap.size w w' from fun w a2 d h1 h2 => by
  have q := macsum_any a2 d 32 3 (nb 32 s) [[], info, [1]] (by simp) w (by rw [nb_len]; exact h1) h2
  rw [nb_len, show ([[], info, [1]] : List (List UInt8)).flatten = info ++ [1] by simp] at q
  rw [← hN]
  exact q)
 rw [hN]
 obtain ⟨n0, hn0⟩ : ∃ n, info.length = n := ⟨_, rfl⟩
 rw [hn0] at hs ⊢
 replace hs := zH hs
 clear hN hn0
 go_enter Tryz.func245, Tryz.ntmps245
 go_upto_region 1 with fail
 refine wp_new1 (fun wA hsz k3 kb => ?_)
 replace k3 : Arr wA w.heap.size (bytn 32 s) := k3
 obtain ⟨g3, hg3⟩ : ∃ g, w.heap.size = g := ⟨_, rfl⟩
 rw [hg3] at k3 ⊢
 clear hsz hg3
 replace hs := zH (hs.out.below kb)
 have h0 : ExJ N (.slice none 0 0) (.slice none 0 0) (.int .i64 1) wA := .inl ⟨rfl, rfl, rfl⟩
 replace h0 := zH h0
 go_wp2_with fail
 go_loopw [8, 9, 10] (fun ov lv iv wr => ExJ N ov lv iv wr ∧ Arr wr g3 (bytn 32 s) ∧ Sl wr (.slice a n0 cap) (u8s info) ∧ Below w.heap.size w wr) (fun _ _ iv _ => (2 - intOf iv).toNat)
 case atStart => exact ⟨h0.out, k3, hs.out, kb⟩
 case round =>
 clear k3 hs kb h0
 obtain ⟨hJ, k3, hs, kb⟩ := hrel
 have hw0 := kb.size
 rcases hJ with ⟨rfl, rfl, rfl⟩ | ⟨rfl, g, cp, rfl, hc1, hc2, hrg⟩
 · rw [nb_u8s] at k3
   have h3 := Sl.ofArrN k3 (nb_len 32 s) zDc
   have hS : Sls ((wr.alloc (.cells #[.int .u8 1] 5)).alloc (.cells #[.slice none 0 0, .slice a n0 cap, .slice (some ⟨wr.heap.size, 0, none⟩) 1 1] 26)) (.slice (some ⟨wr.heap.size + 1, 0, none⟩) 3 3) [[], info, [1]] := by
    have q := Sls.new3 (b1 := []) (b3 := [1]) (Sl.nil _) (hs.alloc (.cells #[.int .u8 1] 5)) (Sl.new1 wr (.int .u8 1) 5) 26
    rw [show (wr.alloc (.cells #[.int .u8 1] 5)).heap.size = wr.heap.size + 1 by simp] at q
    exact q
   have hcc := zH (cm.out _ _ _ ((h3.alloc _).alloc _) hS)
   have hb0 : Below wr.heap.size wr ((wr.alloc (.cells #[.int .u8 1] 5)).alloc (.cells #[.slice none 0 0, .slice a n0 cap, .slice (some ⟨wr.heap.size, 0, none⟩) 1 1] 26)) := (below_alloc _ _).alloc (by simp) _
   replace hs := zH hs
   clear hS h3
   go_wp2_with fail
   refine hcc.out.mono ?_
   rintro e wB ⟨rfl, hb⟩
   have hb1 := bel hb0 hb
   rw [← nb_u8s] at k3
   replace k3 := k3.below hb1
   replace hs := zH (hs.out.below hb1)
   replace kb := bel kb hb1
   clear hb hb0 hb1 hcc cm
   go_upto_region 8 with (refine wpl_storeG rfl _ _ _ rfl _ (bytn 32 N) rfl rfl _ (Arr.new _ _ _) (by rw [bytn_len]; kernel_rfl) (by rw [bytn_len]; rfl) (bytn_one _ _) (fun wC k11 hg hsz => ?_))
   have hb := below_fresh hg
   replace k3 := k3.below hb
   replace hs := zH (hs.out.below hb)
   replace kb := bel kb hb
   have hsC : w.heap.size ≤ wC.heap.size := kb.size
   obtain ⟨g11, hg11⟩ : ∃ g, wB.heap.size = g := ⟨_, rfl⟩
   rw [hg11] at k11 ⊢
   clear hb hsz hg hg11
   obtain ⟨i, hi, hz0, hz1, hz2⟩ := info_parts info_u8
   have h11 : Hid (Sl wC (.slice (some ⟨g11, 0, none⟩) 32 32) (bytn 32 N)) := zH (by rw [nb_u8s] at k11 ⊢; exact Sl.ofArrN k11 (nb_len 32 N) zDc)
   have hone := zH (bytn_one 32 N)
   have hbl := zH (bytn_len 32 N)
   clear k11
   go_wp2_with (at_builtin; refine wpList_append_sl rfl _ _ 26 rfl wC.heap.size 5 Tryz.underlying26 hi hz0 hz1 hz2 rfl _ _ _ rfl (World.ownsRow_nil _ _ _ _) _ (bytn 32 N) rfl h11.out hone.out ?c2 ?c3 (Nat.le_refl _) (fun v' wD hown hg => ?_))
   case c2 => rw [hbl.out]; decide
   case c3 => rw [hbl.out]; decide
   rw [hbl.out] at hown
   obtain ⟨go, cpo, rfl, hgo, hco1, hco2, hro⟩ := own_range hown zDc
   have hbD : Below wC.heap.size wC wD := below_grown (Below.refl _ _) (World.ownsRow_nil _ _ 5 1) (Nat.le_refl _) hg
   replace k3 := k3.below hbD
   replace hs := hs.out.below hbD
   replace kb := bel kb hbD
   clear hown hg hbD h11
   go_wp2_with fail
   exact ⟨⟨.inr ⟨rfl, go, cpo, rfl, hco1, hco2, hro⟩, k3, hs, kb⟩, by simp [intOf]⟩
 · clear cm hs k3
   unfold maxLen at hc2
   replace hrg := zH hrg
   have hci : (32 : Int) ≤ (cp : Int) := by omega
   go_wp2_with fail
   go_ret2
   exact ⟨g, rfl, hrg.out, kb⟩
theorem conv_str (w : World) (str : ByteArray) (hl : str.size ≤ maxLen) : ∃ c w', (convert 9 26 (.string str)).run Tryz.prog w = .ok (.slice (some ⟨w.heap.size, 0, none⟩) str.size c) w' ∧
 Sl w' (.slice (some ⟨w.heap.size, 0, none⟩) str.size c) (u8s str.data.toList) ∧ Below w.heap.size w w' := by
 have hr := run_bytes_of_string (P := Tryz.prog) w 9 26 5 str Tryz.underlying9 Tryz.underlying26 Tryz.underlying5
 have h1 := grownCap_ge w str.size 0 5
 have h2 := grownCap_le_maxLen w str.size 0 5 hl
 obtain ⟨c, hc⟩ : ∃ c, grownCap w str.size 0 5 = c := ⟨_, rfl⟩
 rw [hc] at hr h1 h2
 have hsz : str.data.toList.length = str.size := by simp
 refine ⟨_, _, hr, ⟨_, c, by rw [u8s_len, hsz], by rw [u8s_len, hsz]; exact h1, h2, fun h => (by cases h), fun x hx => ?_⟩, (Below.refl _ _).drew.alloc (Nat.le_refl _) _⟩
 cases hx
 intro j u hu
 rw [Addr.add_lit, Nat.zero_add]
 have hj : j < str.size := by
  have := (List.getElem?_eq_some_iff.1 hu).1
  rwa [u8s_len, hsz] at this
 have e : (w.drew.alloc (.cells (bytesRow str c) 5 ((bytesRow str c).size, (bytesRow str c).size + 1))).heap[w.heap.size]? = some (.cells (bytesRow str c) 5 ((bytesRow str c).size, (bytesRow str c).size + 1)) := by
  show (w.heap.push _)[w.heap.size]? = _
  simp
 rw [cell_of_row _ _ _ _ _ _ e, ← hu]
 simp [bytesRow, u8s, Array.getElem?_append]
 intro h
 omega
theorem key_any (s : Nat) (str : ByteArray) (hsz : str.size ≤ maxLen) (w : World) :
 Calls Tryz.prog 198 #[.agg (bytn 32 s).toArray, .string str] w fun e w' => e = .returned (.agg (bytn 32 (keyN s str.data.toList)).toArray) ∧ Below w.heap.size w w' := by
 have ce := zH (expand_any s)
 obtain ⟨L, hL⟩ : ∃ L, str.data.toList = L := ⟨_, rfl⟩
 obtain ⟨n, hn⟩ : ∃ n, str.size = n := ⟨_, rfl⟩
 have hLn : Hid (L.length = n) := zH (by rw [← hL, ← hn]; simp)
 have cv := zH (fun w => conv_str w str hsz)
 rw [hL, hn] at cv
 rw [hL]
 clear hL hn hsz
 go_enter Tryz.func198, Tryz.ntmps198
 go_upto_region 1 with fail
 refine wp_new2 (fun wA hsz k2 k4 kb => ?_)
 replace k2 : Arr wA w.heap.size (bytn 32 s) := k2
 replace k4 : Arr wA (w.heap.size + 1) (bytn 32 0) := k4
 obtain ⟨c, wB, hr, hS, hb⟩ := cv.out wA
 have hcc := ce.out _ c L wB (by rw [hLn.out]; exact hS)
 rw [hLn.out] at hcc
 replace hcc := zH hcc
 obtain ⟨g4, hg4⟩ : ∃ g, w.heap.size + 1 = g := ⟨_, rfl⟩
 rw [hg4] at k4 ⊢
 have hw4 : w.heap.size ≤ g4 := by omega
 clear hS ce hsz hg4
 go_wp2_with (refine wpList_load_arr2 rfl _ _ rfl _ rfl zDk _ k2 (by rw [bytn_len]; kernel_rfl) ?_)
 replace k4 := k4.below hb
 replace kb := bel kb hb
 clear hr k2 hb cv
 refine hcc.out.mono ?_
 rintro e wC ⟨g, rfl, hrg, hb⟩
 replace k4 := k4.below hb
 replace kb := bel kb hb
 clear hcc hb
 have hat : ∀ w, (Instr.arrayAt 34 (.slice (some ⟨g, 0, none⟩) 32 32)).run Tryz.prog w = .ok (.pointer (some ⟨g, 0, none⟩)) w := fun w => run_arrayAt w 34 5 32 _ 32 32 Tryz.underlying34 zDc
 go_wp2_with (first | (refine wpList_load_mid2 rfl _ _ rfl _ _ rfl zKr _ hrg (by rw [bytn_len]; kernel_rfl) ?_) | (refine wpl_storeG rfl _ _ _ rfl g4 (bytn 32 (keyN s L)) rfl rfl _ k4 (by rw [bytn_len]; kernel_rfl) (by rw [bytn_len, bytn_len]) (bytn_one _ _) (fun w9 k4 hg hsz => ?_)))
 have qb := below_gr kb hg hw4 kb.size
 exact bodyPost_ret (results_arr2 Tryz.results198 _ _ _ rfl zKr _ k4 (by rw [bytn_len]; kernel_rfl)) rfl ⟨rfl, qb⟩
def pN : Nat := 57896044618658097711785492504343953926634992332820282019728792003956564819949
theorem pN_pos : 0 < pN := by decide
theorem two256_p : 18446744073709551616 ^ 4 = 2 * pN + 38 := by decide
theorem lims_p : (lims 4 pN).toArray = #[.int .u64 18446744073709551597, .int .u64 18446744073709551615, .int .u64 18446744073709551615, .int .u64 9223372036854775807] := by kernel_rfl
theorem prime_any (w : World) : Calls Tryz.prog 183 #[] w fun e w' => e = .returned (.agg (lims 4 pN).toArray) ∧ Below w.heap.size w w' := by
 go_enter Tryz.func183, Tryz.ntmps183
 go_wp2_with fail
 refine bodyPost_ret (v := .agg (lims 4 pN).toArray) (by rw [lims_p]; simp [results, Tryz.results183, go_sem]) rfl ⟨rfl, ?_⟩
 exact ((below_alloc _ _))
theorem lims_small (x : Nat) (hx : x < 18446744073709551616) : (lims 4 x).toArray = #[.int .u64 (x : Int), .int .u64 0, .int .u64 0, .int .u64 0] := by
 have e : ∀ i, 0 < i → x / 18446744073709551616 ^ i % 18446744073709551616 = 0 := by
  intro i hi
  obtain ⟨j, rfl⟩ : ∃ j, i = j + 1 := ⟨i - 1, by omega⟩
  rw [Nat.pow_succ, Nat.mul_comm, ← Nat.div_div_eq_div_mul, Nat.div_eq_of_lt hx, Nat.zero_div]
 simp only [lims, digs, show List.range 4 = [0, 1, 2, 3] from by decide, List.map_cons, List.map_nil, Nat.pow_zero, Nat.div_one, Nat.mod_eq_of_lt hx]
 simp only [e 1 zDc, e 2 zDc, e 3 zDc]
 rfl
theorem lessen_any (n : Nat) (hn : n < 18446744073709551616 ^ 4) (w : World) :
 Calls Tryz.prog 200 #[.agg (lims 4 n).toArray] w fun e w' => e = .returned (.agg (lims 4 (n % pN)).toArray) ∧ Below w.heap.size w w' := by
 go_enter Tryz.func200, Tryz.ntmps200
 go_upto_region 1 with fail
 refine wp_new2 (fun W hsz h1 h2 hb0 => ?_)
 go_wp2_with fail
 go_loopw [5] (fun kv wr => ∃ (k m : Nat), k ≤ 2 ∧ kv = .int .i64 k ∧ m % pN = n % pN ∧ m < pN * (3 - k) ∧ m ≤ n ∧ Arr wr w.heap.size (lims 4 m) ∧ Arr wr (w.heap.size + 1) (lims 4 0) ∧ Below w.heap.size w wr) (fun kv _ => 2 - (intOf kv).toNat)
 case atStart => exact ⟨0, n, by omega, rfl, rfl, by have := two256_p; have : 38 < pN := zDc; omega, Nat.le_refl _, h1, h2, hb0⟩
 case round =>
  obtain ⟨k, m, hk, rfl, hm, hlt, hmn, k1, k2, kb⟩ := hrel
  have hm' := zH hm
  clear h1 h2 hb0 hsz hm
  by_cases hk2 : k < 2
  · have hpl : pN < 18446744073709551616 ^ 4 := by decide
    have hlt' := zH hlt
    clear hlt
    have hdk : decide ((k : Int) < 2) = true := by simp; omega
    go_upto_region 3 with fail
    refine Tx.start (fun w' => Below (wr).heap.size (wr) w') 7 9 rfl zKr ?_
    have hS_1 : Below (wr).heap.size (wr) (World.drew wr) := (Below.refl _ _).drew
    refine Tx.seg (A := ?_) 8 1 zKr (by exact hS_1) [0] zKr ?_ ?_
    rotate_left
    · intro w' hB
      have e1 := k1.below hB
      exact zRd
    refine Tx.poolB 2 127 [(1, 9), (2, 10), (3, 7), (4, 11), (5, 12), (6, 3)] [(false, []), (false, [(1, 9)]), (true, [(2, 10)]), (true, [(3, 7)]), (true, [(3, 7)]), (false, [])] [(1, Ph.is (.agg (lims 4 pN).toArray)), (2, Ph.is (.tuple #[.agg (lims 4 (m + 18446744073709551616 ^ 4 - pN)).toArray, .int .u64 (borrow 18446744073709551616 4 m pN : Nat)])), (3, Ph.is (.tuple #[.agg (lims 4 (m + 18446744073709551616 ^ 4 - pN)).toArray, .int .u64 (borrow 18446744073709551616 4 m pN : Nat)])), (4, Ph.is (.agg (lims 4 (m + 18446744073709551616 ^ 4 - pN)).toArray)), (5, Ph.is (.int .u64 (borrow 18446744073709551616 4 m pN : Nat))), (6, Ph.arr wr.heap.size (lims 4 0))] zKr zKr (by first | assumption | exact (Below.refl _ _).drew) ?_ ?_
    · refine ⟨⟨_, rfl, ?_⟩, ⟨_, rfl, ?_⟩, ⟨_, rfl, ?_⟩, ⟨_, rfl, ?_⟩, ⟨_, rfl, ?_⟩, ⟨_, rfl, ?_⟩, trivial⟩
      · intro vs w1 hS hE hD K hK
        clear hD
        simp only [fillL, Act.put, zSa, zSz, zSs] at hK ⊢
        go_simp
        refine (prime_any _).mono ?_
        rintro e w2 ⟨rfl, hb2⟩
        exact hK _ _ rfl hb2 nofun
      · intro vs w1 hS hE hD K hK
        obtain ⟨q1, -⟩ := hD
        simp only [fillL, Act.put, zSa, zSz, zSs] at hK ⊢
        rw [show vs 1 = _ from q1] at hK ⊢
        clear q1
        go_simp
        refine (limSub_any m pN zOm _).mono ?_
        rintro e w2 ⟨rfl, hb2⟩
        exact hK _ _ rfl hb2 nofun
      · intro vs w1 hS hE hD
        obtain ⟨q2, -⟩ := hD
        simp only [fillL, Act.put, zSa, zSz, zSs] at ⊢
        rw [show vs 2 = _ from q2] at ⊢
        clear q2
        refine ⟨_, rfl, fun w' => (by first | (go_simp; done) | (go_simp; rfl)), rfl, nofun⟩
      · intro vs w1 hS hE hD
        obtain ⟨q3, -⟩ := hD
        simp only [fillL, Act.put, zSa, zSz, zSs] at ⊢
        rw [show vs 3 = _ from q3] at ⊢
        clear q3
        refine ⟨_, rfl, fun w' => (by first | (go_simp; done) | (go_simp; rfl)), rfl, nofun⟩
      · intro vs w1 hS hE hD
        obtain ⟨q3, -⟩ := hD
        simp only [fillL, Act.put, zSa, zSz, zSs] at ⊢
        rw [show vs 3 = _ from q3] at ⊢
        clear q3
        refine ⟨_, rfl, fun w' => (by first | (go_simp; done) | (go_simp; rfl)), rfl, nofun⟩
      · intro vs w1 hS hE hD K hK
        clear hD
        simp only [fillL, Act.put, zSa, zSz, zSs] at hK ⊢
        go_simp
        exact hK _ _ ⟨_, rfl, Nat.le_trans zLe hE.size, Arr.new _ _ _⟩ (below_alloc _ _) (fun _ => ⟨_, rfl, Nat.le_refl _⟩)
    intro vs w_p hS_p hE_p hP hD
    obtain ⟨q1, q2, q3, q4, q5, q6, -⟩ := hP
    simp only [fillL, Act.put, zSa, zSz, zSs]
    rw [show vs 1 = _ from q1]
    clear q1
    rw [show vs 2 = _ from q2]
    clear q2
    rw [show vs 3 = _ from q3]
    clear q3
    rw [show vs 4 = _ from q4]
    clear q4
    rw [show vs 5 = _ from q5]
    clear q5
    obtain ⟨g6, e6, hg6, ha6⟩ := q6
    rw [e6]
    clear e6 hD vs
    refine Tx.bar 255 rfl zDk (fun K hK => ?_)
    refine step_store_arr rfl _ _ _ rfl _ _ rfl rfl _ zAm zLn zLm zOn ?_
    refine hK (fun _ => True) 9999 _ _ ?_
    clear hK K
    try simp only [Act.put]
    try simp only [zSa, zSz, zSs]
    refine Tx.seg (A := ?_) 0 511 zKr (by exact trivial) [8] zKr ?_ ?_
    rotate_left
    · intro w' hB
      exact zRd
    refine Tx.done zKr ?_
    have hn5 : w.heap.size + 1 < g6 := Nat.lt_of_lt_of_le k2.lt hg6
    refine then_row ha6 (fun w5 k6 hoth hbel => ?_)
    have k1 := hoth _ _ zOm (k1.below hS_p)
    have k2 := hoth _ _ zOm (k2.below hS_p)
    have kb := hbel _ _ zOm (bel kb hS_p)
    clear hoth hbel ha6 hg6 hE_p hS_p
    rw [borrow_all (a := m) (b := pN) zOm hpl]
    have hpp := pN_pos
    by_cases hlq : m < pN
    · rw [if_pos hlq]
      go_wp2_with fail
      refine ⟨⟨k + 1, m, by omega, by go_num, hm'.out, ?_, hmn, k1, k2, kb⟩, by simp [intOf]; omega⟩
      exact Nat.lt_of_lt_of_le hlq (Nat.le_mul_of_pos_right _ zOm)
    · rw [if_neg hlq]
      go_wp2_with (first | (refine zLd ?_) | (refine zSt ?_))
      have e : lims 4 (m + 18446744073709551616 ^ 4 - pN) = lims 4 (m - pN) := lims_mod _ _ ⟨1, by omega⟩
      refine ⟨⟨k + 1, m - pN, by omega, by go_num, ?_, ?_, by omega, ?_, k2.row_other zOm _, below_setRow kb zOm _⟩, by simp [intOf]; omega⟩
      · rw [← hm'.out]; exact (Nat.mod_eq_sub_mod zOm).symm
      · have h7 := hlt'.out
        have e2 : pN * (3 - k) = pN * (3 - (k + 1)) + pN := by rw [show 3 - k = (3 - (k + 1)) + 1 by omega, Nat.mul_add, Nat.mul_one]
        omega
      · rw [← e]
        exact k1.setRow _
  · obtain rfl : k = 2 := by omega
    have e : m = n % pN := by rw [← hm'.out, Nat.mod_eq_of_lt zOm]
    clear hlt
    subst e
    go_wp2_with (first | (refine zLd ?_) | (refine zSt ?_))
    exact bodyPost_ret (results_arr2 Tryz.results200 _ _ _ rfl zKr _ (by first | assumption | exact Arr.setRow zAm _) zLn) rfl ⟨rfl, below_setRow kb zOm _⟩
theorem mul38 (c : Nat) (hc : 38 * c < 18446744073709551616) : IntKind.u64.wrap (38 * (c : Int)) = ((38 * c : Nat) : Int) := by rw [IntKind.wrap_u64]; omega
theorem carry_all {a b : Nat} (ha : a < 18446744073709551616 ^ 4) (hb : b < 18446744073709551616 ^ 4) : carry 18446744073709551616 4 a b = (a + b) / 18446744073709551616 ^ 4 := by
 unfold carry
 rw [Nat.mod_eq_of_lt ha, Nat.mod_eq_of_lt hb]
theorem lims_cut (n : Nat) : lims 4 n = lims 4 (n % 18446744073709551616 ^ 4) :=
 lims_mod _ _ ⟨n / 18446744073709551616 ^ 4, (Nat.mod_add_div _ _).symm⟩
theorem mod_38 (n c : Nat) : (n + 18446744073709551616 ^ 4 * c) % pN = (n + 38 * c) % pN := by
 rw [two256_p, Nat.add_mul, show n + (2 * pN * c + 38 * c) = n + 38 * c + pN * (2 * c) by rw [Nat.mul_comm 2 pN, Nat.mul_assoc]; omega, Nat.add_mul_mod_self_left]
theorem limAddS_any (n x : Nat) (hx : x < 18446744073709551616) (w : World) :
 Calls Tryz.prog 224 #[.agg (lims 4 n).toArray, .agg #[.int .u64 (x : Int), .int .u64 0, .int .u64 0, .int .u64 0]] w fun e w' =>
  e = .returned (.tuple #[.agg (lims 4 (n + x)).toArray, .int .u64 (carry 18446744073709551616 4 n x : Nat)]) ∧ Below w.heap.size w w' := by
 rw [← lims_small x hx]
 exact limAdd_any n x w
theorem fold_any (n c : Nat) (hn : n < 18446744073709551616 ^ 4) (hc : 38 * c < 18446744073709551616) (w : World) :
 Calls Tryz.prog 179 #[.agg (lims 4 n).toArray, .int .u64 c] w fun e w' => e = .returned (.agg (lims 4 ((n + 18446744073709551616 ^ 4 * c) % pN)).toArray) ∧ Below w.heap.size w w' := by
 have h38 := mul38 c hc
 obtain ⟨x, hx⟩ : ∃ x, 38 * c = x := ⟨_, rfl⟩
 obtain ⟨c1, hc1⟩ : ∃ c1, carry 18446744073709551616 4 n x = c1 := ⟨_, rfl⟩
 obtain ⟨n1, hn1⟩ : ∃ n1, (n + x) % 18446744073709551616 ^ 4 = n1 := ⟨_, rfl⟩
 have hxl : x < 18446744073709551616 := hx ▸ hc
 have hx4 : x < 18446744073709551616 ^ 4 := Nat.lt_trans hxl zDc
 have hca := carry_all hn hx4
 have hcl : c1 ≤ 1 := hc1 ▸ carry_le _ _ _ _ zDc
 have hdm := Nat.mod_add_div (n + x) (18446744073709551616 ^ 4)
 rw [← hca, hc1, hn1] at hdm
 have hn1l : n1 < 18446744073709551616 ^ 4 := hn1 ▸ Nat.mod_lt _ zDc
 have e38 : 38 * c1 < 18446744073709551616 := by omega
 have h381 := mul38 c1 e38
 obtain ⟨y, hy⟩ : ∃ y, 38 * c1 = y := ⟨_, rfl⟩
 have hyl : y < 18446744073709551616 := hy ▸ e38
 have hsum : n1 + y < 18446744073709551616 ^ 4 := by omega
 have hmod : (n1 + y) % pN = (n + 18446744073709551616 ^ 4 * c) % pN := by rw [mod_38, hx, ← hdm, mod_38, hy]
 have hl1 : lims 4 (n + x) = lims 4 n1 := by rw [lims_cut, hn1]
 rw [hx] at h38
 rw [hy] at h381
 replace hmod := zH hmod
 have a1 := fun w => limAddS_any n x hxl w
 rw [hl1, hc1] at a1
 replace a1 := zH a1
 have a2 := zH (fun w => limAddS_any n1 y hyl w)
 have a3 := zH (fun w => lessen_any (n1 + y) hsum w)
 clear hx hc1 hn1 hx4 hca hcl hdm hn1l e38 hy hsum hl1 hc hn
 rw [← hmod.out]
 go_enter Tryz.func179, Tryz.ntmps179
 go_upto_region 1 with fail
 refine wp_new2 (fun W hsz k1 k2 kb => ?_)
 have k2 : Arr W (w.heap.size + 1) (lims 4 0) := k2
 go_wp2_with (first | (refine zLd ?_) | (refine zSt ?_))
 refine (a1.out _).mono ?_
 rintro e w_1 ⟨rfl, hb_1⟩
 have k1 := k1.below hb_1
 have k2 := k2.below hb_1
 have kb := bel kb hb_1
 clear hb_1
 go_upto_region 2 with (first | (refine zLd ?_) | (refine zSt ?_))
 refine code_row k1 (fun w_2 k1 hoth hbel => ?_)
 have k2 := hoth _ _ zOm k2
 have kb := hbel _ _ zOm kb
 clear hoth hbel
 go_wp2_with (first | (refine zLd ?_) | (refine zSt ?_))
 refine (a2.out _).mono ?_
 rintro e w_3 ⟨rfl, hb_3⟩
 have k1 := k1.below hb_3
 have k2 := k2.below hb_3
 have kb := bel kb hb_3
 clear hb_3
 go_upto_region 3 with (first | (refine zLd ?_) | (refine zSt ?_))
 simp only [Act.put]
 refine code_row k1 (fun w_4 k1 hoth hbel => ?_)
 have k2 := hoth _ _ zOm k2
 have kb := hbel _ _ zOm kb
 clear hoth hbel
 go_wp2_with (first | (refine zLd ?_) | (refine zSt ?_))
 refine (a3.out _).mono ?_
 rintro e w_5 ⟨rfl, hb_5⟩
 have k2 := k2.below hb_5
 have kb := bel kb hb_5
 clear hb_5
 go_wp2_with (first | (refine zLd ?_) | (refine zSt ?_))
 exact bodyPost_ret (results_arr2 Tryz.results179 _ _ _ rfl zKr _ (by first | assumption | exact Arr.setRow zAm _) zLn) rfl ⟨rfl, below_setRow kb zOm _⟩
theorem plus_any (a b : Nat) (ha : a < 18446744073709551616 ^ 4) (hb : b < 18446744073709551616 ^ 4) (w : World) :
 Calls Tryz.prog 182 #[.agg (lims 4 a).toArray, .agg (lims 4 b).toArray] w fun e w' => e = .returned (.agg (lims 4 ((a + b) % pN)).toArray) ∧ Below w.heap.size w w' := by
 have hca := carry_all ha hb
 obtain ⟨c, hc⟩ : ∃ c, carry 18446744073709551616 4 a b = c := ⟨_, rfl⟩
 obtain ⟨n, hn⟩ : ∃ n, (a + b) % 18446744073709551616 ^ 4 = n := ⟨_, rfl⟩
 have hcl : c ≤ 1 := hc ▸ carry_le _ _ _ _ zDc
 have hdm := Nat.mod_add_div (a + b) (18446744073709551616 ^ 4)
 rw [← hca, hc, hn] at hdm
 have hnl : n < 18446744073709551616 ^ 4 := hn ▸ Nat.mod_lt _ zDc
 have hl : lims 4 (a + b) = lims 4 n := by rw [lims_cut, hn]
 have a1 := fun w => limAdd_any a b w
 rw [hl, hc] at a1
 replace a1 := zH a1
 have a2 := fun w => fold_any n c hnl zOm w
 rw [hdm] at a2
 replace a2 := zH a2
 clear hca hc hn hcl hdm hnl hl ha hb
 go_enter Tryz.func182, Tryz.ntmps182
 go_upto_region 1 with fail
 refine wp_new3 (fun W hsz k1 k2 k3 kb => ?_)
 have k3 : Arr W (w.heap.size + 1 + 1) (lims 4 0) := k3
 go_wp2_with (first | (refine zLd ?_) | (refine zSt ?_))
 refine (a1.out _).mono ?_
 rintro e w_6 ⟨rfl, hb_6⟩
 have k3 := k3.below hb_6
 have kb := bel kb hb_6
 clear hb_6
 go_upto_region 2 with (first | (refine zLd ?_) | (refine zSt ?_))
 refine code_new (fun w9 k4 hb9 => ?_)
 have k3 := k3.below hb9
 have kb := bel kb hb9
 clear hb9 k1 k2
 go_wp2_with (first | (refine zLd ?_) | (refine zSt ?_))
 refine (a2.out _).mono ?_
 rintro e w_7 ⟨rfl, hb_7⟩
 have k3 := k3.below hb_7
 have kb := bel kb hb_7
 clear hb_7
 go_wp2_with (first | (refine zLd ?_) | (refine zSt ?_))
 exact bodyPost_ret (results_arr2 Tryz.results182 _ _ _ rfl zKr _ (by first | assumption | exact Arr.setRow zAm _) zLn) rfl ⟨rfl, below_setRow kb zOm _⟩
theorem minus_any (a b : Nat) (ha : a < pN) (hb : b < pN) (w : World) :
 Calls Tryz.prog 181 #[.agg (lims 4 a).toArray, .agg (lims 4 b).toArray] w fun e w' => e = .returned (.agg (lims 4 ((a + pN - b) % pN)).toArray) ∧ Below w.heap.size w w' := by
 have hp4 : 2 * pN < 18446744073709551616 ^ 4 := by decide
 have hbo := borrow_all (a := a) (b := b) zOm zOm
 have a1 := limSub_any a b zOm
 rw [hbo] at a1
 by_cases hlt : a < b
 · rw [if_pos hlt] at a1
   have hl : lims 4 (a + 18446744073709551616 ^ 4 - b + pN) = lims 4 ((a + pN - b) % pN) := by
    rw [Nat.mod_eq_of_lt zOm]
    exact lims_mod _ _ ⟨1, by omega⟩
   have a2 := fun w => limAdd_any (a + 18446744073709551616 ^ 4 - b) pN w
   rw [hl] at a2
   obtain ⟨s, hs⟩ : ∃ s, a + 18446744073709551616 ^ 4 - b = s := ⟨_, rfl⟩
   rw [hs] at a1 a2
   replace a1 := zH a1
   replace a2 := zH a2
   clear hbo hlt hl hs ha hb hp4
   go_enter Tryz.func181, Tryz.ntmps181
   go_upto_region 1 with fail
   refine wp_new3 (fun W hsz k1 k2 k3 kb => ?_)
   have k3 : Arr W (w.heap.size + 1 + 1) (lims 4 0) := k3
   go_wp2_with (first | (refine zLd ?_) | (refine zSt ?_))
   refine (a1.out _).mono ?_
   rintro e w_8 ⟨rfl, hb_8⟩
   have k3 := k3.below hb_8
   have kb := bel kb hb_8
   clear hb_8
   go_upto_region 2 with (first | (refine zLd ?_) | (refine zSt ?_))
   refine code_new (fun w9 k4 hb9 => ?_)
   have hg4 := k3.lt
   have k3 := k3.below hb9
   have kb := bel kb hb9
   clear hb9 k1 k2
   go_upto_region 3 with fail
   refine Tx.start (fun w' => Below (w9).heap.size (w9) w') 6 7 rfl zKr ?_
   have hS_9 : Below (w9).heap.size (w9) (World.drew w9) := (Below.refl _ _).drew
   refine Tx.seg (A := ?_) 6 1 zKr (by exact hS_9) [0] zKr ?_ ?_
   rotate_left
   · intro w' hB
     have e1 := k4.below hB
     exact zRd
   refine Tx.eff 1 3 rfl zDk (fun K hK => ?_)
   go_simp
   refine (prime_any _).mono ?_
   rintro e w_10 ⟨rfl, hb_10⟩
   have hS_10 := ext_trans hS_9 (Nat.le_refl _) hb_10
   refine hK (fun w' => Below (w9).heap.size (w9) w') _ _ hS_10 (fun _ h => h) ?_
   clear hK K hb_10 hS_9
   try simp only [Act.put, zSa, zSz, zSs]
   refine Tx.eff 2 7 rfl zDk (fun K hK => ?_)
   go_simp
   refine (a2.out _).mono ?_
   rintro e w_11 ⟨rfl, hb_11⟩
   have hS_11 := ext_trans hS_10 (Nat.le_refl _) hb_11
   refine hK (fun w' => Below (w9).heap.size (w9) w') _ _ hS_11 (fun _ h => h) ?_
   clear hK K hb_11 hS_10
   try simp only [Act.put, zSa, zSz, zSs]
   refine Tx.pure (A := ?_) 1 63 zKr (by exact hS_11) [3, 4, 5] zKr ?_ ?_
   rotate_left
   · intro w'
     iterate 3 (first | (refine rd_skip rfl rfl ?_; simp only [Act.put, zSa, zSz, zSs]) | (refine rd_take (v := ?_) rfl rfl ?_ ?_; rotate_left; (focus (go_simp; try (with_reducible rfl))); simp only [Act.put, zSa, zSz, zSs]))
     exact rd_nil
   have k4 := k4.below hS_11
   have k3 := k3.below hS_11
   have kb := bel kb hS_11
   refine Tx.bar 127 rfl zDk (fun K hK => ?_)
   refine step_store_arr rfl _ _ _ rfl _ _ rfl rfl _ zAm zLn zLm zOn ?_
   refine hK (fun _ => True) 9999 _ _ ?_
   clear hK K
   try simp only [Act.put]
   try simp only [zSa, zSz, zSs]
   refine Tx.done zKr ?_
   refine then_row k4 (fun w_12 k4 hoth hbel => ?_)
   have k3 := hoth _ _ zOm k3
   have kb := hbel _ _ zOm kb
   clear hoth hbel
   go_wp2_with (first | (refine zLd ?_) | (refine zSt ?_))
   exact bodyPost_ret (results_arr2 Tryz.results181 _ _ _ rfl zKr _ (by first | assumption | exact Arr.setRow zAm _) zLn) rfl ⟨rfl, below_setRow kb zOm _⟩
 · rw [if_neg hlt] at a1
   have hl : lims 4 (a + 18446744073709551616 ^ 4 - b) = lims 4 ((a + pN - b) % pN) := by
    rw [show a + pN - b = (a - b) + pN by omega, Nat.add_mod_right, Nat.mod_eq_of_lt zOm]
    exact lims_mod _ _ ⟨1, by omega⟩
   rw [hl] at a1
   replace a1 := zH a1
   clear hbo hlt hl ha hb hp4
   go_enter Tryz.func181, Tryz.ntmps181
   go_upto_region 1 with fail
   refine wp_new3 (fun W hsz k1 k2 k3 kb => ?_)
   have k3 : Arr W (w.heap.size + 1 + 1) (lims 4 0) := k3
   go_wp2_with (first | (refine zLd ?_) | (refine zSt ?_))
   refine (a1.out _).mono ?_
   rintro e w_13 ⟨rfl, hb_13⟩
   have k3 := k3.below hb_13
   have kb := bel kb hb_13
   clear hb_13
   go_upto_region 2 with (first | (refine zLd ?_) | (refine zSt ?_))
   refine code_new (fun w9 k4 hb9 => ?_)
   have k3 := k3.below hb9
   have kb := bel kb hb9
   clear hb9 k1 k2
   go_wp2_with (first | (refine zLd ?_) | (refine zSt ?_))
   exact bodyPost_ret (results_arr2 Tryz.results181 _ _ _ rfl zKr _ (by first | assumption | exact Arr.setRow zAm _) zLn) rfl ⟨rfl, below_setRow kb zOm _⟩
end Go.Proofs.YtibdgkhkhmdihaaGreatDoor
