/- TopSigned: part 15 of its proof: lemmas and contracts, each with its conditions in its own statement; the last part holds the law itself. -/
import Derived.Test.YtncnlfpiondpnaaGreatJt06
import Derived.Test.YtncnlfpiondpnaaGreatJt05

set_option maxHeartbeats 4000000
set_option maxRecDepth 100000
namespace Go.Proofs.YtncnlfpiondpnaaGreat
open Go.RowKit
section
variable {P : Program} {Q : Exit → Act → World → Prop}
def chainTo (l : List Oper) (is : List Nat) : Nat → Nat → Nat → Bool
 | 0, q, p => waitsFor l q p
 | n + 1, q, p => waitsFor l q p || is.any (fun r => waitsFor l q r && chainTo l is n r p)
theorem chain_done {l : List Oper} {is : List Nat} {m : Nat} (hW : ∀ q, q ∈ is → m.testBit q = true → ∀ j, waitsFor l q j = true → m.testBit j = true) : ∀ (n q p : Nat), q ∈ is → m.testBit q = true → chainTo l is n q p = true → m.testBit p = true
 | 0, q, p, hq, hm, h => hW q hq hm p h
 | n + 1, q, p, hq, hm, h => by
  rw [chainTo, Bool.or_eq_true] at h
  rcases h with h | h
  · exact hW q hq hm p h
  · obtain ⟨r, hr, h2⟩ := List.any_eq_true.1 h
    rw [Bool.and_eq_true] at h2
    exact chain_done hW n r p hr (hW q hq hm r h2.1) h2.2
def poolOkC (l : List Oper) (size f d : Nat) (is : List Nat) (deps : List (Bool × List (Nat × Nat))) (f' d' : Nat) : Bool :=
 f == f' + is.length && is.foldl (fun m i => m ||| 2 ^ i) d == d' && seqReady l d is &&
 diffB l is &&
 is.all (fun i => match dstAt l i with | some t => decide (t < size) | none => true) &&
 deps.length == is.length && (is.zip deps).all (fun p => depsOk l is p.1 p.2.2 && slotsDiff p.2.2 && (!p.2.1 || freeE l d p.1)) &&
 (List.range l.length).all (fun k => d.testBit k || is.contains k || (is.zip deps).all (fun p => p.2.1 || waitsFor l k p.1 || is.any (fun q => waitsFor l k q && chainTo l is 6 q p.1)) || (List.range l.length).any (fun k' => !d.testBit k' && !is.contains k' && waitsFor l k k'))
theorem Tx.poolC {l : List Oper} {S : World → Prop} {B : Nat} {w : World} {f d : Nat} {a : Act} (Ext : World → World → Prop) (f' d' : Nat) (is : List Nat) (deps : List (Bool × List (Nat × Nat))) (Φ N : Nat → Value → World → Prop) (Pr : Nat → Value → Nat → Value → Prop)
 (hok : poolOkC l a.tmps.size f d is deps f' d' = true) (hsel : Region.noSelect l.toArray = true) (hBp : is.contains B = false) (hrefl : ∀ w, Ext w w) (htrans : ∀ w1 w2 w3, Ext w1 w2 → Ext w2 w3 → Ext w1 w3)
 (hS : S w) (hSE : ∀ w1 w2, S w1 → Ext w1 w2 → S w2) (hΦ : ∀ i v w1 w2, Φ i v w1 → Ext w1 w2 → Φ i v w2)
 (hN : ∀ i j v u w, i ≠ j → N i v w → Φ j u w → Pr i v j u ∧ Pr j u i v)
 (hob : AllOb P l Q S Ext Φ N a w is deps)
 (H : ∀ (vs : Nat → Value) w', S w' → Ext w w' → (∀ i ∈ is, Φ i (vs i) w') → (∀ i ∈ is, ∀ j ∈ is, i ≠ j → Pr i (vs i) j (vs j)) → Tx P l Q S B f' d' (fill l d' vs is a) w') : Tx P l Q S B f d a w := by
 simp only [poolOkC, Bool.and_eq_true, beq_iff_eq] at hok
 obtain ⟨⟨⟨⟨⟨⟨⟨hf, hd'⟩, hseq⟩, hpw⟩, hsz⟩, hdl⟩, hdeps⟩, hblk⟩ := hok
 have hdiff : Diff l is := diff_of is hpw
 have hnd : ∀ i ∈ is, d.testBit i = false := by
  have key : ∀ (js : List Nat) (e : Nat), seqReady l e js = true → ∀ i ∈ js, e.testBit i = false := by
   intro js
   induction js with
   | nil => intro e _ i hi; cases hi
   | cons j js ih =>
    intro e h i hi
    simp only [seqReady, Bool.and_eq_true, Bool.not_eq_true'] at h
    rcases List.mem_cons.1 hi with rfl | hi
    · exact h.1.2
    · have := ih _ h.2 i hi
      rw [testBit_or_two, Bool.or_eq_false_iff] at this
      exact this.1
  exact key is d hseq
 have main : ∀ (n m : Nat) (vs : Nat → Value) (w1 : World), (is.filter fun i => !m.testBit i).length = n → (∀ k, k ∉ is → m.testBit k = d.testBit k) → S w1 → Ext w w1 →
  (∀ i ∈ is, m.testBit i = true → Φ i (vs i) w1) → (∀ i ∈ is, ∀ j ∈ is, m.testBit i = true → m.testBit j = true → i ≠ j → Pr i (vs i) j (vs j)) → (∀ i ∈ is, m.testBit i = true → ∀ j, waitsFor l i j = true → m.testBit j = true) → Tx P l Q S B (f' + n) m (fill l m vs is a) w1 := by
  intro n
  induction n with
  | zero =>
   intro m vs w1 hn hm hS1 hE hP hR hW
   have hall : ∀ i ∈ is, m.testBit i = true := by
    intro i hi
    have h0 := List.eq_nil_of_length_eq_zero hn
    rw [List.filter_eq_nil_iff] at h0
    have := h0 i hi
    simpa using this
   have em : m = d' := by
    apply Nat.eq_of_testBit_eq
    intro k
    rw [← hd', foldl_bits]
    by_cases hk : k ∈ is
    · rw [hall k hk]; simp [hk]
    · rw [hm k hk]; simp [hk]
   rw [em]
   exact H vs w1 hS1 hE (fun i hi => hP i hi (hall i hi)) (fun i hi j hj hij => hR i hi j hj (hall i hi) (hall j hj) hij)
  | succ n ih =>
   intro m vs w1 hn hm hS1 hE hP hR hW
   have hund : ∃ i ∈ is, m.testBit i = false := by
    have h0 : (is.filter fun i => !m.testBit i) ≠ [] := by intro h; rw [h] at hn; simp at hn
    obtain ⟨i, hi⟩ := List.exists_mem_of_ne_nil _ h0
    rw [List.mem_filter] at hi
    exact ⟨i, hi.1, by simpa using hi.2⟩
   have hdm : ∀ k, d.testBit k = true → m.testBit k = true := by
    intro k hk
    by_cases hki : k ∈ is
    · rw [hnd k hki] at hk; cases hk
    · rw [hm k hki]; exact hk
   obtain ⟨i1, hmem1, hr1⟩ := seqReady_ready is d hseq hdm hund
   by_cases hEx : ∃ i ds, (i, (true, ds)) ∈ is.zip deps ∧ i ∈ Region.ready .any l.toArray (mask l.length m)
   · obtain ⟨i, ds0, hz0, hi⟩ := hEx
     have hmem : i ∈ is := (List.of_mem_zip hz0).1
     obtain ⟨bb, ds, hz, hobi⟩ := allOb_mem is deps hob i hmem
     have hbb : bb = true := zip_same is deps hdl (hdiff.imp (fun h => h.1)) hz hz0
     rw [if_pos hbb] at hobi
     obtain ⟨o2, ho2, hob2⟩ := hobi
     obtain ⟨hun, o, ho, hed⟩ := mem_ready.1 hi
     have ho' : l[i]? = some o := by simpa using ho
     have hilt : i < l.length := (List.getElem?_eq_some_iff.1 ho').1
     rw [mask_getD hilt] at hun
     have hedm : ∀ j, waitsFor l i j = true → m.testBit j = true := by
      intro j hj
      unfold waitsFor at hj
      rw [ho'] at hj
      simp only [Array.any_eq_true] at hj
      obtain ⟨x, hx, hb⟩ := hj
      simp only [Bool.and_eq_true, beq_iff_eq] at hb
      have := hed _ (Array.getElem_mem hx) hb.1
      rw [hb.2] at this
      by_cases hjl : j < l.length
      · rw [mask_getD hjl] at this; exact this
      · rw [mask_getD_out hjl] at this; cases this
     rw [ho'] at ho2
     have ho3 := Option.some.inj ho2
     subst ho3
     have hdo := List.all_eq_true.1 hdeps (i, (bb, ds)) hz
     simp only [Bool.and_eq_true, depsOk] at hdo
     obtain ⟨⟨⟨hd1, hd2⟩, hd3⟩, hfr⟩ := hdo
     have hd3 := slotsDiff_of ds hd3
     have hsame : ∀ t ∈ o.looksAt l.toArray, (fill l m vs is a).tmps[t]? = (fillL vs ds a).tmps[t]? := by
      intro t ht
      by_cases hex : ∃ j ∈ is, dstAt l j = some t
      · obtain ⟨j, hj, hjt⟩ := hex
        have h1 := List.all_eq_true.1 hd2 j hj
        rw [ho', hjt] at h1
        simp only [Bool.or_eq_true, Bool.not_eq_true'] at h1
        have h2 : (j, t) ∈ ds := by
         rcases h1 with h1 | h1
         · rw [List.contains_iff_mem.2 ht] at h1; cases h1
         · simpa using h1
        have h3 := List.all_eq_true.1 hd1 _ h2
        simp only [Bool.and_eq_true] at h3
        have hlt : t < a.tmps.size := by
         have := List.all_eq_true.1 hsz j hj
         rw [hjt] at this
         simpa using this
        rw [fill_some is a hdiff hj (hedm j h3.2) hjt hlt, fillL_some ds a hd3 h2 hlt]
      · rw [fill_none is a (fun j hj _ hjt => hex ⟨j, hj, hjt⟩), fillL_none ds a]
        rintro ⟨j, e⟩ hp rfl
        have h3 := List.all_eq_true.1 hd1 _ hp
        simp only [Bool.and_eq_true, beq_iff_eq] at h3
        exact hex ⟨j, by simpa using h3.1.1, h3.1.2⟩
     have hns : ∀ cs b, o.op ≠ .select cs b := fun cs b => Region.noSelect_spec hsel i o cs b ho
     have hphi : AllPhi Φ vs w1 ds := allPhi_of ds (fun p hp => by
      have h3 := List.all_eq_true.1 hd1 p hp
      simp only [Bool.and_eq_true] at h3
      exact hP p.1 (by simpa using h3.1.1) (hedm p.1 h3.2))
     have hlast : ∀ v w2, Φ i v w2 ∧ Ext w1 w2 ∧ N i v w1 → if i = B then wpAny P .any l.toArray (NoP Q) (f' + n) ((mask l.length m).setIfInBounds i true) ((fill l m vs is a).put o.dst v) w2 else S w2 ∧ wpAnyB P .any l.toArray (NoP Q) S B (f' + n) ((mask l.length m).setIfInBounds i true) ((fill l m vs is a).put o.dst v) w2 := by
      rintro v w2 ⟨hv, hE2, hNv⟩
      have hiB : ¬ i = B := fun e => by rw [e] at hmem; rw [List.contains_iff_mem.2 hmem] at hBp; cases hBp
      rw [if_neg hiB]
      refine ⟨hSE _ _ hS1 hE2, ?_⟩
      have hdst : dstAt l i = o.dst := by unfold dstAt; rw [ho']; rfl
      rw [mask_set, ← hdst, fill_put is a hdiff hmem hun]
      refine ih (m ||| 2 ^ i) (upd vs i v) w2 ?_ ?_ (hSE _ _ hS1 hE2) (htrans _ _ _ hE hE2) ?_ ?_ (fun j0 hj0 hb j hj => by
       rw [testBit_or_two] at hb ⊢
       by_cases e : i = j0
       · rw [← e] at hj; rw [hedm j hj, Bool.true_or]
       · rw [decide_eq_false e, Bool.or_false] at hb
         rw [hW j0 hj0 hb j hj, Bool.true_or])
      · have key : ∀ (js : List Nat), js.Nodup → (js.filter fun k => !(m ||| 2 ^ i).testBit k).length + (if i ∈ js then 1 else 0) = (js.filter fun k => !m.testBit k).length := by
         intro js
         induction js with
         | nil => intro _; rfl
         | cons j js ihj =>
          intro hnd2
          rw [List.nodup_cons] at hnd2
          have h6 := ihj hnd2.2
          by_cases e : i = j
          · subst e
            rw [if_neg hnd2.1] at h6
            rw [List.filter_cons_of_neg (by simp), List.filter_cons_of_pos (by simp [hun]), List.length_cons, if_pos (by simp)]
            omega
          · have e2 : (i ∈ j :: js) = (i ∈ js) := by simp [e]
            have e3 : (m ||| 2 ^ i).testBit j = m.testBit j := by rw [testBit_or_two, decide_eq_false e, Bool.or_false]
            rw [List.filter_cons, List.filter_cons, e3]
            have e2 : (if i ∈ j :: js then 1 else 0) = (if i ∈ js then 1 else 0) := by
             by_cases hij : i ∈ js
             · rw [if_pos hij, if_pos (List.mem_cons_of_mem _ hij)]
             · rw [if_neg hij, if_neg (by simp [e, hij])]
            rw [e2]
            cases m.testBit j <;> simp only [Bool.not_true, Bool.not_false, Bool.false_eq_true, if_false, if_true, List.length_cons] <;> omega
        have hnodup : is.Nodup := hdiff.imp (fun h => h.1)
        have := key is hnodup
        rw [if_pos hmem] at this
        omega
      · intro k hk
        have hik : ¬ i = k := fun e => hk (by rw [← e]; exact hmem)
        rw [testBit_or_two, decide_eq_false hik, Bool.or_false, hm k hk]
      · intro j hj hjb
        unfold upd
        by_cases e : j = i
        · subst e; rw [if_pos rfl]; exact hv
        · rw [if_neg e]
          rw [testBit_or_two, decide_eq_false (Ne.symm e), Bool.or_false] at hjb
          exact hΦ _ _ _ _ (hP j hj hjb) hE2
      · intro j hj k hk hjb hkb hjk
        unfold upd
        by_cases e : j = i
        · subst e
          have e2 : ¬ k = j := fun h => hjk h.symm
          rw [if_pos rfl, if_neg e2]
          rw [testBit_or_two, decide_eq_false (fun h => e2 h.symm), Bool.or_false] at hkb
          exact (hN _ _ _ _ w1 hjk hNv (hP k hk hkb)).1
        · rw [if_neg e]
          rw [testBit_or_two, decide_eq_false (Ne.symm e), Bool.or_false] at hjb
          by_cases e2 : k = i
          · subst e2
            rw [if_pos rfl]
            exact (hN _ _ _ _ w1 (Ne.symm e) hNv (hP j hj hjb)).2
          · rw [if_neg e2]
            rw [testBit_or_two, decide_eq_false (Ne.symm e2), Bool.or_false] at hkb
            exact hR j hj k hk hjb hkb hjk
     obtain ⟨v, hwd, hrun, hv, hNv⟩ := hob2 vs w1 hS1 hE hphi
     have hl := hlast v w1 ⟨hv, hrefl w1, hNv⟩
     have hiB : ¬ i = B := fun e => by rw [e] at hmem; rw [List.contains_iff_mem.2 hmem] at hBp; cases hBp
     rw [if_neg hiB] at hl
     have hfr2 : freeE l d i = true := by rw [hbb] at hfr; simpa using hfr
     refine wpAnyB_pure ho (Region.noSelect_spec hsel) (fun c a w hq => hq) hiB (f' + n) _ _ _ (fun j oj hj hji hjun hno => ?_) hi (.inl ⟨by rw [wanted_same hsame]; exact hwd, fun w' => by rw [exec_same hns hsame]; exact hrun w'⟩) hS1 hl.2
     have hjl : j < l.length := by have := (Array.getElem?_eq_some_iff.1 hj).1; simpa using this
     have hj' : l[j]? = some oj := by simpa using hj
     rw [mask_getD hjl] at hjun
     unfold freeE at hfr2
     rw [ho'] at hfr2
     have h1 := List.all_eq_true.1 hfr2 j (List.mem_range.2 hjl)
     rw [hj'] at h1
     simp only [Bool.or_eq_true, beq_iff_eq] at h1
     rcases h1 with (((h1 | h1) | h1) | h1) | h1
     · exact absurd h1 hji
     · rw [hdm j h1] at hjun; cases hjun
     · exfalso
       unfold waitsFor at h1
       rw [hj'] at h1
       obtain ⟨x, hx, hb⟩ := Array.any_eq_true.1 h1
       simp only [Bool.and_eq_true, beq_iff_eq] at hb
       exact hno _ (Array.getElem_mem hx) hb.1 hb.2
     · rw [hedm j h1] at hjun; cases hjun
     · exact h1
   · unfold Tx
     refine ⟨fun h0 => (by rw [h0] at hr1; cases hr1), fun i hi => ?_⟩
     obtain ⟨hun, o, ho, hed⟩ := mem_ready.1 hi
     have ho' : l[i]? = some o := by simpa using ho
     have hilt : i < l.length := (List.getElem?_eq_some_iff.1 ho').1
     rw [mask_getD hilt] at hun
     have hedm : ∀ j, waitsFor l i j = true → m.testBit j = true := by
      intro j hj
      unfold waitsFor at hj
      rw [ho'] at hj
      simp only [Array.any_eq_true] at hj
      obtain ⟨x, hx, hb⟩ := hj
      simp only [Bool.and_eq_true, beq_iff_eq] at hb
      have := hed _ (Array.getElem_mem hx) hb.1
      rw [hb.2] at this
      by_cases hjl : j < l.length
      · rw [mask_getD hjl] at this; exact this
      · rw [mask_getD_out hjl] at this; cases this
     have hmem : i ∈ is := by
      by_cases hmem : i ∈ is
      · exact hmem
      · exfalso
        have h1 := List.all_eq_true.1 hblk i (List.mem_range.2 hilt)
        simp only [Bool.or_eq_true] at h1
        rcases h1 with ((h1 | h1) | h1) | h1
        · rw [← hm i hmem, hun] at h1; cases h1
        · exact hmem (by simpa using h1)
        · obtain ⟨b1, ds1, hz1, -⟩ := allOb_mem is deps hob i1 hmem1
          have h2 := List.all_eq_true.1 h1 _ hz1
          simp only [Bool.or_eq_true] at h2
          rcases h2 with (h2 | h2) | h2
          · exact hEx ⟨i1, ds1, by rw [← h2]; exact hz1, hr1⟩
          rotate_left
          · obtain ⟨q, hq, h5⟩ := List.any_eq_true.1 h2
            rw [Bool.and_eq_true] at h5
            have h3 := chain_done (m := m) (fun q hq hm j hw => hW q hq hm j hw) 6 q i1 hq (hedm q h5.1) h5.2
            have h4 := (mem_ready.1 hr1).1
            obtain ⟨o1, ho1, -⟩ := (mem_ready.1 hr1).2
            have hl1 : i1 < l.length := by have := (Array.getElem?_eq_some_iff.1 ho1).1; simpa using this
            rw [mask_getD hl1, h3] at h4
            cases h4
          · have h3 := hedm i1 h2
            have h4 := (mem_ready.1 hr1).1
            obtain ⟨o1, ho1, -⟩ := (mem_ready.1 hr1).2
            have hl1 : i1 < l.length := by have := (Array.getElem?_eq_some_iff.1 ho1).1; simpa using this
            rw [mask_getD hl1, h3] at h4
            cases h4
        · obtain ⟨k, -, hk⟩ := List.any_eq_true.1 h1
          simp only [Bool.and_eq_true, Bool.not_eq_true'] at hk
          have h2 := hedm k hk.2
          rw [hm k (by simpa using hk.1.2), hk.1.1] at h2
          cases h2
     obtain ⟨bb, ds, hz, hobi⟩ := allOb_mem is deps hob i hmem
     have hbb : ¬ bb = true := fun e => hEx ⟨i, ds, by rw [← e]; exact hz, hi⟩
     rw [if_neg hbb] at hobi
     obtain ⟨o2, ho2, hob2⟩ := hobi
     rw [ho'] at ho2
     have ho3 := Option.some.inj ho2
     subst ho3
     have hdo := List.all_eq_true.1 hdeps (i, (bb, ds)) hz
     simp only [Bool.and_eq_true, depsOk] at hdo
     obtain ⟨⟨⟨hd1, hd2⟩, hd3⟩, hfr⟩ := hdo
     have hd3 := slotsDiff_of ds hd3
     have hsame : ∀ t ∈ o.looksAt l.toArray, (fill l m vs is a).tmps[t]? = (fillL vs ds a).tmps[t]? := by
      intro t ht
      by_cases hex : ∃ j ∈ is, dstAt l j = some t
      · obtain ⟨j, hj, hjt⟩ := hex
        have h1 := List.all_eq_true.1 hd2 j hj
        rw [ho', hjt] at h1
        simp only [Bool.or_eq_true, Bool.not_eq_true'] at h1
        have h2 : (j, t) ∈ ds := by
         rcases h1 with h1 | h1
         · rw [List.contains_iff_mem.2 ht] at h1; cases h1
         · simpa using h1
        have h3 := List.all_eq_true.1 hd1 _ h2
        simp only [Bool.and_eq_true] at h3
        have hlt : t < a.tmps.size := by
         have := List.all_eq_true.1 hsz j hj
         rw [hjt] at this
         simpa using this
        rw [fill_some is a hdiff hj (hedm j h3.2) hjt hlt, fillL_some ds a hd3 h2 hlt]
      · rw [fill_none is a (fun j hj _ hjt => hex ⟨j, hj, hjt⟩), fillL_none ds a]
        rintro ⟨j, e⟩ hp rfl
        have h3 := List.all_eq_true.1 hd1 _ hp
        simp only [Bool.and_eq_true, beq_iff_eq] at h3
        exact hex ⟨j, by simpa using h3.1.1, h3.1.2⟩
     have hns : ∀ cs b, o.op ≠ .select cs b := fun cs b => Region.noSelect_spec hsel i o cs b ho
     have hphi : AllPhi Φ vs w1 ds := allPhi_of ds (fun p hp => by
      have h3 := List.all_eq_true.1 hd1 p hp
      simp only [Bool.and_eq_true] at h3
      exact hP p.1 (by simpa using h3.1.1) (hedm p.1 h3.2))
     have hlast : ∀ v w2, Φ i v w2 ∧ Ext w1 w2 ∧ N i v w1 → if i = B then wpAny P .any l.toArray (NoP Q) (f' + n) ((mask l.length m).setIfInBounds i true) ((fill l m vs is a).put o.dst v) w2 else S w2 ∧ wpAnyB P .any l.toArray (NoP Q) S B (f' + n) ((mask l.length m).setIfInBounds i true) ((fill l m vs is a).put o.dst v) w2 := by
      rintro v w2 ⟨hv, hE2, hNv⟩
      have hiB : ¬ i = B := fun e => by rw [e] at hmem; rw [List.contains_iff_mem.2 hmem] at hBp; cases hBp
      rw [if_neg hiB]
      refine ⟨hSE _ _ hS1 hE2, ?_⟩
      have hdst : dstAt l i = o.dst := by unfold dstAt; rw [ho']; rfl
      rw [mask_set, ← hdst, fill_put is a hdiff hmem hun]
      refine ih (m ||| 2 ^ i) (upd vs i v) w2 ?_ ?_ (hSE _ _ hS1 hE2) (htrans _ _ _ hE hE2) ?_ ?_ (fun j0 hj0 hb j hj => by
       rw [testBit_or_two] at hb ⊢
       by_cases e : i = j0
       · rw [← e] at hj; rw [hedm j hj, Bool.true_or]
       · rw [decide_eq_false e, Bool.or_false] at hb
         rw [hW j0 hj0 hb j hj, Bool.true_or])
      · have key : ∀ (js : List Nat), js.Nodup → (js.filter fun k => !(m ||| 2 ^ i).testBit k).length + (if i ∈ js then 1 else 0) = (js.filter fun k => !m.testBit k).length := by
         intro js
         induction js with
         | nil => intro _; rfl
         | cons j js ihj =>
          intro hnd2
          rw [List.nodup_cons] at hnd2
          have h6 := ihj hnd2.2
          by_cases e : i = j
          · subst e
            rw [if_neg hnd2.1] at h6
            rw [List.filter_cons_of_neg (by simp), List.filter_cons_of_pos (by simp [hun]), List.length_cons, if_pos (by simp)]
            omega
          · have e2 : (i ∈ j :: js) = (i ∈ js) := by simp [e]
            have e3 : (m ||| 2 ^ i).testBit j = m.testBit j := by rw [testBit_or_two, decide_eq_false e, Bool.or_false]
            rw [List.filter_cons, List.filter_cons, e3]
            have e2 : (if i ∈ j :: js then 1 else 0) = (if i ∈ js then 1 else 0) := by
             by_cases hij : i ∈ js
             · rw [if_pos hij, if_pos (List.mem_cons_of_mem _ hij)]
             · rw [if_neg hij, if_neg (by simp [e, hij])]
            rw [e2]
            cases m.testBit j <;> simp only [Bool.not_true, Bool.not_false, Bool.false_eq_true, if_false, if_true, List.length_cons] <;> omega
        have hnodup : is.Nodup := hdiff.imp (fun h => h.1)
        have := key is hnodup
        rw [if_pos hmem] at this
        omega
      · intro k hk
        have hik : ¬ i = k := fun e => hk (by rw [← e]; exact hmem)
        rw [testBit_or_two, decide_eq_false hik, Bool.or_false, hm k hk]
      · intro j hj hjb
        unfold upd
        by_cases e : j = i
        · subst e; rw [if_pos rfl]; exact hv
        · rw [if_neg e]
          rw [testBit_or_two, decide_eq_false (Ne.symm e), Bool.or_false] at hjb
          exact hΦ _ _ _ _ (hP j hj hjb) hE2
      · intro j hj k hk hjb hkb hjk
        unfold upd
        by_cases e : j = i
        · subst e
          have e2 : ¬ k = j := fun h => hjk h.symm
          rw [if_pos rfl, if_neg e2]
          rw [testBit_or_two, decide_eq_false (fun h => e2 h.symm), Bool.or_false] at hkb
          exact (hN _ _ _ _ w1 hjk hNv (hP k hk hkb)).1
        · rw [if_neg e]
          rw [testBit_or_two, decide_eq_false (Ne.symm e), Bool.or_false] at hjb
          by_cases e2 : k = i
          · subst e2
            rw [if_pos rfl]
            exact (hN _ _ _ _ w1 (Ne.symm e) hNv (hP j hj hjb)).2
          · rw [if_neg e2]
            rw [testBit_or_two, decide_eq_false (Ne.symm e2), Bool.or_false] at hkb
            exact hR j hj k hk hjb hkb hjk
     have hmid := hob2 vs w1 hS1 hE hphi (fun c w' => ∃ v, c = (fillL vs ds a).put o.dst v ∧ Φ i v w' ∧ Ext w1 w' ∧ N i v w1) (fun v w' h1 h2 h3 => ⟨v, rfl, h1, h2, h3⟩)
     unfold wpOp
     simp only [ho]
     rw [wanted_same hsame]
     have hdsz : ∀ t, o.dst = some t → t < (fillL vs ds a).tmps.size := by
      intro t ht
      rw [fillL_size]
      have h1 := List.all_eq_true.1 hsz i hmem
      have hdst : dstAt l i = some t := by unfold dstAt; rw [ho']; exact ht
      rw [hdst] at h1
      simpa using h1
     split
     · rename_i hw
       rw [if_pos hw] at hmid
       exact .inl (wp_pass hdsz (exec_same hns hsame) hmid hlast)
     · rename_i hw
       rw [if_neg hw] at hmid
       obtain ⟨v, h1, h2, h3, h3'⟩ := hmid
       have h4 := hlast v w1 ⟨h2, h3, h3'⟩
       rcases put_inj hdsz h1 with h5 | h5
       · rw [h5] at h4 ⊢; exact h4
       · rw [h5]; exact h4
 have h0 := main is.length d (fun _ => undef) w (by
  rw [List.filter_eq_self.2]
  intro i hi
  rw [hnd i hi]; rfl) (fun _ _ => rfl) hS (hrefl w) (fun i hi hb => by rw [hnd i hi] at hb; cases hb) (fun i hi _ _ hb _ _ => by rw [hnd i hi] at hb; cases hb) (fun i hi hb => by rw [hnd i hi] at hb; cases hb)
 rw [hf]
 have e : fill l d (fun _ => undef) is a = a := by
  have key : ∀ (js : List Nat) (b : Act), (∀ i ∈ js, d.testBit i = false) → fill l d (fun _ => undef) js b = b := by
   intro js
   induction js with
   | nil => intro b _; rfl
   | cons j js ihj =>
    intro b h
    rw [fill, h j (by simp)]
    exact ihj b (fun i hi => h i (List.mem_cons_of_mem _ hi))
  exact key is a hnd
 rw [e] at h0
 exact h0
theorem Tx.poolBC {l : List Oper} {W w : World} {B f d : Nat} {a : Act} (f' d' : Nat) (slots : List (Nat × Nat)) (deps : List (Bool × List (Nat × Nat))) (Φ : List (Nat × Ph))
 (hok : (poolOkC l a.tmps.size f d (slots.map (·.1)) deps f' d' && (slots.all fun p => d'.testBit p.1 && dstAt l p.1 == some p.2) && (Φ.map (·.1) == slots.map (·.1)) && !(slots.map (·.1)).contains B) = true) (hsel : Region.noSelect l.toArray = true)
 (hS : Below W.heap.size W w)
 (hob : AllOb P l Q (fun w' => Below W.heap.size W w') (fun w1 w2 => Below w1.heap.size w1 w2) (phi Φ) (newOf Φ) a w (slots.map (·.1)) deps)
 (H : ∀ (vs : Nat → Value) w', Below W.heap.size W w' → Below w.heap.size w w' → AllP Φ vs w' Φ → (∀ i j, (slots.map (·.1)).contains i = true → (slots.map (·.1)).contains j = true → (i != j) = true → freshOf Φ i = true → freshOf Φ j = true → vs i ≠ vs j) → Tx P l Q (fun w' => Below W.heap.size W w') B f' d' (fillL vs slots a) w') : Tx P l Q (fun w' => Below W.heap.size W w') B f d a w := by
 simp only [Bool.and_eq_true, beq_iff_eq, Bool.not_eq_true'] at hok
 refine Tx.poolC _ f' d' _ deps (phi Φ) (newOf Φ) (fun i v j u => freshOf Φ i = true → freshOf Φ j = true → v ≠ u) hok.1.1.1 hsel hok.2 (fun w => Below.refl _ _) (fun w1 w2 w3 h1 h2 => ext_trans h1 (Nat.le_refl _) h2) hS (fun w1 w2 h1 h2 => ext_trans h1 (Nat.le_refl _) h2)
  (fun i v w1 w2 h1 h2 => phi_mono h2 Φ h1) (fun i j v u w _ h1 h2 => ?_) hob ?_
 · have key : freshOf Φ i = true → freshOf Φ j = true → v ≠ u := by
    intro h3 h4
    obtain ⟨g, rfl, h5⟩ := newOf_spec Φ h1 h3
    obtain ⟨g', rfl, h6⟩ := phi_lt Φ h2 h4
    intro h
    simp only [Value.pointer.injEq, Option.some.injEq, Addr.mk.injEq] at h
    omega
   exact ⟨key, fun h3 h4 h5 => key h4 h3 h5.symm⟩
 intro vs w' h1 h2 h3 h4
 rw [fill_all slots a hok.1.1.2]
 refine H vs w' h1 h2 (allP_of Φ (fun q hq => h3 q.1 ?_)) (fun i j hi hj hij => h4 i (by simpa using hi) j (by simpa using hj) (by simpa using hij))
 rw [← hok.1.2]
 exact List.mem_map_of_mem hq
end
theorem val_append (b : Nat) : ∀ (xs ys : List Nat), val b (xs ++ ys) = val b xs + b ^ xs.length * val b ys
 | [], ys => by simp [val]
 | x :: xs, ys => by
  rw [List.cons_append, val, val, val_append b xs ys, List.length_cons, Nat.pow_succ, Nat.mul_comm (b ^ xs.length) b, Nat.mul_add, Nat.mul_assoc]
  omega
def bytn (k n : Nat) : List Value := (digs 256 k n).map fun (x : Nat) => .int .u8 (x : Int)
theorem bytn_len (k n : Nat) : (bytn k n).length = k := by simp [bytn, digs_len]
theorem bytn_get (k n i : Nat) (h : i < k) : (bytn k n)[i]? = some (.int .u8 ((n / 256 ^ i % 256 : Nat) : Int)) := by simp [bytn, digs_get _ _ _ _ h]
theorem bytn_one (k n : Nat) : ∀ v ∈ bytn k n, v.oneCell' = true := by
 intro v hv
 simp only [bytn, List.mem_map] at hv
 obtain ⟨x, -, rfl⟩ := hv
 rfl
theorem bytn_u8s (k a : Nat) : bytn k a = u8s ((digs 256 k a).map UInt8.ofNat) := by
 simp only [bytn, u8s, List.map_map]
 apply List.map_congr_left
 intro x hx
 have := digs_lt 256 k a zDc x hx
 simp
 omega
def ens (t : List Nat) : List Value := t.map fun (x : Nat) => .int .i64 (x : Int)
theorem ens_len (t : List Nat) : (ens t).length = t.length := by simp [ens]
theorem ens_one (t : List Nat) : ∀ v ∈ ens t, v.oneCell' = true := by
 intro v hv
 simp only [ens, List.mem_map] at hv
 obtain ⟨x, -, rfl⟩ := hv
 rfl
def Le (B : Nat) (t : List Nat) : Prop := ∀ m, t.getD m 0 ≤ B
theorem Le.mono {A B : Nat} {t : List Nat} (h : Le A t) (hAB : A ≤ B) : Le B t := fun m => Nat.le_trans (h m) hAB
def p13 : Nat := 1361129467683753853853498429727072845819
theorem p13_pos : 0 < p13 := by decide
theorem p13_two : (2 : Nat) ^ 130 = p13 + 5 := by decide
def fold13 (n : Nat) : Nat := n % 2 ^ 130 + 5 * (n / 2 ^ 130)
theorem fold13_mod (n : Nat) : fold13 n % p13 = n % p13 := by
 conv => rhs; rw [← Nat.mod_add_div n (2 ^ 130), p13_two]
 unfold fold13
 rw [p13_two, Nat.add_mul, ← Nat.add_assoc, Nat.add_right_comm, Nat.add_mul_mod_self_left]
theorem fold13_le (n : Nat) : fold13 n ≤ n := by unfold fold13; omega
theorem fold13_lt {n K : Nat} (h : n < 2 ^ 130 * K) : fold13 n < 2 ^ 130 + 5 * K := by
 unfold fold13
 have := (Nat.div_lt_iff_lt_mul (show 0 < 2 ^ 130 by decide)).2 (by rw [Nat.mul_comm]; exact h)
 omega
theorem fold13_two {n : Nat} (h : n < 2 ^ 130 * 2 ^ 100) : fold13 (fold13 n) < 2 ^ 130 := by
 have h1 := fold13_lt h
 have h2 : fold13 n < 2 ^ 130 * 2 := by omega
 unfold fold13 at *
 omega
theorem fold13_256 {n : Nat} (h : n < 2 ^ 256) : fold13 n < 2 ^ 131 := by
 have := fold13_lt (K := 2 ^ 126) (n := n) zOm
 omega
def blkV (bs : List UInt8) : Nat := val 256 (bs.map fun (x : UInt8) => x.toNat) + 256 ^ bs.length
def polyK (r : Nat) (L : List UInt8) : Nat → Nat
 | 0 => 0
 | k + 1 => (polyK r L k + blkV ((L.drop (16 * k)).take 16)) * r % p13
def polyT (r s : Nat) (L : List UInt8) : Nat := (polyK r L ((L.length + 15) / 16) + s) % 2 ^ 128
theorem polyK_append (r : Nat) (L M : List UInt8) : ∀ k, 16 * k ≤ L.length → polyK r (L ++ M) k = polyK r L k
 | 0, _ => rfl
 | k + 1, h => by
  rw [polyK, polyK, polyK_append r L M k zOm, List.drop_append_of_le_length zOm, List.take_append_of_le_length (by rw [List.length_drop]; omega)]
theorem polyK_lt (r : Nat) (L : List UInt8) : ∀ k, polyK r L k < p13
 | 0 => p13_pos
 | _ + 1 => Nat.mod_lt _ p13_pos
theorem val_map_lt (bs : List UInt8) : val 256 (bs.map fun (x : UInt8) => x.toNat) < 256 ^ bs.length := by
 have := val_lt 256 zDc (bs.map fun (x : UInt8) => x.toNat) (by intro x hx; simp only [List.mem_map] at hx; obtain ⟨y, -, rfl⟩ := hx; exact y.toNat_lt)
 simpa using this
theorem blkV_lt {bs : List UInt8} (h : bs.length ≤ 16) : blkV bs < 2 ^ 129 := by
 have h1 := val_map_lt bs
 have h2 : 256 ^ bs.length ≤ 256 ^ 16 := Nat.pow_le_pow_right zDc h
 unfold blkV
 omega
def PolySt (r : Nat) (L : List UInt8) (h : Nat) : Prop := h % p13 = polyK r L (L.length / 16) ∧ h < 2 ^ 131
def rest16 (L : List UInt8) : List UInt8 := L.drop (16 * (L.length / 16))
theorem rest16_len (L : List UInt8) : (rest16 L).length = L.length % 16 := by unfold rest16; rw [List.length_drop]; omega
theorem PolySt.nil (r : Nat) : PolySt r [] 0 := ⟨rfl, by decide⟩
theorem rest16_snoc (L : List UInt8) (x : UInt8) (h : L.length % 16 ≠ 15) : rest16 (L ++ [x]) = rest16 L ++ [x] := by
 unfold rest16
 rw [List.length_append, List.length_singleton, show (L.length + 1) / 16 = L.length / 16 by omega, List.drop_append_of_le_length zOm]
theorem PolySt.snoc {r h : Nat} {L : List UInt8} (hs : PolySt r L h) (x : UInt8) (h15 : L.length % 16 ≠ 15) : PolySt r (L ++ [x]) h := by
 unfold PolySt at *
 rw [List.length_append, List.length_singleton, show (L.length + 1) / 16 = L.length / 16 by omega, polyK_append r L [x] _ zOm]
 exact hs
theorem rest16_full (L : List UInt8) (x : UInt8) (h : L.length % 16 = 15) : rest16 (L ++ [x]) = [] := by
 unfold rest16
 apply List.drop_of_length_le
 rw [List.length_append, List.length_singleton]
 omega
theorem turn_mod {r h k b : Nat} (hk : h % p13 = k) : fold13 ((h + b) * r) % p13 = (k + b) * r % p13 := by
 rw [fold13_mod, ← hk, Nat.mul_mod (h % p13 + b), Nat.add_mod (h % p13), Nat.mod_mod, ← Nat.add_mod, ← Nat.mul_mod]
theorem turn_lt {r h b : Nat} (hh : h < 2 ^ 131) (hb : b < 2 ^ 129) (hr : r < 2 ^ 124) : (h + b) * r < 2 ^ 256 := by
 have h1 : h + b < 2 ^ 132 := by omega
 have := Nat.mul_lt_mul'' h1 hr
 rwa [← Nat.pow_add] at this
theorem PolySt.full {r h : Nat} {L : List UInt8} (hs : PolySt r L h) (hr : r < 2 ^ 124) (x : UInt8) (h15 : L.length % 16 = 15) : PolySt r (L ++ [x]) (fold13 ((h + blkV (rest16 L ++ [x])) * r)) := by
 obtain ⟨h1, h2⟩ := hs
 have hl : (rest16 L ++ [x]).length ≤ 16 := by rw [List.length_append, rest16_len, List.length_singleton]; omega
 refine ⟨?_, fold13_256 (turn_lt h2 (blkV_lt hl) hr)⟩
 rw [turn_mod h1, List.length_append, List.length_singleton, show (L.length + 1) / 16 = L.length / 16 + 1 by omega, polyK, polyK_append r L [x] _ zOm, List.drop_append_of_le_length zOm]
 rw [List.take_of_length_le (by rw [List.length_append, List.length_drop, List.length_singleton]; omega)]
 rfl
def lastH (r h : Nat) (L : List UInt8) : Nat := if L.length % 16 = 0 then h else fold13 ((h + blkV (rest16 L)) * r)
theorem PolySt.last {r h : Nat} {L : List UInt8} (hs : PolySt r L h) (hr : r < 2 ^ 124) : lastH r h L % p13 = polyK r L ((L.length + 15) / 16) ∧ lastH r h L < 2 ^ 131 := by
 obtain ⟨h1, h2⟩ := hs
 unfold lastH
 split
 · rename_i h0
   rw [show (L.length + 15) / 16 = L.length / 16 by omega]
   exact ⟨h1, h2⟩
 · rename_i h0
   have hl : (rest16 L).length ≤ 16 := by rw [rest16_len]; omega
   refine ⟨?_, fold13_256 (turn_lt h2 (blkV_lt hl) hr)⟩
   rw [turn_mod h1, show (L.length + 15) / 16 = L.length / 16 + 1 by omega, polyK]
   rw [List.take_of_length_le (by rw [List.length_drop]; omega)]
   rfl
theorem final13 {h k : Nat} (h1 : h % p13 = k) (h2 : h < 2 ^ 131) : ∃ w, fold13 (fold13 (fold13 h)) = w ∧ w < 2 ^ 130 ∧ (if w < p13 then w else w - p13) = k := by
 refine ⟨_, rfl, ?_, ?_⟩
 · have := fold13_two (n := fold13 h) (Nat.lt_of_le_of_lt (fold13_le h) (Nat.lt_trans h2 zDc))
   exact this
 · have h3 := fold13_two (n := fold13 h) (Nat.lt_of_le_of_lt (fold13_le h) (Nat.lt_trans h2 zDc))
   have h4 : fold13 (fold13 (fold13 h)) % p13 = k := by rw [fold13_mod, fold13_mod, fold13_mod, h1]
   generalize fold13 (fold13 (fold13 h)) = w at *
   have := p13_two
   split
   · rw [← h4, Nat.mod_eq_of_lt ‹_›]
   · rw [← h4, Nat.mod_eq_sub_mod zOm, Nat.mod_eq_of_lt zOm]
def polyR (K : Nat) : Nat := K % 2 ^ 128 &&& 0x0ffffffc0ffffffc0ffffffc0fffffff
theorem polyR_lt (K : Nat) : polyR K < 2 ^ 124 := by
 unfold polyR
 exact Nat.lt_of_le_of_lt Nat.and_le_right zDc
theorem land_add (n a b c d : Nat) (ha : a < 2 ^ n) (hc : c < 2 ^ n) : (a + 2 ^ n * b) &&& (c + 2 ^ n * d) = (a &&& c) + 2 ^ n * (b &&& d) := by
 have hac : a &&& c < 2 ^ n := Nat.lt_of_le_of_lt Nat.and_le_left ha
 apply Nat.eq_of_testBit_eq
 intro j
 rw [Nat.testBit_and, Nat.add_comm a, Nat.add_comm c, Nat.add_comm (a &&& c), Nat.testBit_two_pow_mul_add _ ha, Nat.testBit_two_pow_mul_add _ hc, Nat.testBit_two_pow_mul_add _ hac]
 split
 · rw [Nat.testBit_and]
 · rw [Nat.testBit_and]
theorem polyR_limbs (K : Nat) : polyR K = (K % 2 ^ 64 &&& 0x0ffffffc0fffffff) + 2 ^ 64 * (K / 2 ^ 64 % 2 ^ 64 &&& 0x0ffffffc0ffffffc) := by
 unfold polyR
 rw [← land_add 64 _ _ _ _ (Nat.mod_lt _ zDc) zDc]
 congr 1
 omega
def rot (ys : List Nat) (j i : Nat) : Nat := if j ≤ i then ys.getD (i - j) 0 else 320 * ys.getD (i + 17 - j) 0
def cS (xs ys : List Nat) (i : Nat) : Nat → Nat
 | 0 => 0
 | j + 1 => cS xs ys i j + xs.getD j 0 * rot ys j i
end Go.Proofs.YtncnlfpiondpnaaGreat
