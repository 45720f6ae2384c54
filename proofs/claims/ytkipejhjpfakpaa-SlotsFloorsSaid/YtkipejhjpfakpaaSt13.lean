/- slots: the reference's Revoke. -/
import Derived.Test.YtkipejhjpfakpaaSt12
import Derived.Test.YtkipejhjpfakpaaOw
namespace Go.Proofs.Ytkipejhjpfakpaa
open Go.RowKit

/-- A number that is sunk to its place. -/
theorem insL_get (l : List Int) (k : Nat) (x : Int) (hk : k ≤ l.length) : (insL l k x)[k]? = some x := by
  unfold insL
  rw [List.getElem?_append_right (by rw [List.length_take]; omega), List.length_take, show k - min k l.length = 0 by omega]
  rfl
theorem insL_get1 (l : List Int) (k : Nat) (x : Int) (hk : k < l.length) : (insL l (k + 1) x)[k]? = some l[k] := by
  unfold insL
  rw [List.getElem?_append_left (by rw [List.length_take]; omega), List.getElem?_take, if_pos (by omega), List.getElem?_eq_getElem hk]
theorem insL_swap (l : List Int) (k : Nat) (x : Int) (hk : k < l.length) : ((insL l (k + 1) x).set (k + 1) l[k]).set k x = insL l k x := by
  apply List.ext_getElem?
  intro i
  have h1 : (insL l (k + 1) x).length = l.length + 1 := insL_len (by omega)
  have h2 : (insL l k x).length = l.length + 1 := insL_len (by omega)
  have get : ∀ m, m ≤ l.length → ∀ i, (insL l m x)[i]? = if i < m then l[i]? else if i = m then some x else l[i - 1]? := by
    intro m hm i
    unfold insL
    by_cases hi : i < m
    · rw [if_pos hi, List.getElem?_append_left (by rw [List.length_take]; omega), List.getElem?_take, if_pos hi]
    · rw [if_neg hi, List.getElem?_append_right (by rw [List.length_take]; omega), List.length_take, show min m l.length = m by omega]
      by_cases he : i = m
      · rw [if_pos he, he, Nat.sub_self]; rfl
      · rw [if_neg he]
        obtain ⟨j, rfl⟩ : ∃ j, i = m + 1 + j := ⟨i - m - 1, by omega⟩
        rw [show m + 1 + j - m = j + 1 by omega, List.getElem?_cons_succ, List.getElem?_drop, show m + 1 + j - 1 = m + j by omega]
  rw [List.getElem?_set, List.getElem?_set, List.length_set, h1, get _ (by omega), get _ (by omega)]
  by_cases a : k = i
  · subst a; simp; omega
  · by_cases b : k + 1 = i
    · subst b; rw [if_neg a, if_pos rfl, if_pos (by omega), if_neg (by omega), if_neg (by omega), Nat.add_sub_cancel, List.getElem?_eq_getElem hk]
    · rw [if_neg a, if_neg b]
      by_cases c : i < k
      · rw [if_pos (by omega), if_pos c]
      · rw [if_neg (by omega), if_neg (by omega), if_neg c, if_neg (by omega)]
theorem insL_end (l : List Int) (x : Int) : l ++ [x] = insL l l.length x := by simp [insL]

theorem count_of {l : List Int} {k : Nat} {x : Int} (hk : k ≤ l.length) (h1 : ∀ i (h : i < l.length), i < k → l[i] < x) (h2 : ∀ i (h : i < l.length), k ≤ i → x < l[i]) : l.countP (fun y => decide (y < x)) = k := by
  conv => lhs; rw [← List.take_append_drop k l]
  rw [List.countP_append]
  have e1 : (l.take k).countP (fun y => decide (y < x)) = k := by
    rw [List.countP_eq_length.2, List.length_take]
    · omega
    · intro y hy
      obtain ⟨i, hi, rfl⟩ := List.getElem_of_mem hy
      rw [List.length_take] at hi
      simp only [List.getElem_take, decide_eq_true_eq]
      exact h1 i (by omega) (by omega)
  have e2 : (l.drop k).countP (fun y => decide (y < x)) = 0 := by
    rw [List.countP_eq_zero]
    intro y hy
    obtain ⟨i, hi, rfl⟩ := List.getElem_of_mem hy
    rw [List.length_drop] at hi
    have := h2 (k + i) (by omega) (by omega)
    simp only [List.getElem_drop, decide_eq_true_eq]
    omega
  omega

theorem revP_lt {l : List Int} (h : revP l l.length) {i j : Nat} (hij : i < j) (hj : j < l.length) : l[i] < l[j] := by
  induction j with
  | zero => omega
  | succ j ih =>
    have h1 := (h (j + 1) hj hj).2 (by omega)
    have e : l[j + 1 - 1] = l[j] := by congr 1
    rw [e] at h1
    by_cases hq : i = j
    · subst hq; exact h1
    · have := ih (by omega) (by omega); omega

theorem own_some {w : World} {B : Nat} {e : TypeId} {v : Value} {n : Nat} {xs : List Value} (h : w.ownsRow B e 1 v n xs) (h0 : 0 < n) : ∃ g cap, v = .slice (some ⟨g, 0, none⟩) n cap ∧ B ≤ g := by
  rcases h.2 with ⟨-, h3⟩ | ⟨g, cap, cur, rfl, h4, -⟩
  · omega
  · exact ⟨g, cap, rfl, h4⟩

set_option maxHeartbeats 4000000 in
set_option maxRecDepth 100000 in
theorem refRevoke_any (S : Stt) (v : Sv) (id : Int) (w : World) (h : StOk w S v) : Calls Try.prog 30 #[.agg (S.cs v).toArray, .int .i64 id] w (RetSt2 (revokeS S id) w) := by
  have ho := Lib.hid h
  clear h
  obtain ⟨R, hR⟩ : ∃ R, revokeS S id = R := ⟨_, rfl⟩
  rw [hR]
  replace hR := Lib.hid hR
  obtain ⟨ti, hti, htz0, htz1, htz2⟩ := info_parts info_int
  have hzone : ∀ u ∈ zeroS.cs nilSv, u.oneCell' = true := StOk.one (w := w) (zeroS_own 0 w).ok
  replace hzone := Lib.hid hzone
  go_enter Try.func30, Try.ntmps30
  go_upto_region 1 with fail
  refine wp_new2 (fun W hsz k1 k2 kb => ?_)
  have k1 : Arr W w.heap.size (S.cs v) := k1
  obtain ⟨G, hG⟩ : ∃ G, w.heap.size = G := ⟨_, rfl⟩
  rw [hG] at k1 k2 hsz ⊢
  replace hG := Lib.hid hG
  go_wp2_with (first | (refine wpList_load_arr2 rfl _ _ rfl _ rfl (by decide +kernel) _ (by assumption) (by first | (rw [lims_len]; kernel_rfl) | (rw [el_rep]; kernel_rfl) | (rw [el_len]; kernel_rfl) | (rw [byts_len]; kernel_rfl) | (rw [us_len]; kernel_rfl) | (rw [bytn_len]; kernel_rfl) | (rw [ens_len, digs_len]; kernel_rfl) | kernel_rfl) ?_) | fail)
  refine (mayStateb_any S v _ (ho.out.below kb)).mono ?_
  rintro e w1 ⟨he, hb⟩
  have k1 := k1.below hb
  have k2 := k2.below hb
  have kb := bel kb hb
  have hs1 : G + 2 ≤ w1.heap.size := by have := hb.size; omega
  clear hb hsz
  have fin1 : revokeS S id = (zeroS, 1) → RetSt2 (zeroS, 1) w = RetSt2 R w := fun h => by rw [← h, hR.out]
  replace fin1 := Lib.hid fin1
  cases hm : mayB S with
  | false =>
    rw [hm] at he
    subst he
    have hq := Lib.hid (fin1.out (by unfold revokeS; rw [hm]; rfl))
    clear hm
    go_wp2_with (first | (refine wpl_storeG rfl _ _ _ rfl _ _ rfl rfl _ k2 (by kernel_rfl) rfl hzone.out (fun W3 k2 hg hsz => ?_)))
    have kb3 := below_gr kb hg (by rw [hG.out]; omega) kb.size
    refine bodyPost_ret (res_st2 Try.results30 _ _ _ rfl (by kernel_rfl) _ k2 (by kernel_rfl) _ rfl) rfl ?_
    rw [← hq.out]
    exact ⟨nilSv, rfl, zeroS_own _ _, kb3⟩
  | true =>
    rw [hm] at he
    subst he
    have hmp := Lib.hid ((mayB_iff S).1 hm)
    replace hm := Lib.hid hm
    replace k2 := Lib.hid k2
    go_wp2_with fail
    refine (small_any _ _).mono ?_
    rintro e w' ⟨rfl, hw⟩
    rw [hw]
    clear hw w'
    replace k2 := k2.out
    cases hn : numB id with
    | false =>
      have hq := Lib.hid (fin1.out (by unfold revokeS; rw [hn, Bool.and_false]; rfl))
      clear hn
      go_wp2_with (first | (refine wpl_storeG rfl _ _ _ rfl _ _ rfl rfl _ k2 (by kernel_rfl) rfl hzone.out (fun W3 k2 hg hsz => ?_)))
      have kb3 := below_gr kb hg (by rw [hG.out]; omega) kb.size
      refine bodyPost_ret (res_st2 Try.results30 _ _ _ rfl (by kernel_rfl) _ k2 (by kernel_rfl) _ rfl) rfl ?_
      rw [← hq.out]
      exact ⟨nilSv, rfl, zeroS_own _ _, kb3⟩
    | true =>
      have hq : Hid (R = if S.rev.contains id = true then (S, 0) else if 32 ≤ S.rev.length then (zeroS, 3) else ({ S with rev := insL S.rev (S.rev.countP (· < id)) id }, 0)) := Lib.hid (by rw [← hR.out]; unfold revokeS; rw [hm.out, hn]; rfl)
      clear hn fin1 hR
      have hlen := hmp.out.len
      replace k2 := Lib.hid k2
      go_wp2_with (first | (refine wpList_load_arr2 rfl _ _ rfl _ rfl (by decide +kernel) _ (by assumption) (by first | (rw [lims_len]; kernel_rfl) | (rw [el_rep]; kernel_rfl) | (rw [el_len]; kernel_rfl) | (rw [byts_len]; kernel_rfl) | (rw [us_len]; kernel_rfl) | (rw [bytn_len]; kernel_rfl) | (rw [ens_len, digs_len]; kernel_rfl) | kernel_rfl) ?_) | fail)
      refine (copyState_any S v _ (ho.out.below kb) (mayP_fit hmp.out)).mono ?_
      rintro e w2 ⟨v2, rfl, ho2, hb⟩
      have hone := Lib.hid (StOk.one ho2.ok)
      have hb2 := hb.size
      have k2 := Lib.hid (k2.out.below hb)
      have kb := bel kb hb
      have k1 := k1.below hb
      have ho2 := Lib.hid (ho2.mono hs1)
      have hs2 : G + 2 ≤ w2.heap.size := by omega
      clear hb hb2 hs1
      go_upto_region 4 with (first | (refine wpl_storeG rfl _ _ _ rfl _ _ rfl rfl _ k1 (by kernel_rfl) rfl hone.out (fun W3 k1 hg hsz => ?_)))
      have k2 := Lib.hid (k2.out.kept hg (by omega))
      have kb := below_gr kb hg (by rw [hG.out]; omega) kb.size
      have ho2 := Lib.hid (ho2.out.grown hg (by omega))
      have hs3 : G + 2 ≤ W3.heap.size := by omega
      clear hg hsz hone hs2
      obtain ⟨ar, cr, hsh⟩ := own_shape ho2.out.rv
      obtain ⟨vr, v0, v1⟩ := v2
      simp only at hsh
      subst hsh
      have x1 := k1.cell (j := 1) rfl
      have hsl := Lib.hid ho2.out.ok.rv
      go_wp2_with fail
      refine (has_any _ S.rev id _ hsl.out (by omega)).mono ?_
      rintro e w4 ⟨rfl, hb⟩
      have k2 := Lib.hid (k2.out.below hb)
      have k1 := k1.below hb
      have kb := bel kb hb
      have ho2 := Lib.hid (ho2.out.below hb)
      have hs4 : G + 2 ≤ w4.heap.size := by have := hb.size; omega
      clear hb x1 hsl hs3
      cases hct : S.rev.contains id with
      | true =>
        have hq2 : Hid (R = (S, 0)) := Lib.hid (by rw [hq.out, if_pos hct])
        clear hq hct
        have hone := Lib.hid (StOk.one ho2.out.ok)
        replace k2 := k2.out
        go_wp2_with (first | (refine wpList_load_arr2 rfl _ _ rfl _ rfl (by decide +kernel) _ (by assumption) (by first | (rw [lims_len]; kernel_rfl) | (rw [el_rep]; kernel_rfl) | (rw [el_len]; kernel_rfl) | (rw [byts_len]; kernel_rfl) | (rw [us_len]; kernel_rfl) | (rw [bytn_len]; kernel_rfl) | (rw [ens_len, digs_len]; kernel_rfl) | kernel_rfl) ?_) | (refine wpl_storeG rfl _ _ _ rfl _ _ rfl rfl _ k2 (by kernel_rfl) rfl hone.out (fun W6 k2 hg hsz => ?_)))
        have ho6 := ho2.out.grown hg (by omega)
        have kb6 := below_gr kb hg (by rw [hG.out]; omega) kb.size
        refine bodyPost_ret (res_st2 Try.results30 _ _ _ rfl (by kernel_rfl) _ k2 (by kernel_rfl) _ rfl) rfl ?_
        rw [hq2.out]
        exact ⟨_, rfl, ho6.mono (show w.heap.size ≤ G + 2 by rw [hG.out]; omega), kb6⟩
      | false =>
        rw [hct] at hq
        have hnin : ∀ y ∈ S.rev, y ≠ id := fun y hy e => by subst e; simp [hy] at hct
        replace hnin := Lib.hid hnin
        clear hct
        have x1 := k1.cell (j := 1) rfl
        simp only at x1
        by_cases h32 : 32 ≤ S.rev.length
        · have iw : (32 : Int) ≤ (S.rev.length : Int) := by omega
          have hq2 : Hid (R = (zeroS, 3)) := Lib.hid (by rw [hq.out, if_neg (by simp), if_pos h32])
          clear hq h32
          replace k2 := k2.out
          go_upto_region 7 with fail
          clear k1 x1
          go_wp2_with (first | (refine wpl_storeG rfl _ _ _ rfl _ _ rfl rfl _ k2 (by kernel_rfl) rfl hzone.out (fun W3 k2 hg hsz => ?_)))
          have kb3 := below_gr kb hg (by rw [hG.out]; omega) kb.size
          refine bodyPost_ret (res_st2 Try.results30 _ _ _ rfl (by kernel_rfl) _ k2 (by kernel_rfl) _ rfl) rfl ?_
          rw [hq2.out]
          exact ⟨nilSv, rfl, zeroS_own _ _, kb3⟩
        · have iw : ¬ (32 : Int) ≤ (S.rev.length : Int) := by omega
          have hq2 : Hid (R = ({ S with rev := insL S.rev (S.rev.countP (fun y => decide (y < id))) id }, 0)) := Lib.hid (by rw [hq.out, if_neg (by simp), if_neg h32])
          clear hq h32
          have hal := below_alloc w4 (.cells #[.int .i64 id] 3)
          have hown := Lib.hid (own_below ho2.out.rv hal)
          have hnew := Lib.hid (Sl.new1 w4 (.int .i64 id) 3)
          go_upto_region 9 with (at_builtin; refine wpList_append_sl rfl _ _ 22 rfl (G + 2) 3 Try.underlying22 hti htz0 htz1 htz2 rfl _ _ _ rfl hown.out _ [.int .i64 id] rfl hnew.out (by simp [Value.oneCell']) ?c2 ?c3 ?c4 ?_)
          case c2 => simp; unfold maxLen; omega
          case c3 => simp; omega
          case c4 => have := hal.size; omega
          intro u w5 ho5 hg5
          have ho5 : w5.ownsRow (G + 2) 3 1 u (S.rev.length + 1) (ints (insL S.rev S.rev.length id)) := by
            rw [← insL_end, ints_append]; exact ho5
          obtain ⟨gu, cu, rfl, hgu⟩ := own_some ho5 (by omega)
          have ho2 := ho2.out.below hal
          have k1 := (k1.below hal).keptO hg5 (fun e => by have := (ho2.rv.lt _ e).1; omega)
          have k2 := (k2.out.below hal).keptO hg5 (fun e => by have := (ho2.rv.lt _ e).1; omega)
          have kb := below_grO (bel kb hal) hg5 (fun k hk => by rw [hG.out]; have := (ho2.rv.lt _ hk).1; omega) (bel kb hal).size
          have hm0 := ho2.m0.kept hg5 (own_ne ho2.m0 ho2.rv (by decide))
          have hm1 := ho2.m1.kept hg5 (own_ne ho2.m1 ho2.rv (by decide))
          have hs5 : G + 2 ≤ w5.heap.size := by have := hg5.size; have := hal.size; omega
          clear hal hown hnew hg5 ho2 x1 iw hs4
          have k1 := Lib.hid k1
          have k2 := Lib.hid k2
          have kb := Lib.hid kb
          have hm0 := Lib.hid hm0
          have hm1 := Lib.hid hm1
          have ho5 := Lib.hid ho5
          have iw9 : IntKind.i64.wrap ((S.rev.length : Int) + 1 - 1) = (S.rev.length : Int) := i64_in' (by omega) (by omega)
          go_wp2_with fail
          clear iw9
          go_loopw [7] (fun kv wr => ∃ k : Nat, k ≤ S.rev.length ∧ kv = .int .i64 k ∧ Ow wr (G + 2) 3 (.slice (some ⟨gu, 0, none⟩) (S.rev.length + 1) cu) (S.rev.length + 1) (ints (insL S.rev k id)) ∧ (∀ i (h : i < S.rev.length), k ≤ i → id < S.rev[i]) ∧
            Arr wr G (S.cs ⟨.slice ar S.rev.length cr, v0, v1⟩) ∧ Arr wr (G + 1) (zeroS.cs nilSv) ∧ Ow wr (G + 2) 5 v0 S.m0.length (u8s S.m0) ∧ Ow wr (G + 2) 5 v1 S.m1.length (u8s S.m1) ∧ Below w.heap.size w wr ∧ G + 2 ≤ wr.heap.size) (fun kv _ => (intOf kv).toNat)
          case atStart => exact ⟨S.rev.length, Nat.le_refl _, rfl, ho5.out, fun i h h2 => absurd h (by omega), k1.out, k2.out, hm0.out, hm1.out, kb.out, hs5⟩
          case round =>
            clear ho5 k1 k2 hm0 hm1 kb hs5
            obtain ⟨k, hk, rfl, ho5, hgt, k1, k2, hm0, hm1, kb, hs5⟩ := hrel
            have hgt := Lib.hid hgt
            cases k with
            | zero =>
              have hkc : Hid (S.rev.countP (fun y => decide (y < id)) = 0) := Lib.hid (count_of (Nat.zero_le _) (fun i h h2 => absurd h2 (by omega)) (fun i h h2 => hgt.out i h h2))
              have d0 : decide ((0 : Int) < ((0 : Nat) : Int)) = false := rfl
              go_upto_region 10 with (first | (refine wpList_load_arr2 rfl _ _ rfl _ rfl (by decide +kernel) _ (by assumption) (by first | (rw [lims_len]; kernel_rfl) | (rw [el_rep]; kernel_rfl) | (rw [el_len]; kernel_rfl) | (rw [byts_len]; kernel_rfl) | (rw [us_len]; kernel_rfl) | (rw [bytn_len]; kernel_rfl) | (rw [ens_len, digs_len]; kernel_rfl) | kernel_rfl) ?_) | (refine wpList_store_arr rfl _ _ _ rfl _ _ rfl rfl _ (by first | assumption | exact Arr.new _ _ _) (by first | (rw [lims_len]; kernel_rfl) | (rw [el_rep]; kernel_rfl) | (rw [el_len]; kernel_rfl) | (rw [byts_len]; kernel_rfl) | (rw [us_len]; kernel_rfl) | (rw [bytn_len]; kernel_rfl) | (rw [ens_len, digs_len]; kernel_rfl) | kernel_rfl) (by first | (rw [lims_len, lims_len]) | (rw [el_rep, el_rep]) | (rw [el_rep, el_len]; rfl) | (rw [el_len, el_rep]; rfl) | (rw [el_len, el_len]; rfl) | (rw [byts_len, byts_len]) | (rw [lims_len]; rfl) | (rw [byts_len]; rfl) | (rw [us_len, us_len]; rfl) | (rw [bytn_len, bytn_len]) | (rw [bytn_len]; rfl) | (rw [ens_len, ens_len, digs_len, digs_len]) | rfl) (by first | exact lims_one _ _ | exact el_one _ | exact byts_one _ | exact us_one _ | exact bytn_one _ _ | exact ens_one _ | (intro v hv; simp at hv; rcases hv with rfl | rfl | rfl | rfl <;> rfl)) ?_))
              refine Tx.start (fun w' => Below (wr).heap.size (wr) w') 9999 14 rfl (by kernel_rfl) ?_
              have hS_1 : Below (wr).heap.size (wr) (World.drew wr) := (Below.refl _ _).drew
              refine Tx.seg (A := ?_) 0 16383 (by kernel_rfl) (by exact hS_1) [0, 1, 2, 3, 4, 5, 6, 7, 8, 9, 10, 11, 12, 13] (by kernel_rfl) ?_ ?_
              rotate_left
              · intro w' hB
                have e0 := k1.below hB
                have e1 := k2.below hB
                have e2 := ho5.below hB
                have e3 := hm0.below hB
                have e4 := hm1.below hB
                iterate 14 (first | (refine rd_skip rfl rfl ?_; simp only [Act.put, List.setIfInBounds_toArray, List.set_cons_zero, List.set_cons_succ]) | (refine rd_load_arr rfl rfl _ _ rfl _ rfl (by decide +kernel) _ (by assumption) (by first | (rw [lims_len]; kernel_rfl) | (rw [el_rep]; kernel_rfl) | (rw [el_len]; kernel_rfl) | (rw [byts_len]; kernel_rfl) | (rw [us_len]; kernel_rfl) | (rw [bytn_len]; kernel_rfl) | (rw [ens_len, digs_len]; kernel_rfl) | kernel_rfl) ?_; simp only [Act.put, List.setIfInBounds_toArray, List.set_cons_zero, List.set_cons_succ]) | (refine rd_take (v := ?_) rfl rfl ?_ ?_; rotate_left; (focus (go_simp; try (with_reducible rfl))); simp only [Act.put, List.setIfInBounds_toArray, List.set_cons_zero, List.set_cons_succ]) | (refine rd_take (v := ?_) rfl rfl ?_ ?_; rotate_left; (focus (try go_simp); fail)))
                exact rd_nil
              refine Tx.done (by kernel_rfl) ?_
              have k1 := k1.below hS_1
              have k2 := k2.below hS_1
              have ho5 := ho5.below hS_1
              have hm0 := hm0.below hS_1
              have hm1 := hm1.below hS_1
              have kb := bel kb hS_1
              clear hS_1
              have hq3 : Hid (R = ({ S with rev := insL S.rev 0 id }, 0)) := Lib.hid (by rw [hq2.out, hkc.out])
              have hc1 := k1.cell (j := 1) rfl
              have hf1 := k1.frozen 1
              go_upto_region 14 with fail
              refine code_cellG k1 (fun W6 k1 hg hs6 => ?_)
              have k1 : Arr W6 G (Stt.cs { S with rev := insL S.rev 0 id } ⟨.slice (some ⟨gu, 0, none⟩) (S.rev.length + 1) cu, v0, v1⟩) := k1
              have k2 := k2.kept hg (by omega)
              have hok : Hid (StOwn (G + 2) W6 { S with rev := insL S.rev 0 id } ⟨.slice (some ⟨gu, 0, none⟩) (S.rev.length + 1) cu, v0, v1⟩) := Lib.hid ⟨by rw [insL_len (by omega)]; exact own_grown ho5 hg (by omega), own_grown hm0 hg (by omega), own_grown hm1 hg (by omega)⟩
              have kb := below_gr kb hg (by rw [hG.out]; omega) kb.size
              have hone := Lib.hid (StOk.one hok.out.ok)
              clear hg hc1 hf1 ho5 hm0 hm1
              go_wp2_with (first | (refine wpList_load_arr2 rfl _ _ rfl _ rfl (by decide +kernel) _ (by assumption) (by first | (rw [lims_len]; kernel_rfl) | (rw [el_rep]; kernel_rfl) | (rw [el_len]; kernel_rfl) | (rw [byts_len]; kernel_rfl) | (rw [us_len]; kernel_rfl) | (rw [bytn_len]; kernel_rfl) | (rw [ens_len, digs_len]; kernel_rfl) | kernel_rfl) ?_) | (refine wpl_storeG rfl _ _ _ rfl _ _ rfl rfl _ k2 (by kernel_rfl) rfl hone.out (fun W7 k2 hg hsz => ?_)))
              have ho6 := hok.out.grown hg (by omega)
              have kb6 := below_gr kb hg (by rw [hG.out]; omega) kb.size
              refine bodyPost_ret (res_st2 Try.results30 _ _ _ rfl (by kernel_rfl) _ k2 (by kernel_rfl) _ rfl) rfl ?_
              rw [hq3.out]
              exact ⟨_, rfl, ho6.mono (show w.heap.size ≤ G + 2 by rw [hG.out]; omega), kb6⟩
            | succ i =>
              have hi : i < S.rev.length := by omega
              obtain ⟨z, hz⟩ : ∃ z, S.rev[i] = z := ⟨_, rfl⟩
              have e1 : (insL S.rev (i + 1) id)[i + 1]? = some id := insL_get _ _ _ (by omega)
              have e0 : (insL S.rev (i + 1) id)[i]? = some z := by rw [insL_get1 _ _ _ hi, hz]
              have c1 : wr.cell? ⟨gu, i + 1, none⟩ = some (.int .i64 id) := own_cell ho5 (by simp [ints, e1])
              have c0 : wr.cell? ⟨gu, i, none⟩ = some (.int .i64 z) := own_cell ho5 (by simp [ints, e0])
              clear e1 e0
              have hzn := Lib.hid (hnin.out z (by rw [← hz]; exact List.getElem_mem hi))
              replace hz := Lib.hid hz
              have iw1 : IntKind.i64.wrap ((i : Int) + 1 - 1) = (i : Int) := i64_in' (by omega) (by omega)
              have iw0 : IntKind.i64.wrap (i : Int) = (i : Int) := i64_in (by omega)
              have d0 : decide ((0 : Int) < (i : Int) + 1) = true := by simp <;> omega
              have b0 : (0 : Int) ≤ (i : Int) + 1 := by omega
              have b1 : (i : Int) + 1 < (S.rev.length : Int) + 1 := by omega
              have b2 : (i : Int) < (S.rev.length : Int) + 1 := by omega
              by_cases hlt : id < z
              · have dz : decide (id < z) = true := by simpa using hlt
                go_upto_region 10 with (first | (refine wpList_load_arr2 rfl _ _ rfl _ rfl (by decide +kernel) _ (by assumption) (by first | (rw [lims_len]; kernel_rfl) | (rw [el_rep]; kernel_rfl) | (rw [el_len]; kernel_rfl) | (rw [byts_len]; kernel_rfl) | (rw [us_len]; kernel_rfl) | (rw [bytn_len]; kernel_rfl) | (rw [ens_len, digs_len]; kernel_rfl) | kernel_rfl) ?_) | (refine wpList_store_arr rfl _ _ _ rfl _ _ rfl rfl _ (by first | assumption | exact Arr.new _ _ _) (by first | (rw [lims_len]; kernel_rfl) | (rw [el_rep]; kernel_rfl) | (rw [el_len]; kernel_rfl) | (rw [byts_len]; kernel_rfl) | (rw [us_len]; kernel_rfl) | (rw [bytn_len]; kernel_rfl) | (rw [ens_len, digs_len]; kernel_rfl) | kernel_rfl) (by first | (rw [lims_len, lims_len]) | (rw [el_rep, el_rep]) | (rw [el_rep, el_len]; rfl) | (rw [el_len, el_rep]; rfl) | (rw [el_len, el_len]; rfl) | (rw [byts_len, byts_len]) | (rw [lims_len]; rfl) | (rw [byts_len]; rfl) | (rw [us_len, us_len]; rfl) | (rw [bytn_len, bytn_len]) | (rw [bytn_len]; rfl) | (rw [ens_len, ens_len, digs_len, digs_len]) | rfl) (by first | exact lims_one _ _ | exact el_one _ | exact byts_one _ | exact us_one _ | exact bytn_one _ _ | exact ens_one _ | (intro v hv; simp at hv; rcases hv with rfl | rfl | rfl | rfl <;> rfl)) ?_))
                refine Tx.start (fun w' => Below (wr).heap.size (wr) w') 9999 14 rfl (by kernel_rfl) ?_
                have hS_2 : Below (wr).heap.size (wr) (World.drew wr) := (Below.refl _ _).drew
                refine Tx.seg (A := ?_) 0 16383 (by kernel_rfl) (by exact hS_2) [0, 1, 2, 3, 4, 5, 6, 7, 8, 9, 10, 11, 12, 13] (by kernel_rfl) ?_ ?_
                rotate_left
                · intro w' hB
                  have e0 := k1.below hB
                  have e1 := k2.below hB
                  have e2 := ho5.below hB
                  have e3 := hm0.below hB
                  have e4 := hm1.below hB
                  have y1 : w'.cell? ⟨gu, i + 1, none⟩ = some (.int .i64 id) := (by rw [hB.cell (p := ⟨gu, i + 1, none⟩) (World.block_lt_of_cell? wr _ c1)]; exact c1)
                  have y0 : w'.cell? ⟨gu, i, none⟩ = some (.int .i64 z) := (by rw [hB.cell (p := ⟨gu, i, none⟩) (World.block_lt_of_cell? wr _ c0)]; exact c0)
                  iterate 14 (first | (refine rd_skip rfl rfl ?_; simp only [Act.put, List.setIfInBounds_toArray, List.set_cons_zero, List.set_cons_succ]) | (refine rd_load_arr rfl rfl _ _ rfl _ rfl (by decide +kernel) _ (by assumption) (by first | (rw [lims_len]; kernel_rfl) | (rw [el_rep]; kernel_rfl) | (rw [el_len]; kernel_rfl) | (rw [byts_len]; kernel_rfl) | (rw [us_len]; kernel_rfl) | (rw [bytn_len]; kernel_rfl) | (rw [ens_len, digs_len]; kernel_rfl) | kernel_rfl) ?_; simp only [Act.put, List.setIfInBounds_toArray, List.set_cons_zero, List.set_cons_succ]) | (refine rd_take (v := ?_) rfl rfl ?_ ?_; rotate_left; (focus (go_simp; try (with_reducible rfl))); simp only [Act.put, List.setIfInBounds_toArray, List.set_cons_zero, List.set_cons_succ]) | (refine rd_take (v := ?_) rfl rfl ?_ ?_; rotate_left; (focus (try go_simp); fail)))
                  exact rd_nil
                refine Tx.done (by kernel_rfl) ?_
                have k1 := k1.below hS_2
                have k2 := k2.below hS_2
                have ho5 := ho5.below hS_2
                have hm0 := hm0.below hS_2
                have hm1 := hm1.below hS_2
                have kb := bel kb hS_2
                clear hS_2
                have hsw := Lib.hid (insL_swap S.rev i id hi)
                have hgt2 := Lib.hid (show ∀ j (h : j < S.rev.length), i ≤ j → id < S.rev[j] from fun j h h2 => by
                  by_cases hq : j = i
                  · subst hq; rw [hz.out]; exact hlt
                  · exact hgt.out j h (by omega))
                have e1 : (insL S.rev (i + 1) id)[i + 1]? = some id := insL_get _ _ _ (by omega)
                have e0 : (insL S.rev (i + 1) id)[i]? = some z := by rw [insL_get1 _ _ _ hi, hz.out]
                have c1 : wr.drew.cell? ⟨gu, i + 1, none⟩ = some (.int .i64 id) := own_cell ho5 (by simp [ints, e1])
                have c0 : wr.drew.cell? ⟨gu, i, none⟩ = some (.int .i64 z) := own_cell ho5 (by simp [ints, e0])
                clear e1 e0
                go_upto_region 12 with fail
                refine Tx.start (fun w' => Below (wr.drew).heap.size (wr.drew) w') 15 18 rfl (by kernel_rfl) ?_
                have hS_3 : Below (wr.drew).heap.size (wr.drew) (World.drew wr.drew) := (Below.refl _ _).drew
                refine Tx.seg2 (A := ?_) 6 32739 (by kernel_rfl) (by exact hS_3) [0, 1, 5, 6, 7, 8, 9, 10, 11, 12, 13, 14] (by kernel_rfl) ?_ ?_
                rotate_left
                · intro w' hB
                  have y1 : w'.cell? ⟨gu, i + 1, none⟩ = some (.int .i64 id) := by rw [hB.cell (p := ⟨gu, i + 1, none⟩) (World.block_lt_of_cell? _ _ c1)]; exact c1
                  have y0 : w'.cell? ⟨gu, i, none⟩ = some (.int .i64 z) := by rw [hB.cell (p := ⟨gu, i, none⟩) (World.block_lt_of_cell? _ _ c0)]; exact c0
                  iterate 12 (first | (refine rd_skip rfl rfl ?_; simp only [Act.put, List.setIfInBounds_toArray, List.set_cons_zero, List.set_cons_succ]) | (refine rd_load_arr rfl rfl _ _ rfl _ rfl (by decide +kernel) _ (by assumption) (by first | (rw [lims_len]; kernel_rfl) | (rw [el_rep]; kernel_rfl) | (rw [el_len]; kernel_rfl) | (rw [byts_len]; kernel_rfl) | (rw [us_len]; kernel_rfl) | (rw [bytn_len]; kernel_rfl) | (rw [ens_len, digs_len]; kernel_rfl) | kernel_rfl) ?_; simp only [Act.put, List.setIfInBounds_toArray, List.set_cons_zero, List.set_cons_succ]) | (refine rd_take (v := ?_) rfl rfl ?_ ?_; rotate_left; (focus (go_simp; try (with_reducible rfl))); simp only [Act.put, List.setIfInBounds_toArray, List.set_cons_zero, List.set_cons_succ]) | (refine rd_take (v := ?_) rfl rfl ?_ ?_; rotate_left; (focus (try go_simp); fail)))
                  exact rd_nil
                refine Tx.pure (A := ?_) 3 32767 (by kernel_rfl) (by exact hS_3) [2, 3, 4] (by kernel_rfl) ?_ ?_
                rotate_left
                · intro w'
                  iterate 3 (first | (refine rd_skip rfl rfl ?_; simp only [Act.put, List.setIfInBounds_toArray, List.set_cons_zero, List.set_cons_succ]) | (refine rd_take (v := ?_) rfl rfl ?_ ?_; rotate_left; (focus (go_simp; try (with_reducible rfl))); simp only [Act.put, List.setIfInBounds_toArray, List.set_cons_zero, List.set_cons_succ]))
                  exact rd_nil
                refine Tx.bar 65535 rfl (by decide +kernel) (fun K hK => ?_)
                have k1 := k1.below hS_3
                have k2 := k2.below hS_3
                have ho5 := ho5.below hS_3
                have hm0 := hm0.below hS_3
                have hm1 := hm1.below hS_3
                have kb := bel kb hS_3
                clear hS_3
                have n0 := own_ne hm0 ho5 (show (5 : TypeId) ≠ 3 by decide)
                have n1 := own_ne hm1 ho5 (show (5 : TypeId) ≠ 3 by decide)
                refine step_ownG rfl _ _ _ rfl gu (i + 1) (.int .i64 z) rfl rfl (G + 2) 3 (S.rev.length + 1) cu _ ho5 (by kernel_rfl) (by omega) rfl (fun W6 ho5 hg hsz6 => ?_)
                have k1 := k1.kept hg (by omega)
                have k2 := k2.kept hg (by omega)
                have hm0 := hm0.keptN hg n0
                have hm1 := hm1.keptN hg n1
                have kb := below_gr kb hg (by rw [hG.out]; omega) kb.size
                clear hg
                refine hK (fun _ => True) 9999 _ _ ?_
                clear hK K
                try simp only [Act.put]
                try simp only [List.setIfInBounds_toArray, List.set_cons_zero, List.set_cons_succ]
                refine Tx.seg2 (A := ?_) 1 131071 (by kernel_rfl) (by exact trivial) [16] (by kernel_rfl) ?_ ?_
                rotate_left
                · intro w' hB
                  iterate 1 (first | (refine rd_skip rfl rfl ?_; simp only [Act.put, List.setIfInBounds_toArray, List.set_cons_zero, List.set_cons_succ]) | (refine rd_load_arr rfl rfl _ _ rfl _ rfl (by decide +kernel) _ (by assumption) (by first | (rw [lims_len]; kernel_rfl) | (rw [el_rep]; kernel_rfl) | (rw [el_len]; kernel_rfl) | (rw [byts_len]; kernel_rfl) | (rw [us_len]; kernel_rfl) | (rw [bytn_len]; kernel_rfl) | (rw [ens_len, digs_len]; kernel_rfl) | kernel_rfl) ?_; simp only [Act.put, List.setIfInBounds_toArray, List.set_cons_zero, List.set_cons_succ]) | (refine rd_take (v := ?_) rfl rfl ?_ ?_; rotate_left; (focus (go_simp; try (with_reducible rfl))); simp only [Act.put, List.setIfInBounds_toArray, List.set_cons_zero, List.set_cons_succ]) | (refine rd_take (v := ?_) rfl rfl ?_ ?_; rotate_left; (focus (try go_simp); fail)))
                  exact rd_nil
                refine Tx.eff 17 262143 rfl (by decide +kernel) (fun K hK => ?_)
                refine step_ownG rfl _ _ _ rfl gu i (.int .i64 id) rfl rfl (G + 2) 3 (S.rev.length + 1) cu _ ho5 (by kernel_rfl) (by omega) rfl (fun W7 ho5 hg hsz7 => ?_)
                have k1 := k1.kept hg (by omega)
                have k2 := k2.kept hg (by omega)
                have hm0 := hm0.keptN hg n0
                have hm1 := hm1.keptN hg n1
                have kb := below_gr kb hg (by rw [hG.out]; omega) kb.size
                clear hg n0 n1
                refine hK (fun _ => True) _ _ trivial (fun _ h => h) ?_
                clear hK K
                try simp only [Act.put]
                refine Tx.done (by kernel_rfl) ?_
                have ho5 : Ow W7 (G + 2) 3 (.slice (some ⟨gu, 0, none⟩) (S.rev.length + 1) cu) (S.rev.length + 1) (ints (insL S.rev i id)) := by
                  rw [← hsw.out, hz.out]
                  simp only [ints, List.map_set]
                  exact ho5
                go_wp2_with fail
                exact ⟨⟨i, by omega, by go_num, ho5, hgt2.out, k1, k2, hm0, hm1, kb, by have := k2.lt; omega⟩, by simp [intOf]⟩
              · have dz : decide (id < z) = false := by simpa using hlt
                have hkc : Hid (S.rev.countP (fun y => decide (y < id)) = i + 1) := Lib.hid (count_of (by omega) (fun j h h2 => by
                  have hzz := hzn.out
                  by_cases hq : j = i
                  · subst hq; rw [hz.out]; omega
                  · have := revP_lt hmp.out.rev (show j < i by omega) hi; rw [hz.out] at this; omega) (fun j h h2 => hgt.out j h h2))
                go_upto_region 10 with (first | (refine wpList_load_arr2 rfl _ _ rfl _ rfl (by decide +kernel) _ (by assumption) (by first | (rw [lims_len]; kernel_rfl) | (rw [el_rep]; kernel_rfl) | (rw [el_len]; kernel_rfl) | (rw [byts_len]; kernel_rfl) | (rw [us_len]; kernel_rfl) | (rw [bytn_len]; kernel_rfl) | (rw [ens_len, digs_len]; kernel_rfl) | kernel_rfl) ?_) | (refine wpList_store_arr rfl _ _ _ rfl _ _ rfl rfl _ (by first | assumption | exact Arr.new _ _ _) (by first | (rw [lims_len]; kernel_rfl) | (rw [el_rep]; kernel_rfl) | (rw [el_len]; kernel_rfl) | (rw [byts_len]; kernel_rfl) | (rw [us_len]; kernel_rfl) | (rw [bytn_len]; kernel_rfl) | (rw [ens_len, digs_len]; kernel_rfl) | kernel_rfl) (by first | (rw [lims_len, lims_len]) | (rw [el_rep, el_rep]) | (rw [el_rep, el_len]; rfl) | (rw [el_len, el_rep]; rfl) | (rw [el_len, el_len]; rfl) | (rw [byts_len, byts_len]) | (rw [lims_len]; rfl) | (rw [byts_len]; rfl) | (rw [us_len, us_len]; rfl) | (rw [bytn_len, bytn_len]) | (rw [bytn_len]; rfl) | (rw [ens_len, ens_len, digs_len, digs_len]) | rfl) (by first | exact lims_one _ _ | exact el_one _ | exact byts_one _ | exact us_one _ | exact bytn_one _ _ | exact ens_one _ | (intro v hv; simp at hv; rcases hv with rfl | rfl | rfl | rfl <;> rfl)) ?_))
                refine Tx.start (fun w' => Below (wr).heap.size (wr) w') 9999 14 rfl (by kernel_rfl) ?_
                have hS_4 : Below (wr).heap.size (wr) (World.drew wr) := (Below.refl _ _).drew
                refine Tx.seg (A := ?_) 0 16383 (by kernel_rfl) (by exact hS_4) [0, 1, 2, 3, 4, 5, 6, 7, 8, 9, 10, 11, 12, 13] (by kernel_rfl) ?_ ?_
                rotate_left
                · intro w' hB
                  have e0 := k1.below hB
                  have e1 := k2.below hB
                  have e2 := ho5.below hB
                  have e3 := hm0.below hB
                  have e4 := hm1.below hB
                  have y1 : w'.cell? ⟨gu, i + 1, none⟩ = some (.int .i64 id) := (by rw [hB.cell (p := ⟨gu, i + 1, none⟩) (World.block_lt_of_cell? wr _ c1)]; exact c1)
                  have y0 : w'.cell? ⟨gu, i, none⟩ = some (.int .i64 z) := (by rw [hB.cell (p := ⟨gu, i, none⟩) (World.block_lt_of_cell? wr _ c0)]; exact c0)
                  iterate 14 (first | (refine rd_skip rfl rfl ?_; simp only [Act.put, List.setIfInBounds_toArray, List.set_cons_zero, List.set_cons_succ]) | (refine rd_load_arr rfl rfl _ _ rfl _ rfl (by decide +kernel) _ (by assumption) (by first | (rw [lims_len]; kernel_rfl) | (rw [el_rep]; kernel_rfl) | (rw [el_len]; kernel_rfl) | (rw [byts_len]; kernel_rfl) | (rw [us_len]; kernel_rfl) | (rw [bytn_len]; kernel_rfl) | (rw [ens_len, digs_len]; kernel_rfl) | kernel_rfl) ?_; simp only [Act.put, List.setIfInBounds_toArray, List.set_cons_zero, List.set_cons_succ]) | (refine rd_take (v := ?_) rfl rfl ?_ ?_; rotate_left; (focus (go_simp; try (with_reducible rfl))); simp only [Act.put, List.setIfInBounds_toArray, List.set_cons_zero, List.set_cons_succ]) | (refine rd_take (v := ?_) rfl rfl ?_ ?_; rotate_left; (focus (try go_simp); fail)))
                  exact rd_nil
                refine Tx.done (by kernel_rfl) ?_
                have k1 := k1.below hS_4
                have k2 := k2.below hS_4
                have ho5 := ho5.below hS_4
                have hm0 := hm0.below hS_4
                have hm1 := hm1.below hS_4
                have kb := bel kb hS_4
                clear hS_4
                have hq3 : Hid (R = ({ S with rev := insL S.rev (i + 1) id }, 0)) := Lib.hid (by rw [hq2.out, hkc.out])
                have hc1 := k1.cell (j := 1) rfl
                have hf1 := k1.frozen 1
                go_upto_region 14 with fail
                refine code_cellG k1 (fun W6 k1 hg hs6 => ?_)
                have k1 : Arr W6 G (Stt.cs { S with rev := insL S.rev (i + 1) id } ⟨.slice (some ⟨gu, 0, none⟩) (S.rev.length + 1) cu, v0, v1⟩) := k1
                have k2 := k2.kept hg (by omega)
                have hok : Hid (StOwn (G + 2) W6 { S with rev := insL S.rev (i + 1) id } ⟨.slice (some ⟨gu, 0, none⟩) (S.rev.length + 1) cu, v0, v1⟩) := Lib.hid ⟨by rw [insL_len (by omega)]; exact own_grown ho5 hg (by omega), own_grown hm0 hg (by omega), own_grown hm1 hg (by omega)⟩
                have kb := below_gr kb hg (by rw [hG.out]; omega) kb.size
                have hone := Lib.hid (StOk.one hok.out.ok)
                clear hg hc1 hf1 ho5 hm0 hm1
                go_wp2_with (first | (refine wpList_load_arr2 rfl _ _ rfl _ rfl (by decide +kernel) _ (by assumption) (by first | (rw [lims_len]; kernel_rfl) | (rw [el_rep]; kernel_rfl) | (rw [el_len]; kernel_rfl) | (rw [byts_len]; kernel_rfl) | (rw [us_len]; kernel_rfl) | (rw [bytn_len]; kernel_rfl) | (rw [ens_len, digs_len]; kernel_rfl) | kernel_rfl) ?_) | (refine wpl_storeG rfl _ _ _ rfl _ _ rfl rfl _ k2 (by kernel_rfl) rfl hone.out (fun W7 k2 hg hsz => ?_)))
                have ho6 := hok.out.grown hg (by omega)
                have kb6 := below_gr kb hg (by rw [hG.out]; omega) kb.size
                refine bodyPost_ret (res_st2 Try.results30 _ _ _ rfl (by kernel_rfl) _ k2 (by kernel_rfl) _ rfl) rfl ?_
                rw [hq3.out]
                exact ⟨_, rfl, ho6.mono (show w.heap.size ≤ G + 2 by rw [hG.out]; omega), kb6⟩

end Go.Proofs.Ytkipejhjpfakpaa
