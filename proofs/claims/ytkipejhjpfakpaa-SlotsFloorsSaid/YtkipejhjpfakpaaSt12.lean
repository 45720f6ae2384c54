/- slots: Revoke, the reference's Revoke. -/
import Derived.Test.YtkipejhjpfakpaaSt11
namespace Go.Proofs.Ytkipejhjpfakpaa
open Go.RowKit

/-- What a revocation makes of a state, and its error's number. -/
noncomputable def revokeS (S : Stt) (id : Int) : Stt × Int :=
  if (mayB S && numB id) = true then (if S.rev.contains id = true then (S, 0) else if 32 ≤ S.rev.length then (zeroS, 3) else ({ S with rev := insL S.rev (S.rev.countP (· < id)) id }, 0))
  else (zeroS, 1)
/-- A state and a number that are handed back. -/
def RetSt2 (p : Stt × Int) (w : World) (e : Ending) (w' : World) : Prop := ∃ v : Sv, e = .returned (.tuple #[.agg (p.1.cs v).toArray, .int .i64 p.2]) ∧ StOwn w.heap.size w' p.1 v ∧ Below w.heap.size w w'

theorem res_st2 {fn : Func} {p u : Tmp} {ty : TypeId} (h : fn.results = #[.cell p ty, .tmp u]) (tmps : Array Value) (w : World) (g : Nat)
    (hp : tmps.getD p undef = .pointer (some ⟨g, 0, none⟩)) (ha : aggT Try.prog ty = true) (xs : List Value) (hg : Arr w g xs) (hi : (Try.prog.info? ty).map (·.size) = some xs.length) (v : Value) (hv : tmps.getD u undef = v) :
    (results fn tmps).run Try.prog w = .ok (.tuple #[.agg xs.toArray, v]) w := by
  obtain ⟨d, hu, hd⟩ := aggT_spec ha
  exact results_arr_tmp h tmps w g d hp hu (by cases d <;> first | rfl | cases hd) xs hg hi v hv

theorem sorted_of {S : Stt} (h : mayP S) : S.rev.Pairwise (· ≤ ·) := by
  have hr := h.rev
  generalize S.rev = l at hr
  rw [List.pairwise_iff_getElem]
  have step : ∀ d i (hi : i < l.length) (hj : i + d + 1 < l.length), l[i] < l[i + d + 1] := by
    intro d
    induction d with
    | zero => intro i hi hj; exact (hr (i + 1) hj hj).2 (by omega)
    | succ d ih =>
      intro i hi hj
      have h1 := ih i hi (by omega)
      have h2 := (hr (i + (d + 1) + 1) hj hj).2 (by omega)
      have h3 : l[i + (d + 1) + 1 - 1] = l[i + d + 1] := by congr 1
      omega
  intro i j hi hj hij
  have := step (j - i - 1) i hi (by omega)
  have e : l[i + (j - i - 1) + 1] = l[j] := by congr 1; omega
  omega

theorem Arr.keptO {w w' : World} {g : Nat} {xs : List Value} {row : Option Nat} (h : Arr w g xs) (hg : w.grownBy w' row) (hne : row ≠ some g) : Arr w' g xs := by
  have := h.lt
  obtain ⟨T, h⟩ := h
  exact ⟨T, by rw [hg.block g this (fun e => hne e.symm)]; exact h⟩
theorem own_ne {w : World} {B B' : Nat} {e e' : TypeId} {v u : Value} {n n' : Nat} {xs ys : List Value} (h1 : w.ownsRow B e 1 v n xs) (h2 : w.ownsRow B' e' 1 u n' ys) (he : e ≠ e') : v.ownBlock = none ∨ v.ownBlock ≠ u.ownBlock := by
  rcases h1.2 with ⟨rfl, -⟩ | ⟨g, cap, cur, rfl, -, hg, -⟩
  · exact .inl rfl
  · rcases h2.2 with ⟨rfl, -⟩ | ⟨g', cap', cur', rfl, -, hg', -⟩
    · exact .inr (by simp [Value.ownBlock])
    · refine .inr (fun q => ?_)
      simp only [Value.ownBlock, Option.some.injEq] at q
      subst q
      rw [hg] at hg'
      simp only [Option.some.injEq, Obj.cells.injEq] at hg'
      exact he hg'.2.1
theorem below_grO {n : Nat} {w0 w w' : World} {row : Option Nat} (h : Below n w0 w) (hg : w.grownBy w' row) (hn : ∀ k, row = some k → n ≤ k) (hs : n ≤ w.heap.size) : Below n w0 w' := h.grown hg hs hn

set_option maxHeartbeats 2000000 in
set_option maxRecDepth 100000 in
theorem revoke_any (S : Stt) (v : Sv) (id : Int) (w : World) (h : StOk w S v) : Calls Try.prog 28 #[.agg (S.cs v).toArray, .int .i64 id] w (RetSt2 (revokeS S id) w) := by
  have ho := Lib.hid h
  clear h
  obtain ⟨R, hR⟩ : ∃ R, revokeS S id = R := ⟨_, rfl⟩
  rw [hR]
  replace hR := Lib.hid hR
  have hzone : ∀ u ∈ zeroS.cs nilSv, u.oneCell' = true := StOk.one (w := w) (zeroS_own 0 w).ok
  replace hzone := Lib.hid hzone
  go_enter Try.func28, Try.ntmps28
  go_upto_region 1 with fail
  refine wp_new2 (fun W hsz k1 k2 kb => ?_)
  have k1 : Arr W w.heap.size (S.cs v) := k1
  obtain ⟨G, hG⟩ : ∃ G, w.heap.size = G := ⟨_, rfl⟩
  rw [hG] at k1 k2 hsz ⊢
  replace hG := Lib.hid hG
  go_wp2_with (first | (refine wpList_load_arr2 rfl _ _ rfl _ rfl (by decide +kernel) _ (by assumption) (by first | (rw [lims_len]; kernel_rfl) | (rw [el_rep]; kernel_rfl) | (rw [el_len]; kernel_rfl) | (rw [byts_len]; kernel_rfl) | (rw [us_len]; kernel_rfl) | (rw [bytn_len]; kernel_rfl) | (rw [ens_len, digs_len]; kernel_rfl) | kernel_rfl) ?_) | fail)
  refine (mayb_any S v _ (ho.out.below kb)).mono ?_
  rintro e w1 ⟨he, hb⟩
  have k1 := k1.below hb
  have k2 := k2.below hb
  have kb := bel kb hb
  have hs1 : G + 2 ≤ w1.heap.size := by have := hb.size; omega
  clear hb hsz
  have fin1 : revokeS S id = (zeroS, 1) → RetSt2 (zeroS, 1) w = RetSt2 R w := fun h => by rw [← h, hR.out]
  replace fin1 := Lib.hid fin1
  cases hm : mayB S with
  | false =>
    rw [hm] at he
    subst he
    have hq := Lib.hid (fin1.out (by unfold revokeS; rw [hm]; rfl))
    clear hm
    go_wp2_with (first | (refine wpl_storeG rfl _ _ _ rfl _ _ rfl rfl _ k2 (by kernel_rfl) rfl hzone.out (fun W3 k2 hg hsz => ?_)))
    have kb3 := below_gr kb hg (by rw [hG.out]; omega) kb.size
    refine bodyPost_ret (res_st2 Try.results28 _ _ _ rfl (by kernel_rfl) _ k2 (by kernel_rfl) _ rfl) rfl ?_
    rw [← hq.out]
    exact ⟨nilSv, rfl, zeroS_own _ _, kb3⟩
  | true =>
    rw [hm] at he
    subst he
    have hmp := Lib.hid ((mayB_iff S).1 hm)
    replace hm := Lib.hid hm
    replace k2 := Lib.hid k2
    go_wp2_with fail
    refine (number_any _ _).mono ?_
    rintro e w' ⟨rfl, hw⟩
    rw [hw]
    clear hw w'
    replace k2 := k2.out
    cases hn : numB id with
    | false =>
      have hq := Lib.hid (fin1.out (by unfold revokeS; rw [hn, Bool.and_false]; rfl))
      clear hn
      go_wp2_with (first | (refine wpl_storeG rfl _ _ _ rfl _ _ rfl rfl _ k2 (by kernel_rfl) rfl hzone.out (fun W3 k2 hg hsz => ?_)))
      have kb3 := below_gr kb hg (by rw [hG.out]; omega) kb.size
      refine bodyPost_ret (res_st2 Try.results28 _ _ _ rfl (by kernel_rfl) _ k2 (by kernel_rfl) _ rfl) rfl ?_
      rw [← hq.out]
      exact ⟨nilSv, rfl, zeroS_own _ _, kb3⟩
    | true =>
      have hq : Hid (R = if S.rev.contains id = true then (S, 0) else if 32 ≤ S.rev.length then (zeroS, 3) else ({ S with rev := insL S.rev (S.rev.countP (· < id)) id }, 0)) := Lib.hid (by rw [← hR.out]; unfold revokeS; rw [hm.out, hn]; rfl)
      clear hn fin1 hR
      have hlen := hmp.out.len
      replace k2 := Lib.hid k2
      go_wp2_with (first | (refine wpList_load_arr2 rfl _ _ rfl _ rfl (by decide +kernel) _ (by assumption) (by first | (rw [lims_len]; kernel_rfl) | (rw [el_rep]; kernel_rfl) | (rw [el_len]; kernel_rfl) | (rw [byts_len]; kernel_rfl) | (rw [us_len]; kernel_rfl) | (rw [bytn_len]; kernel_rfl) | (rw [ens_len, digs_len]; kernel_rfl) | kernel_rfl) ?_) | fail)
      refine (copy_any S v _ (ho.out.below kb) (mayP_fit hmp.out)).mono ?_
      rintro e w2 ⟨v2, rfl, ho2, hb⟩
      have hone := Lib.hid (StOk.one ho2.ok)
      have hb2 := hb.size
      have k2 := Lib.hid (k2.out.below hb)
      have kb := bel kb hb
      have hoff := Lib.hid (ho2.off (Nat.le_refl _))
      clear hb k1
      go_upto_region 4 with (first | (refine wpl_storeG rfl _ _ _ rfl _ _ rfl rfl _ (Arr.new _ _ _) (by kernel_rfl) rfl hone.out (fun W3 k5 hg hsz => ?_)))
      have hb3 := below_new hg
      have k2 := Lib.hid (k2.out.below hb3)
      have kb := bel kb hb3
      have ho2 := Lib.hid (ho2.below hb3)
      have hs3 := hb3.size
      obtain ⟨g5, hg5⟩ : ∃ g, w2.heap.size = g := ⟨_, rfl⟩
      rw [hg5] at k5 hoff ⊢
      have hg6 : g5 < W3.heap.size := k5.lt
      have hB : G + 2 ≤ g5 := by omega
      have ho2 : Hid (StOwn (G + 2) W3 S v2) := Lib.hid (ho2.out.mono hs1)
      clear hg hb3 hsz hs1 hb2
      have hsl := Lib.hid ho2.out.ok.rv
      have hsr := Lib.hid (sorted_of hmp.out)
      obtain ⟨ar, cr, hsh⟩ := own_shape ho2.out.rv
      obtain ⟨vr, v0, v1⟩ := v2
      simp only at hsh
      subst hsh
      have x1 := k5.cell (j := 1) rfl
      go_wp2_with fail
      refine (bs_any _ S.rev id _ hsl.out hsr.out (by omega)).mono ?_
      rintro e w4 ⟨rfl, hb⟩
      obtain ⟨kk, hkk⟩ : ∃ k, S.rev.countP (fun x => decide (x < id)) = k := ⟨_, rfl⟩
      have hkl : kk ≤ S.rev.length := by rw [← hkk]; exact List.countP_le_length
      rw [hkk] at hq ⊢
      have k2 := Lib.hid (k2.out.below hb)
      have k5 := k5.below hb
      have kb := bel kb hb
      have ho2 := Lib.hid (ho2.out.below hb)
      have hs4 := hb.size
      clear hb x1 hsl hsr hkk
      cases hct : S.rev.contains id with
      | true =>
        have hq2 : Hid (R = (S, 0)) := Lib.hid (by rw [hq.out, if_pos hct])
        clear hq hct
        have hone := Lib.hid (StOk.one ho2.out.ok)
        replace k2 := k2.out
        go_wp2_with (first | (refine wpList_load_arr2 rfl _ _ rfl _ rfl (by decide +kernel) _ (by assumption) (by first | (rw [lims_len]; kernel_rfl) | (rw [el_rep]; kernel_rfl) | (rw [el_len]; kernel_rfl) | (rw [byts_len]; kernel_rfl) | (rw [us_len]; kernel_rfl) | (rw [bytn_len]; kernel_rfl) | (rw [ens_len, digs_len]; kernel_rfl) | kernel_rfl) ?_) | (refine wpl_storeG rfl _ _ _ rfl _ _ rfl rfl _ k2 (by kernel_rfl) rfl hone.out (fun W6 k2 hg hsz => ?_)))
        have ho6 := ho2.out.grown hg (by omega)
        have kb6 := below_gr kb hg (by rw [hG.out]; omega) kb.size
        refine bodyPost_ret (res_st2 Try.results28 _ _ _ rfl (by kernel_rfl) _ k2 (by kernel_rfl) _ rfl) rfl ?_
        rw [hq2.out]
        exact ⟨_, rfl, ho6.mono (show w.heap.size ≤ G + 2 by rw [hG.out]; omega), kb6⟩
      | false =>
        rw [hct] at hq
        clear hct
        have x1 := k5.cell (j := 1) rfl
        simp only at x1
        by_cases h32 : 32 ≤ S.rev.length
        · have iw : (32 : Int) ≤ (S.rev.length : Int) := by omega
          have hq2 : Hid (R = (zeroS, 3)) := Lib.hid (by rw [hq.out, if_neg (by simp), if_pos h32])
          clear hq h32
          replace k2 := k2.out
          go_upto_region 8 with fail
          clear k5 x1
          go_wp2_with (first | (refine wpl_storeG rfl _ _ _ rfl _ _ rfl rfl _ k2 (by kernel_rfl) rfl hzone.out (fun W3 k2 hg hsz => ?_)))
          have kb3 := below_gr kb hg (by rw [hG.out]; omega) kb.size
          refine bodyPost_ret (res_st2 Try.results28 _ _ _ rfl (by kernel_rfl) _ k2 (by kernel_rfl) _ rfl) rfl ?_
          rw [hq2.out]
          exact ⟨nilSv, rfl, zeroS_own _ _, kb3⟩
        · have iw : ¬ (32 : Int) ≤ (S.rev.length : Int) := by omega
          have hq2 : Hid (R = ({ S with rev := insL S.rev kk id }, 0)) := Lib.hid (by rw [hq.out, if_neg (by simp), if_neg h32])
          clear hq h32
          go_wp2_with fail
          have hal := below_alloc w4 (.cells #[.int .i64 id] 3)
          refine (insert_any _ S.rev kk w4.heap.size (G + 2) id _ (own_below ho2.out.rv hal) (Arr.new _ _ _) (fun e => by have := (ho2.out.rv.lt _ e).2; omega) hkl (by omega) (by have := hal.size; omega)).mono ?_
          rintro e w5 ⟨u, rfl, ho5, hg5, hub⟩
          have k2 := k2.out.below hal
          have k5 := k5.below hal
          have kb := bel kb hal
          have ho2 := ho2.out.below hal
          have k2 := Lib.hid (k2.keptO hg5 (fun e => by have := (ho2.rv.lt _ e).1; omega))
          have k5 := k5.keptO hg5 hoff.out.rv
          have kb := below_grO kb hg5 (fun k hk => by rw [hG.out]; have := (ho2.rv.lt _ hk).1; omega) kb.size
          have hm0 := ho2.m0.kept hg5 (own_ne ho2.m0 ho2.rv (by decide))
          have hm1 := ho2.m1.kept hg5 (own_ne ho2.m1 ho2.rv (by decide))
          have hue := own_shape ho5
          obtain ⟨au, cu, rfl⟩ := hue
          have hil := insL_len (x := id) hkl
          have ho5 : Hid (StOwn (G + 2) w5 { S with rev := insL S.rev kk id } ⟨.slice au (S.rev.length + 1) cu, v0, v1⟩) := Lib.hid ⟨by rw [hil]; exact ho5, hm0, hm1⟩
          have hsz5 : G + 2 ≤ w5.heap.size := by have := hg5.size; have := hal.size; omega
          have hof5 : Hid (StOff g5 ⟨.slice au (S.rev.length + 1) cu, v0, v1⟩) := Lib.hid ⟨fun e => by
            rcases hub _ e with h | h
            · exact hoff.out.rv h
            · have := hal.size; omega, hoff.out.m0, hoff.out.m1⟩
          clear hub hal ho2 hm0 hm1 hil hg5
          have hc1 := k5.cell (j := 1) rfl
          have hf1 := k5.frozen 1
          go_upto_region 10 with fail
          refine code_cellG k5 (fun W6 k5 hg hs6 => ?_)
          have k5 : Arr W6 g5 (Stt.cs { S with rev := insL S.rev kk id } ⟨.slice au (S.rev.length + 1) cu, v0, v1⟩) := k5
          have ho5 := Lib.hid (ho5.out.kept hg hof5.out)
          have k2 := k2.out.kept hg (by omega)
          have kb := below_gr kb hg (by rw [hG.out]; omega) kb.size
          have hone := Lib.hid (StOk.one ho5.out.ok)
          clear hg hc1 hf1
          go_wp2_with (first | (refine wpList_load_arr2 rfl _ _ rfl _ rfl (by decide +kernel) _ (by assumption) (by first | (rw [lims_len]; kernel_rfl) | (rw [el_rep]; kernel_rfl) | (rw [el_len]; kernel_rfl) | (rw [byts_len]; kernel_rfl) | (rw [us_len]; kernel_rfl) | (rw [bytn_len]; kernel_rfl) | (rw [ens_len, digs_len]; kernel_rfl) | kernel_rfl) ?_) | (refine wpl_storeG rfl _ _ _ rfl _ _ rfl rfl _ k2 (by kernel_rfl) rfl hone.out (fun W7 k2 hg hsz => ?_)))
          have ho6 := ho5.out.grown hg (by omega)
          have kb6 := below_gr kb hg (by rw [hG.out]; omega) kb.size
          refine bodyPost_ret (res_st2 Try.results28 _ _ _ rfl (by kernel_rfl) _ k2 (by kernel_rfl) _ rfl) rfl ?_
          rw [hq2.out]
          exact ⟨_, rfl, ho6.mono (show w.heap.size ≤ G + 2 by rw [hG.out]; omega), kb6⟩

end Go.Proofs.Ytkipejhjpfakpaa
