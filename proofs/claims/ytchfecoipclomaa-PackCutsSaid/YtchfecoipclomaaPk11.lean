/- The law PackCuts: its walk. -/
import Derived.Test.YtchfecoipclomaaPk9
import Derived.Test.YtchfecoipclomaaPk10
namespace Go.Proofs.Ytchfecoipclomaa
open Go.RowKit

theorem Sls.new1 {w : World} {v : Value} {l : List UInt8} (h : Sl w v (u8s l)) (T : TypeId) : Sls (w.alloc (.cells #[v] T)) (.slice (some ⟨w.heap.size, 0, none⟩) 1 1) [l] := by
  refine ⟨[v], Sl.new1 w v T, rfl, fun j a b ha hb => ?_⟩
  cases j with
  | zero => simp at ha hb; subst ha; subst hb; exact h.alloc _
  | succ j => simp at ha

theorem Sl.shape {w : World} {v : Value} {bs : List UInt8} (h : Sl w v (u8s bs)) : ∃ a c, v = .slice a bs.length c ∧ bs.length ≤ c := by
  obtain ⟨a, c, h1, h2, _⟩ := h
  rw [u8s_len] at h1 h2
  exact ⟨a, c, h1, h2⟩

theorem Sl.cut {w : World} {a : Option Addr} {n c k : Nat} {bs : List UInt8} (h : Sl w (.slice a n c) (u8s bs)) (hk : k ≤ bs.length) : Sl w (.slice a k c) (u8s (bs.take k)) := by
  obtain ⟨a', c', h1, h2, h3, h4, h5⟩ := h
  simp only [Value.slice.injEq] at h1
  obtain ⟨rfl, rfl, rfl⟩ := h1
  rw [u8s_len] at h2
  have hl : (bs.take k).length = k := by rw [List.length_take]; omega
  refine ⟨a, c, by rw [u8s_len, hl], by rw [u8s_len, hl]; omega, h3, h4, fun x hx j u hu => h5 x hx j u ?_⟩
  have hj : j < k := by
    have := (List.getElem?_eq_some_iff.1 hu).1
    rwa [u8s_len, hl] at this
  rw [← hu]
  simp [u8s, hj]

set_option maxHeartbeats 4000000 in
set_option maxRecDepth 100000 in
theorem packCuts_walk (an : Option Addr) (cn : Nat) (ns : List Int) (al : Option Addr) (cl : Nat) (ls : List (List UInt8)) (cut : Int) (w : World) (hn : Sl w (.slice an ns.length cn) (ns.map (.int .i64)))
    (wn : ∀ n ∈ ns, (Lit.int .i64 n).wf = true) (hl : Sls w (.slice al ls.length cl) ls) (wc : (Lit.int .i64 cut).wf = true) :
    Calls Try.prog 6 #[.slice an ns.length cn, .slice al ls.length cl, .int .i64 cut] w fun e w' => e = .returned (.bool true) ∧ Below w.heap.size w w' := by
  have hn' := Lib.hid hn
  have hl' := Lib.hid hl
  have wn' := Lib.hid wn
  have ln := hn.len
  have ll := hl.len
  have bc := bounds_i64 wc
  clear hn hl wn wc
  have b0 : ns.length ≤ 9223372036854775807 := by unfold maxLen at ln; omega
  have b1 : ls.length ≤ 9223372036854775807 := by unfold maxLen at ll; omega
  clear ln ll
  by_cases c0 : 40 < ns.length
  · go_enter Try.func6, Try.ntmps6
    go_wp2_with fail
    refine (alive2 w).mono ?_
    rintro e w1 ⟨rfl, hb1⟩
    have d0 : (40 : Int) < (ns.length : Int) := by omega
    go_wp2
    go_ret
    exact ⟨rfl, hb1⟩
  by_cases c1 : 40 < ls.length
  · go_enter Try.func6, Try.ntmps6
    go_wp2_with fail
    refine (alive2 w).mono ?_
    rintro e w1 ⟨rfl, hb1⟩
    have d0 : ¬ (40 : Int) < (ns.length : Int) := by omega
    have d1 : (40 : Int) < (ls.length : Int) := by omega
    go_wp2
    go_ret
    exact ⟨rfl, hb1⟩
  by_cases c2 : cut < 0
  · go_enter Try.func6, Try.ntmps6
    go_wp2_with fail
    refine (alive2 w).mono ?_
    rintro e w1 ⟨rfl, hb1⟩
    have d0 : ¬ (40 : Int) < (ns.length : Int) := by omega
    have d1 : ¬ (40 : Int) < (ls.length : Int) := by omega
    go_wp2
    go_ret
    exact ⟨rfl, hb1⟩
  have c2' : 0 ≤ cut := by omega
  go_enter Try.func6, Try.ntmps6
  go_wp2_with fail
  refine (alive2 w).mono ?_
  rintro e w1 ⟨rfl, hb1⟩
  have d0 : ¬ (40 : Int) < (ns.length : Int) := by omega
  have d1 : ¬ (40 : Int) < (ls.length : Int) := by omega
  go_wp2_with fail
  clear d0 d1
  refine (refInt_any _ _ [] ns w1 (Sl.nil _) (hn'.out.below hb1) (by simp only [List.length_nil]; omega)).mono ?_
  rintro e w2 ⟨v2, rfl, hown2, hbel2⟩
  have hb2 := Lib.hid (hb1.trans (hbel2.mono hb1.size))
  have ho2 : Hid (w2.ownsRow w.heap.size 5 1 v2 (be8s ns ++ txs (ls.take 0)).length (u8s (be8s ns ++ txs (ls.take 0)))) := by
    have := own_mono hown2 hb1.size
    show World.ownsRow _ _ _ _ _ _ _
    simpa [txs] using this
  clear hown2 hbel2 hb1
  go_wp2_with fail
  go_loopw [8, 9] (fun v kv wr => ∃ j : Nat, j ≤ ls.length ∧ kv = .int .i64 j ∧ AllLe ls 300 j ∧ Below w.heap.size w wr ∧ wr.ownsRow w.heap.size 5 1 v (be8s ns ++ txs (ls.take j)).length (u8s (be8s ns ++ txs (ls.take j)))) (fun _ kv _ => ls.length - (intOf kv).toNat)
  case atStart => exact ⟨0, Nat.zero_le _, rfl, fun k _ h => absurd h (by omega), hb2.out, ho2.out⟩
  case round =>
    obtain ⟨j, hj, rfl, hall, hbr, hor⟩ := hrel
    have hall' := Lib.hid hall
    have hbr' := Lib.hid hbr
    have hor' := Lib.hid hor
    clear hall hbr hor hb2 ho2
    by_cases hlt : j < ls.length
    · obtain ⟨b, o, x, c, rfl, hcell, hsl⟩ := (hl'.out.below hbr'.out).at hlt
      have hsl' := Lib.hid hsl
      clear hsl
      by_cases hbig : (300 : Int) < (ls[j].length : Int)
      · go_wp2_with fail
        go_ret
        exact ⟨rfl, hbr'.out⟩
      · have hnext : AllLe ls 300 (j + 1) := fun k hk hkj => by
          by_cases e : k = j
          · subst e; omega
          · exact hall'.out k hk (by omega)
        have hT : total (ls.take j) ≤ 300 * j := by
          have h1 : AllLe (ls.take j) 300 (ls.take j).length := fun k hk _ => by
            have hk' : k < j := by rw [List.length_take] at hk; omega
            rw [List.getElem_take]; exact hall'.out k (by omega) hk'
          have h2 := h1.total
          rw [List.length_take, Nat.min_eq_left (by omega)] at h2
          exact h2
        have hT' := Lib.hid hT
        have hnext' := Lib.hid hnext
        clear hT hnext
        go_wp2_with fail
        refine (refBytes_any _ _ (be8s ns ++ txs (ls.take j)) [ls[j]] _ ((Sl.of_own hor'.out).alloc _) (Sls.new1 hsl'.out _) (by have := hT'.out; simp only [List.length_append, be8s_len, txs_len, List.length_take, List.length_cons, List.length_nil, total, List.map_cons, List.map_nil, List.sum_cons, List.sum_nil] at *; omega)).mono ?_
        rintro e w3 ⟨v3, rfl, hown3, hbel3⟩
        have hb3 : Hid (Below w.heap.size w w3) := (hbr'.out.alloc hbr'.out.size _).trans (hbel3.mono (by have := hbr'.out.size; simp; omega))
        have ho3 : Hid (w3.ownsRow w.heap.size 5 1 v3 (be8s ns ++ txs (ls.take (j + 1))).length (u8s (be8s ns ++ txs (ls.take (j + 1))))) := by
          have h1 := own_mono hown3 (show w.heap.size ≤ _ by have := hbr'.out.size; simp; omega)
          have e : be8s ns ++ txs (ls.take j) ++ txs [ls[j]] = be8s ns ++ txs (ls.take (j + 1)) := by
            rw [txs_at ls j hlt]; simp [txs]
          rw [e] at h1
          exact h1
        clear hown3 hbel3
        go_wp2_with fail
        go_roundw
        case rel => exact ⟨j + 1, by omega, by go_num, hnext'.out, hb3.out, ho3.out⟩
        case measure => simp [intOf]; omega
    · have hj' : j = ls.length := by omega
      subst hj'
      rw [List.take_of_length_le (Nat.le_refl _)] at hor'
      have hM := Lib.hid hall'.out.mem
      have hT := Lib.hid hall'.out.total
      have hBl : Hid ((be8s ns ++ txs ls).length ≤ 20000) := by
        show _ ≤ _
        have := hT.out
        simp only [List.length_append, be8s_len, txs_len]; omega
      clear hall'
      have hoffs := Lib.hid (fun j (h : j < ns.length) => be8s_off ns (txs ls) j h)
      have htoffs := Lib.hid (fun j (h : j < ls.length) => txs_off (be8s ns) ls j h)
      have hBlen : Hid ((be8s ns ++ txs ls).length = 8 * ns.length + (txs ls).length) := by show _ = _; rw [List.length_append, be8s_len]
      generalize be8s ns ++ txs ls = B at hor' hBl hoffs htoffs hBlen
      obtain ⟨ab, cb, rfl, hcb⟩ := (Sl.of_own hor'.out).shape
      obtain ⟨k, hk⟩ : ∃ k : Nat, cut % ((B.length : Int) + 1) = (k : Int) := ⟨(cut % ((B.length : Int) + 1)).toNat, by have := Int.emod_nonneg cut (show ((B.length : Int) + 1) ≠ 0 by omega); omega⟩
      have hkB : k ≤ B.length := by have := Int.emod_lt_of_pos cut (show (0 : Int) < (B.length : Int) + 1 by omega); omega
      have hBl2 : B.length ≤ 20000 := hBl.out
      have hkc : (k : Int) ≤ (cb : Int) := by omega
      have hcut := Lib.hid ((Sl.of_own hor'.out).cut hkB)
      go_wp2_with fail
      simp only [hk]
      refine (packNew_any _ (B.take k) wr hcut.out (by rw [List.length_take]; omega)).mono ?_
      rintro e w4 ⟨g, rfl, hgs, hcur, hbel4⟩
      have hb4 := Lib.hid (hbr'.out.trans (hbel4.mono hbr'.out.size))
      have hg : Hid (w.heap.size ≤ g) := Nat.le_trans hbr'.out.size hgs
      have hcur' : Hid (Cur w4 g (cutS B k (8 * 0)).1 (cutS B k (8 * 0)).2) := by
        show Cur _ _ _ _
        simpa [cutS] using hcur
      have hkl : k ≤ 20000 := by omega
      clear hcur hbel4 hgs hcut hor' hbr' hk hcb hkc
      go_wp2_with fail
      go_loopw [12, 13] (fun av kv wr => ∃ j : Nat, j ≤ ns.length ∧ kv = .int .i64 j ∧ av = .int .i64 ((8 * j : Nat) : Int) ∧ Below w.heap.size w wr ∧ Cur wr g (cutS B k (8 * j)).1 (cutS B k (8 * j)).2) (fun _ kv _ => ns.length - (intOf kv).toNat)
      case atStart => exact ⟨0, Nat.zero_le _, rfl, rfl, hb4.out, hcur'.out⟩
      case round =>
        obtain ⟨j, hj, rfl, rfl, hbr, hcr⟩ := hrel
        have hbr' := Lib.hid hbr
        have hcr' := Lib.hid hcr
        clear hbr hcr hb4 hcur'
        by_cases hlt : j < ns.length
        · obtain ⟨b, o, rfl, -, -, -, hcs⟩ := hn'.out.at (by simp; omega)
          have hcell := hcs j (.int .i64 ns[j]) (by simp [List.getElem?_eq_getElem hlt])
          have hblk := World.block_lt_of_cell? w _ hcell
          clear hcs
          have hcell' := Lib.hid hcell
          clear hcell
          have hj0 : (0 : Int) ≤ (j : Int) := by omega
          have hj1 : (j : Int) < (ns.length : Int) := by omega
          have hi : Hid (intS (cutS B k (8 * j)).1 (cutS B k (8 * j)).2 = (if 8 * j + 8 ≤ k then ns[j] else 0, (cutS B k (8 * (j + 1))).1, (cutS B k (8 * (j + 1))).2)) := by
            show _ = _
            exact cut_int (bounds_i64 (wn'.out _ (List.getElem_mem hlt))) (hoffs.out j hlt)
          have hlen : Hid ((cutS B k (8 * j)).1.length ≤ 140737488355328) := by
            show _ ≤ _
            unfold cutS; split <;> simp; omega
          go_wp2_with fail
          refine (int_any g _ _ wr hcr'.out hlen.out).mono ?_
          rw [hi.out]
          rintro e wA ⟨rfl, hgA, hcA⟩
          have hbA := Lib.hid (cur_lift hbr'.out hgA hg.out)
          have hcA' := Lib.hid hcA
          have hcellA : wA.cell? ⟨b, o + j, none⟩ = some (.int .i64 ns[j]) := by rw [hbA.out.cell (p := ⟨b, o + j, none⟩) hblk]; exact hcell'.out
          clear hgA hcA hi
          by_cases hk8 : 8 * j + 8 ≤ k
          · simp only [if_pos hk8]
            have hk9 : ((8 * j : Nat) : Int) + 8 ≤ (k : Int) := by omega
            go_wp2_with fail
            go_roundw
            case rel => exact ⟨j + 1, by omega, by go_num, by congr 1, hbA.out, hcA'.out⟩
            case measure => simp [intOf]; omega
          · simp only [if_neg hk8]
            have hk9 : ¬ (((8 * j : Nat) : Int) + 8 ≤ (k : Int)) := by omega
            have hbad : Hid (cutS B k (8 * (j + 1)) = ([], true)) := by show _ = _; rw [cutS, if_neg (by omega)]
            have hcB : Hid (Cur wA g [] true) := by show Cur _ _ _ _; have := hcA'.out; rw [hbad.out] at this; exact this
            go_wp2_with (first | (go_at_call 30; refine (bad_any g [] true _ hcB.out).mono ?_; rintro e wB ⟨rfl, rfl⟩) | (go_at_call 28; refine (left_any g [] true _ hcB.out).mono ?_; rintro e wB ⟨rfl, rfl⟩))
            exact ⟨⟨j + 1, by omega, by go_num, by congr 1, hbA.out, hcA'.out⟩, by simp [intOf]; omega⟩
        · have hj' : j = ns.length := by omega
          subst hj'
          have hcr2 : Hid (Cur wr g (cutS B k (8 * ns.length + (txs (ls.take 0)).length)).1 (cutS B k (8 * ns.length + (txs (ls.take 0)).length)).2) := by
            show Cur _ _ _ _
            simpa [txs] using hcr'.out
          clear hcr' hoffs
          go_wp2_with fail
          go_loopw [12, 15] (fun av kv wr => ∃ j : Nat, j ≤ ls.length ∧ kv = .int .i64 j ∧ av = .int .i64 ((8 * ns.length + (txs (ls.take j)).length : Nat) : Int) ∧ Below w.heap.size w wr ∧ Cur wr g (cutS B k (8 * ns.length + (txs (ls.take j)).length)).1 (cutS B k (8 * ns.length + (txs (ls.take j)).length)).2) (fun _ kv _ => ls.length - (intOf kv).toNat)
          case atStart => exact ⟨0, Nat.zero_le _, rfl, by simp [txs], hbr'.out, hcr2.out⟩
          case round =>
            obtain ⟨j, hj, rfl, rfl, hbr, hcr⟩ := hrel
            clear hbr'
            have hbr' := Lib.hid hbr
            have hcr' := Lib.hid hcr
            clear hbr hcr hcr2
            by_cases hlt : j < ls.length
            · obtain ⟨b, o, x, c, rfl, hcell, hsl⟩ := hl'.out.at hlt
              have hblk := World.block_lt_of_cell? w _ hcell
              have hcell' := Lib.hid hcell
              have hsl' := Lib.hid hsl
              clear hcell hsl
              have hj0 : (0 : Int) ≤ (j : Int) := by omega
              have hj1 : (j : Int) < (ls.length : Int) := by omega
              have hl300 : ls[j].length ≤ 300 := hM.out _ (List.getElem_mem hlt)
              have hnx : Hid ((txs (ls.take (j + 1))).length = (txs (ls.take j)).length + 8 + ls[j].length) := by
                show _ = _
                rw [txs_at ls j hlt]; simp only [List.length_append, be8_len]
              have htl : (txs (ls.take j)).length ≤ 20000 := by
                have h1 := hBlen.out
                have h2 := hBl.out
                have h3 : (txs (ls.take j)).length ≤ (txs ls).length := by
                  conv => rhs; rw [← List.take_append_drop j ls]
                  unfold txs
                  rw [List.flatMap_append, List.length_append]
                  omega
                omega
              have hplen : Hid ((be8s ns).length = 8 * ns.length) := be8s_len ns
              have hi : Hid (bytesS (cutS B k (8 * ns.length + (txs (ls.take j)).length)).1 (cutS B k (8 * ns.length + (txs (ls.take j)).length)).2 = (if 8 * ns.length + (txs (ls.take j)).length + 8 + ls[j].length ≤ k then ls[j] else [], (cutS B k (8 * ns.length + (txs (ls.take (j + 1))).length)).1, (cutS B k (8 * ns.length + (txs (ls.take (j + 1))).length)).2)) := by
                show _ = _
                have h1 := htoffs.out j hlt
                rw [hplen.out] at h1
                rw [hnx.out, show 8 * ns.length + ((txs (ls.take j)).length + 8 + ls[j].length) = 8 * ns.length + (txs (ls.take j)).length + 8 + ls[j].length by omega]
                exact cut_bytes (by omega) h1
              have hlen : Hid ((cutS B k (8 * ns.length + (txs (ls.take j)).length)).1.length ≤ 140737488355328) := by
                show _ ≤ _
                unfold cutS; split <;> simp; omega
              generalize hat : (txs (ls.take j)).length = t at *
              clear hat
              go_wp2_with fail
              refine (bytes_any g _ _ wr hcr'.out hlen.out).mono ?_
              rw [hi.out]
              rintro e wA ⟨vA, rfl, hoA, hgA, hcA⟩
              have hbA := Lib.hid (cur_lift hbr'.out hgA hg.out)
              have hcA' := Lib.hid hcA
              have hcellA : wA.cell? ⟨b, o + j, none⟩ = some (.slice x ls[j].length c) := by rw [hbA.out.cell (p := ⟨b, o + j, none⟩) hblk]; exact hcell'.out
              have hsA := Lib.hid (Sl.of_own hoA)
              clear hgA hcA hi hoA
              have hat9 : ((8 * ns.length + t : Nat) : Int) + 8 + (ls[j].length : Int) = ((8 * ns.length + (txs (ls.take (j + 1))).length : Nat) : Int) := by have := hnx.out; omega
              have hat9' := Lib.hid hat9
              clear hat9
              have hB0 : Hid (Below wA.heap.size wA wA.drew) := (Below.refl _ _).drew
              have hbA2 : Hid (Below w.heap.size w wA.drew) := hbA.out.drew
              have hcA2 : Hid (Cur wA.drew g (cutS B k (8 * ns.length + (txs (ls.take (j + 1))).length)).1 (cutS B k (8 * ns.length + (txs (ls.take (j + 1))).length)).2) := hcA'.out.below hB0.out
              by_cases hk8 : 8 * ns.length + t + 8 + ls[j].length ≤ k
              · simp only [if_pos hk8] at hsA ⊢
                have hk9 : decide (8 * (ns.length : Int) + (t : Int) + 8 + (ls[j].length : Int) ≤ (k : Int)) = true := by simp; omega
                have hk10 : decide ((k : Int) < 8 * (ns.length : Int) + (t : Int) + 8 + (ls[j].length : Int)) = false := by simp; omega
                go_wp2_with fail
                refine Txt.start ((Below wA.heap.size wA)) 28 rfl (by kernel_rfl) ?_
                refine Txt.seg (A := ?Ax0) 5 8388607 (by kernel_rfl) (by exact hB0.out) [0, 1, 2, 3, 4, 5, 6, 7, 8, 9, 10, 11, 12, 13, 14, 15, 16, 17, 18, 19, 20, 21, 22] (by kernel_rfl) ?x0 ?_
                case x0 =>
                  intro w' hB
                  have s1 : w'.cell? ⟨b, o + j, none⟩ = some (.slice x ls[j].length c) := by rw [hB.cell (p := ⟨b, o + j, none⟩) (Nat.lt_of_lt_of_le hblk hbA.out.size)]; exact hcellA
                  have s2 := str (hsA.out.below hB)
                  have s3 := str (hsl'.out.below (hbA.out.trans (hB.mono hbA.out.size)))
                  iterate 23 (first | (refine rd_skip rfl rfl ?_; simp only [Act.put, List.setIfInBounds_toArray, List.set_cons_zero, List.set_cons_succ]) | (refine rd_take (v := ?_) rfl rfl ?_ ?_; rotate_left; (focus (go_simp; try (with_reducible rfl))); simp only [Act.put, List.setIfInBounds_toArray, List.set_cons_zero, List.set_cons_succ]))
                  exact rd_nil
                refine Txt.eff 23 16777215 rfl (by decide +kernel) (fun K hK => ?_)
                go_simp
                refine hK (Below wA.heap.size wA) _ _ hB0.out (fun w'' h => h) ?_
                clear hK
                refine Txt.seg (A := ?Ax1) 0 268435455 (by kernel_rfl) (by exact hB0.out) [24, 25, 26, 27] (by kernel_rfl) ?x1 ?_
                case x1 =>
                  intro w' hB
                  iterate 4 (first | (refine rd_skip rfl rfl ?_; simp only [Act.put, List.setIfInBounds_toArray, List.set_cons_zero, List.set_cons_succ]) | (refine rd_take (v := ?_) rfl rfl ?_ ?_; rotate_left; (focus (go_simp; try (with_reducible rfl))); simp only [Act.put, List.setIfInBounds_toArray, List.set_cons_zero, List.set_cons_succ]))
                  exact rd_nil
                refine Txt.done (by kernel_rfl) ?_
                go_wp2
                go_roundw
                case rel => exact ⟨j + 1, by omega, by go_num, by rw [← hat9'.out]; congr 1, hbA2.out, hcA2.out⟩
                case measure => simp [intOf]; omega
              · simp only [if_neg hk8] at hsA ⊢
                have hk9 : decide (8 * (ns.length : Int) + (t : Int) + 8 + (ls[j].length : Int) ≤ (k : Int)) = false := by simp; omega
                have hk10 : decide ((k : Int) < 8 * (ns.length : Int) + (t : Int) + 8 + (ls[j].length : Int)) = true := by simp; omega
                have hbad : Hid (cutS B k (8 * ns.length + (txs (ls.take (j + 1))).length) = ([], true)) := by show _ = _; have := hnx.out; rw [cutS, if_neg (by omega)]
                have hcB : Hid (Cur wA.drew g [] true) := by show Cur _ _ _ _; have := hcA2.out; rw [hbad.out] at this; exact this
                obtain ⟨av, cv, rfl, -⟩ := hsA.out.shape
                go_wp2_with fail
                refine Txt.start ((Below wA.heap.size wA)) 28 rfl (by kernel_rfl) ?_
                refine Txt.seg (A := ?Ay0) 5 8388607 (by kernel_rfl) (by exact hB0.out) [0, 1, 2, 3, 4, 5, 6, 7, 8, 9, 10, 11, 12, 13, 14, 15, 16, 17, 18, 19, 20, 21, 22] (by kernel_rfl) ?y0 ?_
                case y0 =>
                  intro w' hB
                  iterate 23 (first | (refine rd_skip rfl rfl ?_; simp only [Act.put, List.setIfInBounds_toArray, List.set_cons_zero, List.set_cons_succ]) | (refine rd_take (v := ?_) rfl rfl ?_ ?_; rotate_left; (focus (go_simp; try (with_reducible rfl))); simp only [Act.put, List.setIfInBounds_toArray, List.set_cons_zero, List.set_cons_succ]))
                  exact rd_nil
                refine Txt.eff 23 16777215 rfl (by decide +kernel) (fun K hK => ?_)
                go_simp
                refine (bad_any g [] true _ hcB.out).mono ?_
                rintro e wB ⟨rfl, rfl⟩
                refine hK (Below wA.heap.size wA) _ _ hB0.out (fun w'' h => h) ?_
                clear hK
                refine Txt.seg (A := ?Ay1) 0 268435455 (by kernel_rfl) (by exact hB0.out) [24, 25, 26, 27] (by kernel_rfl) ?y1 ?_
                case y1 =>
                  intro w' hB
                  iterate 4 (first | (refine rd_skip rfl rfl ?_; simp only [Act.put, List.setIfInBounds_toArray, List.set_cons_zero, List.set_cons_succ]) | (refine rd_take (v := ?_) rfl rfl ?_ ?_; rotate_left; (focus (go_simp; try (with_reducible rfl))); simp only [Act.put, List.setIfInBounds_toArray, List.set_cons_zero, List.set_cons_succ]))
                  exact rd_nil
                refine Txt.done (by kernel_rfl) ?_
                go_wp2
                go_roundw
                case rel => exact ⟨j + 1, by omega, by go_num, by rw [← hat9'.out]; congr 1, hbA2.out, hcA2.out⟩
                case measure => simp [intOf]; omega
            · have hj' : j = ls.length := by omega
              subst hj'
              rw [List.take_of_length_le (Nat.le_refl _)] at hcr'
              rw [← hBlen.out] at hcr'
              by_cases hkk : k = B.length
              · have hcE : Hid (Cur wr g [] false) := by
                  show Cur _ _ _ _
                  have := hcr'.out
                  rw [cutS, if_pos (by omega)] at this
                  simpa [hkk] using this
                have hk1 : ((k : Int) == (B.length : Int)) = true := by simp; omega
                have hk2 : ¬ ((k : Int) < (B.length : Int)) := by omega
                clear hkk
                go_wp2_with (first | (go_at_call 31; refine (end_any g [] false _ hcE.out).mono ?_; rw [show endS [] false = true from rfl]; rintro e wB ⟨rfl, rfl⟩) | (go_at_call 30; refine (bad_any g [] false _ hcE.out).mono ?_; rintro e wB ⟨rfl, rfl⟩))
                go_ret
                exact ⟨by simp; omega, hbr'.out⟩
              · have hcE : Hid (Cur wr g [] true) := by
                  show Cur _ _ _ _
                  have := hcr'.out
                  rwa [cutS, if_neg (by omega)] at this
                have hk1 : ((k : Int) == (B.length : Int)) = false := by simp; omega
                have hk2 : ((k : Int) < (B.length : Int)) := by omega
                clear hkk
                go_wp2_with (first | (go_at_call 31; refine (end_any g [] true _ hcE.out).mono ?_; rw [show endS [] true = false from rfl]; rintro e wB ⟨rfl, rfl⟩) | (go_at_call 30; refine (bad_any g [] true _ hcE.out).mono ?_; rintro e wB ⟨rfl, rfl⟩))
                go_ret
                exact ⟨rfl, hbr'.out⟩

end Go.Proofs.Ytchfecoipclomaa
