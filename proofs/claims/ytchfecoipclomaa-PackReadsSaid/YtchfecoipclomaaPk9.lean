/- The law PackBack: its walk. -/
import Derived.Test.YtchfecoipclomaaPk8
import Derived.Test.YtchfecoipclomaaCu5
namespace Go.Proofs.Ytchfecoipclomaa
open Go.RowKit

theorem cur_lift {w wr w' : World} {g : Nat} (hb : Below w.heap.size w wr) (hg : wr.grownBy w' (some g)) (hs : w.heap.size ≤ g) : Below w.heap.size w w' :=
  hb.grown hg hb.size (fun k hk => by cases hk; exact hs)

set_option maxHeartbeats 4000000 in
set_option maxRecDepth 100000 in
theorem packBack_walk (an : Option Addr) (cn : Nat) (ns : List Int) (al : Option Addr) (cl : Nat) (ls : List (List UInt8)) (w : World) (hn : Sl w (.slice an ns.length cn) (ns.map (.int .i64)))
    (wn : ∀ n ∈ ns, (Lit.int .i64 n).wf = true) (hl : Sls w (.slice al ls.length cl) ls) :
    Calls Try.prog 7 #[.slice an ns.length cn, .slice al ls.length cl] w fun e w' => e = .returned (.bool true) ∧ Below w.heap.size w w' := by
  have hn' := Lib.hid hn
  have hl' := Lib.hid hl
  have wn' := Lib.hid wn
  have ln := hn.len
  have ll := hl.len
  clear hn hl wn
  have b0 : ns.length ≤ 9223372036854775807 := by unfold maxLen at ln; omega
  have b1 : ls.length ≤ 9223372036854775807 := by unfold maxLen at ll; omega
  clear ln ll
  by_cases c0 : 60 < ns.length
  · go_enter Try.func7, Try.ntmps7
    go_wp2_with fail
    refine (alive2 w).mono ?_
    rintro e w1 ⟨rfl, hb1⟩
    have d0 : (60 : Int) < (ns.length : Int) := by omega
    go_wp2
    go_ret
    exact ⟨rfl, hb1⟩
  by_cases c1 : 60 < ls.length
  · go_enter Try.func7, Try.ntmps7
    go_wp2_with fail
    refine (alive2 w).mono ?_
    rintro e w1 ⟨rfl, hb1⟩
    have d0 : ¬ (60 : Int) < (ns.length : Int) := by omega
    have d1 : (60 : Int) < (ls.length : Int) := by omega
    go_wp2
    go_ret
    exact ⟨rfl, hb1⟩
  go_enter Try.func7, Try.ntmps7
  go_wp2_with fail
  refine (alive2 w).mono ?_
  rintro e w1 ⟨rfl, hb1⟩
  have d0 : ¬ (60 : Int) < (ns.length : Int) := by omega
  have d1 : ¬ (60 : Int) < (ls.length : Int) := by omega
  go_wp2
  clear d0 d1
  go_loop [6] (fun kv => ∃ j : Nat, j ≤ ls.length ∧ kv = .int .i64 j ∧ AllLe ls 300 j) (fun kv => ls.length - (intOf kv).toNat)
  case atStart => exact ⟨0, Nat.zero_le _, rfl, fun k _ h => absurd h (by omega)⟩
  case round =>
    obtain ⟨j, hj, rfl, hall⟩ := hrel
    have hall' := Lib.hid hall
    clear hall
    by_cases hlt : j < ls.length
    · obtain ⟨b, o, x, c, rfl, hcell, -⟩ := (hl'.out.below hb1).at hlt
      by_cases hbig : (300 : Int) < (ls[j].length : Int)
      · go_wp2
        go_ret
        exact ⟨rfl, hb1⟩
      · go_wp2
        go_round
        case rel =>
          refine ⟨j + 1, by omega, by go_num, fun k hk hkj => ?_⟩
          by_cases e : k = j
          · subst e; omega
          · exact hall'.out k hk (by omega)
        case measure => simp [intOf]; omega
    · have hj' : j = ls.length := by omega
      subst hj'
      have hT := Lib.hid hall'.out.total
      have hM := Lib.hid hall'.out.mem
      clear hall'
      go_wp2_with fail
      refine (packInt_any _ _ [] ns w1 (Sl.nil _) (hn'.out.below hb1) (by simp only [List.length_nil]; omega)).mono ?_
      rintro e w2 ⟨v2, rfl, hown2, hbel2⟩
      have hb2 := Lib.hid (hb1.trans (hbel2.mono hb1.size))
      have ho2 := Lib.hid hown2
      clear hown2 hbel2 hb1
      go_wp2_with fail
      refine (packBytes_any _ _ ([] ++ be8s ns) ls w2 (Sl.of_own ho2.out) (hl'.out.below hb2.out) (by have := hT.out; simp only [List.nil_append, be8s_len]; omega)).mono ?_
      rintro e w3 ⟨v3, rfl, hown3, hbel3⟩
      have hb3 := Lib.hid (hb2.out.trans (hbel3.mono hb2.out.size))
      have ho3 := Lib.hid hown3
      clear hown3 hbel3 hb2 ho2
      go_wp2_with fail
      refine (packNew_any _ ([] ++ be8s ns ++ txs ls) w3 (Sl.of_own ho3.out) (by have := hT.out; simp only [List.nil_append, List.length_append, be8s_len, txs_len]; omega)).mono ?_
      rintro e w4 ⟨g, rfl, hgs, hcur, hbel4⟩
      have hb4 := Lib.hid (hb3.out.trans (hbel4.mono hb3.out.size))
      have hcur' : Hid (Cur w4 g (be8s ns ++ txs ls) false) := by rw [List.nil_append] at hcur; exact hcur
      have hg : Hid (w.heap.size ≤ g) := Nat.le_trans hb3.out.size hgs
      clear hcur hbel4 hgs hb3 ho3
      go_wp2_with fail
      go_loopw [8] (fun kv wr => ∃ j : Nat, j ≤ ns.length ∧ kv = .int .i64 j ∧ Below w.heap.size w wr ∧ Cur wr g (be8s (ns.drop j) ++ txs ls) false) (fun kv _ => ns.length - (intOf kv).toNat)
      case atStart => exact ⟨0, Nat.zero_le _, rfl, hb4.out, by simpa using hcur'.out⟩
      case round =>
        obtain ⟨j, hj, rfl, hbr, hcr⟩ := hrel
        have hbr' := Lib.hid hbr
        have hcr' := Lib.hid hcr
        clear hbr hcr
        by_cases hlt : j < ns.length
        · obtain ⟨b, o, rfl, -, -, -, hcs⟩ := hn'.out.at (by simp; omega)
          have hcell := hcs j (.int .i64 ns[j]) (by simp [List.getElem?_eq_getElem hlt])
          have hblk := World.block_lt_of_cell? w _ hcell
          clear hcs
          have hcell' := Lib.hid hcell
          clear hcell
          have hj0 : (0 : Int) ≤ (j : Int) := by omega
          have hj1 : (j : Int) < (ns.length : Int) := by omega
          have hi : Hid (intS (be8s (ns.drop j) ++ txs ls) false = (ns[j], be8s (ns.drop (j + 1)) ++ txs ls, false)) := by
            show _ = _
            rw [be8s_drop ns j hlt, List.append_assoc]
            exact intS_ok (bounds_i64 (wn'.out _ (List.getElem_mem hlt))) _
          go_wp2_with fail
          refine Txt.start ((Below w.heap.size w)) 7 rfl (by kernel_rfl) ?_
          refine Txt.seg (A := ?Aa1) 2 61 (by kernel_rfl) (by exact hbr'.out.drew) [0, 2, 3, 4, 5] (by kernel_rfl) ?a1 ?_
          case a1 =>
            intro w' hB
            have s1 : w'.cell? ⟨b, o + j, none⟩ = some (.int .i64 ns[j]) := by rw [hB.cell (p := ⟨b, o + j, none⟩) hblk]; exact hcell'.out
            iterate 5 (first | (refine rd_skip rfl rfl ?_; simp only [Act.put, List.setIfInBounds_toArray, List.set_cons_zero, List.set_cons_succ]) | (refine rd_take (v := ?_) rfl rfl ?_ ?_; rotate_left; (focus (go_simp; try (with_reducible rfl))); simp only [Act.put, List.setIfInBounds_toArray, List.set_cons_zero, List.set_cons_succ]))
            exact rd_nil
          refine Txt.eff 1 63 rfl (by decide +kernel) (fun K hK => ?_)
          go_simp
          refine (int_any g _ false wr.drew (hcr'.out.below (Below.refl _ _).drew) (by have := hT.out; simp only [List.length_append, be8s_len, txs_len, List.length_drop]; omega)).mono ?_
          rw [hi.out]
          rintro e wA ⟨rfl, hgA, hcA⟩
          have hbA := Lib.hid (cur_lift hbr'.out.drew hgA hg.out)
          have hcA' := Lib.hid hcA
          refine hK (Below w.heap.size w) _ _ hbA.out (fun w'' h => h) ?_
          clear hK hgA hcA
          refine Txt.seg (A := ?Aa2) 0 127 (by kernel_rfl) (by exact hbA.out) [6] (by kernel_rfl) ?a2 ?_
          case a2 =>
            intro w' hB
            iterate 1 (first | (refine rd_skip rfl rfl ?_; simp only [Act.put, List.setIfInBounds_toArray, List.set_cons_zero, List.set_cons_succ]) | (refine rd_take (v := ?_) rfl rfl ?_ ?_; rotate_left; (focus (go_simp; try (with_reducible rfl))); simp only [Act.put, List.setIfInBounds_toArray, List.set_cons_zero, List.set_cons_succ]))
            exact rd_nil
          refine Txt.done (by kernel_rfl) ?_
          go_wp2
          go_roundw
          case rel => exact ⟨j + 1, by omega, by go_num, hbA.out, hcA'.out⟩
          case measure => simp [intOf]; omega
        · have hj' : j = ns.length := by omega
          subst hj'
          have hcr2 : Hid (Cur wr g (txs (ls.drop 0)) false) := by show Cur _ _ _ _; have := hcr'.out; simpa [be8s] using this
          clear hcr' hcur' hb4
          go_wp2_with fail
          go_loopw [9] (fun kv wr => ∃ j : Nat, j ≤ ls.length ∧ kv = .int .i64 j ∧ Below w.heap.size w wr ∧ Cur wr g (txs (ls.drop j)) false) (fun kv _ => ls.length - (intOf kv).toNat)
          case atStart => exact ⟨0, Nat.zero_le _, rfl, hbr'.out, hcr2.out⟩
          case round =>
            obtain ⟨j, hj, rfl, hbr, hcr⟩ := hrel
            clear hbr'
            have hbr' := Lib.hid hbr
            have hcr' := Lib.hid hcr
            clear hbr hcr hcr2
            by_cases hlt : j < ls.length
            · obtain ⟨b, o, x, c, rfl, hcell, hsl⟩ := hl'.out.at hlt
              have hblk := World.block_lt_of_cell? w _ hcell
              have hcell' := Lib.hid hcell
              have hsl' := Lib.hid hsl
              clear hcell hsl
              have hj0 : (0 : Int) ≤ (j : Int) := by omega
              have hj1 : (j : Int) < (ls.length : Int) := by omega
              have hi : Hid (bytesS (txs (ls.drop j)) false = (ls[j], txs (ls.drop (j + 1)), false)) := by
                show _ = _
                rw [txs_drop ls j hlt]
                exact bytesS_ok (by have := hM.out _ (List.getElem_mem hlt); omega) _
              go_wp2_with fail
              refine Txt.start ((Below w.heap.size w)) 9 rfl (by kernel_rfl) ?_
              refine Txt.seg (A := ?Ab1) 3 249 (by kernel_rfl) (by exact hbr'.out.drew) [0, 3, 4, 5, 6, 7] (by kernel_rfl) ?b1 ?_
              case b1 =>
                intro w' hB
                have s1 : w'.cell? ⟨b, o + j, none⟩ = some (.slice x ls[j].length c) := by rw [hB.cell (p := ⟨b, o + j, none⟩) hblk]; exact hcell'.out
                have s2 := str (hsl'.out.below hB)
                iterate 6 (first | (refine rd_skip rfl rfl ?_; simp only [Act.put, List.setIfInBounds_toArray, List.set_cons_zero, List.set_cons_succ]) | (refine rd_take (v := ?_) rfl rfl ?_ ?_; rotate_left; (focus (go_simp; try (with_reducible rfl))); simp only [Act.put, List.setIfInBounds_toArray, List.set_cons_zero, List.set_cons_succ]))
                exact rd_nil
              refine Txt.eff 1 251 rfl (by decide +kernel) (fun K hK => ?_)
              go_simp
              refine (bytes_any g _ false wr.drew (hcr'.out.below (Below.refl _ _).drew) (by have := hT.out; simp only [txs_len, List.length_drop]; have h2 : total (ls.drop j) ≤ total ls := total_drop ls j; omega)).mono ?_
              rw [hi.out]
              rintro e wA ⟨vA, rfl, hoA, hgA, hcA⟩
              have hbA := Lib.hid (cur_lift hbr'.out.drew hgA hg.out)
              have hcA' := Lib.hid hcA
              have hsA := Lib.hid (Sl.of_own hoA)
              refine hK (Below wA.heap.size wA) _ _ hbA.out (fun w'' h => hbA.out.trans (h.mono hbA.out.size)) ?_
              clear hK hgA hcA hoA
              refine Txt.seg (A := ?Ab2) 0 511 (by kernel_rfl) (by exact (Below.refl _ _)) [2, 8] (by kernel_rfl) ?b2 ?_
              case b2 =>
                intro w' hB
                have s3 := str (hsA.out.below hB)
                iterate 2 (first | (refine rd_skip rfl rfl ?_; simp only [Act.put, List.setIfInBounds_toArray, List.set_cons_zero, List.set_cons_succ]) | (refine rd_take (v := ?_) rfl rfl ?_ ?_; rotate_left; (focus (go_simp; try (with_reducible rfl))); simp only [Act.put, List.setIfInBounds_toArray, List.set_cons_zero, List.set_cons_succ]))
                exact rd_nil
              refine Txt.done (by kernel_rfl) ?_
              go_wp2
              go_roundw
              case rel => exact ⟨j + 1, by omega, by go_num, hbA.out, hcA'.out⟩
              case measure => simp [intOf]; omega
            · have hj' : j = ls.length := by omega
              subst hj'
              have hcr2 : Hid (Cur wr g [] false) := by show Cur _ _ _ _; have := hcr'.out; simpa [txs] using this
              clear hcr'
              go_wp2_with fail
              refine (end_any g [] false wr hcr2.out).mono ?_
              rintro e wE ⟨rfl, rfl⟩
              rw [show endS [] false = true from rfl]
              go_wp2_with fail
              refine (left_any g [] false wE hcr2.out).mono ?_
              rintro e wF ⟨rfl, rfl⟩
              go_wp2_with fail
              go_ret
              exact ⟨rfl, hbr'.out⟩

end Go.Proofs.Ytchfecoipclomaa
