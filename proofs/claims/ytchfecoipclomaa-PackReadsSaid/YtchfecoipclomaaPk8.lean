/- The law PackApart: its walk. -/
import Derived.Test.YtchfecoipclomaaPk6
import Derived.Test.YtchfecoipclomaaPk7
import Derived.OpenShut
namespace Go.Proofs.Ytchfecoipclomaa
open Go.RowKit

/-- Are two rows alike, as far as j? -/
def smB {α : Type} [DecidableEq α] (ls ms : List α) (j : Nat) : Bool := decide (ls.length = ms.length) && decide (ls.take j = ms.take j)

theorem smB_zero {α : Type} [DecidableEq α] (ls ms : List α) : smB ls ms 0 = decide (ls.length = ms.length) := by simp [smB]

theorem smB_len {α : Type} [DecidableEq α] {ls ms : List α} {j : Nat} (h : smB ls ms j = true) : ls.length = ms.length := by
  simp [smB] at h; exact h.1

theorem smB_step_f {α : Type} [DecidableEq α] {ls ms : List α} {j : Nat} (h : smB ls ms j = false) : smB ls ms (j + 1) = false := by
  simp only [smB, Bool.and_eq_false_iff, decide_eq_false_iff_not] at h ⊢
  rcases h with h | h
  · exact .inl h
  · refine .inr fun e => h ?_
    have := congrArg (List.take j) e
    rwa [List.take_take, List.take_take, Nat.min_eq_left (by omega)] at this

theorem smB_step_t {α : Type} [DecidableEq α] {ls ms : List α} {j : Nat} (h : smB ls ms j = true) (hj : j < ls.length) (hj' : j < ms.length) : smB ls ms (j + 1) = decide (ls[j] = ms[j]) := by
  simp only [smB, Bool.and_eq_true, decide_eq_true_eq] at h ⊢
  obtain ⟨h1, h2⟩ := h
  simp only [h1, decide_true, Bool.true_and]
  congr 1
  rw [List.take_add_one, List.take_add_one, List.getElem?_eq_getElem hj, List.getElem?_eq_getElem hj', h2]
  apply propext
  constructor
  · intro e
    have := (List.append_inj_right e (by simp))
    simpa using this
  · intro e; rw [e]

theorem smB_all {α : Type} [DecidableEq α] {ls ms : List α} : smB ls ms ls.length = decide (ls = ms) := by
  simp only [smB]
  by_cases h : ls = ms
  · subst h; simp
  · by_cases hl : ls.length = ms.length
    · simp only [hl, List.take_of_length_le (Nat.le_of_eq hl), List.take_of_length_le (Nat.le_refl ms.length), h]
      simp
    · simp [hl, h]

theorem AllLe.mem {ls : List (List UInt8)} {m : Nat} (h : AllLe ls m ls.length) : ∀ l ∈ ls, l.length ≤ m := by
  intro l hl
  obtain ⟨k, hk, rfl⟩ := List.getElem_of_mem hl
  exact h k hk hk

theorem beq_str {a b : List UInt8} : (a == b) = decide (a = b) := by
  by_cases h : a = b <;> simp [h]

set_option maxHeartbeats 4000000 in
set_option maxRecDepth 100000 in
theorem packApart_walk (aa : Option Addr) (ca : Nat) (ls : List (List UInt8)) (ab : Option Addr) (cb : Nat) (ms : List (List UInt8)) (am : Option Addr) (cm : Nat) (xs : List Int) (an : Option Addr) (cn : Nat) (ys : List Int) (w : World)
    (ha : Sls w (.slice aa ls.length ca) ls) (hb : Sls w (.slice ab ms.length cb) ms) (hm : Sl w (.slice am xs.length cm) (xs.map (.int .i64))) (wm : ∀ n ∈ xs, (Lit.int .i64 n).wf = true)
    (hn : Sl w (.slice an ys.length cn) (ys.map (.int .i64))) (wn : ∀ n ∈ ys, (Lit.int .i64 n).wf = true) :
    Calls Try.prog 4 #[.slice aa ls.length ca, .slice ab ms.length cb, .slice am xs.length cm, .slice an ys.length cn] w fun e w' => e = .returned (.bool true) ∧ Below w.heap.size w w' := by
  have ha' := Lib.hid ha
  have hb' := Lib.hid hb
  have hm' := Lib.hid hm
  have hn' := Lib.hid hn
  have wm' := Lib.hid wm
  have wn' := Lib.hid wn
  have la := ha.len
  have lb := hb.len
  have lm := hm.len
  have ln := hn.len
  clear ha hb hm hn wm wn
  have b0 : ls.length ≤ 9223372036854775807 := by unfold maxLen at la; omega
  have b1 : ms.length ≤ 9223372036854775807 := by unfold maxLen at lb; omega
  have b2 : xs.length ≤ 9223372036854775807 := by unfold maxLen at lm; omega
  have b3 : ys.length ≤ 9223372036854775807 := by unfold maxLen at ln; omega
  clear la lb lm ln
  by_cases c0 : 30 < ls.length
  · go_enter Try.func4, Try.ntmps4
    go_wp2_with fail
    refine (alive2 w).mono ?_
    rintro e w1 ⟨rfl, hb1⟩
    have d0 : (30 : Int) < (ls.length : Int) := by omega
    go_wp2
    go_ret
    exact ⟨rfl, hb1⟩
  by_cases c1 : 30 < ms.length
  · go_enter Try.func4, Try.ntmps4
    go_wp2_with fail
    refine (alive2 w).mono ?_
    rintro e w1 ⟨rfl, hb1⟩
    have d0 : ¬ (30 : Int) < (ls.length : Int) := by omega
    have d1 : (30 : Int) < (ms.length : Int) := by omega
    go_wp2
    go_ret
    exact ⟨rfl, hb1⟩
  by_cases c2 : 60 < xs.length
  · go_enter Try.func4, Try.ntmps4
    go_wp2_with fail
    refine (alive2 w).mono ?_
    rintro e w1 ⟨rfl, hb1⟩
    have d0 : ¬ (30 : Int) < (ls.length : Int) := by omega
    have d1 : ¬ (30 : Int) < (ms.length : Int) := by omega
    have d2 : (60 : Int) < (xs.length : Int) := by omega
    go_wp2
    go_ret
    exact ⟨rfl, hb1⟩
  by_cases c3 : 60 < ys.length
  · go_enter Try.func4, Try.ntmps4
    go_wp2_with fail
    refine (alive2 w).mono ?_
    rintro e w1 ⟨rfl, hb1⟩
    have d0 : ¬ (30 : Int) < (ls.length : Int) := by omega
    have d1 : ¬ (30 : Int) < (ms.length : Int) := by omega
    have d2 : ¬ (60 : Int) < (xs.length : Int) := by omega
    have d3 : (60 : Int) < (ys.length : Int) := by omega
    go_wp2
    go_ret
    exact ⟨rfl, hb1⟩
  go_enter Try.func4, Try.ntmps4
  go_wp2_with fail
  refine (alive2 w).mono ?_
  rintro e w1 ⟨rfl, hb1⟩
  have d0 : ¬ (30 : Int) < (ls.length : Int) := by omega
  have d1 : ¬ (30 : Int) < (ms.length : Int) := by omega
  have d2 : ¬ (60 : Int) < (xs.length : Int) := by omega
  have d3 : ¬ (60 : Int) < (ys.length : Int) := by omega
  go_wp2
  clear d0 d1 d2 d3
  go_loopw [10, 11] (fun sv kv wr => ∃ j : Nat, j ≤ ls.length ∧ kv = .int .i64 j ∧ sv = .bool (smB ls ms j) ∧ AllLe ls 300 j ∧ Below w.heap.size w wr) (fun _ kv _ => ls.length - (intOf kv).toNat)
  case atStart => exact ⟨0, Nat.zero_le _, rfl, by rw [smB_zero]; congr 1; rw [Bool.eq_iff_iff]; simp; omega, fun k _ h => absurd h (by omega), hb1⟩
  case round =>
    obtain ⟨j, hj, rfl, rfl, hall, hbr⟩ := hrel
    have hall' := Lib.hid hall
    have hbr' := Lib.hid hbr
    clear hall hbr hb1
    by_cases hlt : j < ls.length
    · obtain ⟨b, o, x, c, rfl, hcell, hsl⟩ := (ha'.out.below hbr'.out).at hlt
      have hsl' := Lib.hid hsl
      clear hsl
      by_cases hbig : (300 : Int) < (ls[j].length : Int)
      · go_wp2
        go_ret
        exact ⟨rfl, hbr'.out⟩
      · have hj0 : (0 : Int) ≤ (j : Int) := by omega
        have hj1 : (j : Int) < (ls.length : Int) := by omega
        have hnext : Hid (AllLe ls 300 (j + 1)) := fun k hk hkj => by
          by_cases e : k = j
          · subst e; omega
          · exact hall'.out k hk (by omega)
        have hdr : Hid (Below w.heap.size w wr.drew) := hbr'.out.drew
        cases hsm : smB ls ms j with
        | false =>
          have hs1 := Lib.hid (smB_step_f hsm)
          clear hsm
          go_wp2_with fail
          refine Txt.start ((fun w' => w' = wr.drew)) 15 rfl (by kernel_rfl) ?_
          refine Txt.seg (A := ?As1) 0 32767 (by kernel_rfl) (by exact rfl) [0, 1, 2, 3, 4, 5, 6, 7, 8, 9, 10, 11, 12, 13, 14] (by kernel_rfl) ?s1 ?_
          case s1 =>
            intro w' hB
            subst hB
            iterate 15 (first | (refine rd_skip rfl rfl ?_; simp only [Act.put, List.setIfInBounds_toArray, List.set_cons_zero, List.set_cons_succ]) | (refine rd_take (v := ?_) rfl rfl ?_ ?_; rotate_left; (focus (go_simp; try (with_reducible rfl))); simp only [Act.put, List.setIfInBounds_toArray, List.set_cons_zero, List.set_cons_succ]))
            exact rd_nil
          refine Txt.done (by kernel_rfl) ?_
          go_wp2
          go_roundw
          case rel => exact ⟨j + 1, by omega, by go_num, by rw [hs1.out], hnext.out, hdr.out⟩
          case measure => simp [intOf]; omega
        | true =>
          have hl2 := smB_len hsm
          have hlt2 : j < ms.length := by omega
          have hs1 := Lib.hid (smB_step_t hsm hlt hlt2)
          clear hsm
          obtain ⟨b', o', x', c', rfl, hcell', hsl2⟩ := (hb'.out.below hbr'.out).at hlt2
          have hj2 : (j : Int) < (ms.length : Int) := by omega
          have hc1 := str (w := wr.drew) hsl'.out
          have hc2 := str (w := wr.drew) hsl2
          have hl2' := Lib.hid hl2
          clear hsl2 hl2
          go_wp2_with fail
          refine Txt.start ((fun w' => w' = wr.drew)) 15 rfl (by kernel_rfl) ?_
          refine Txt.seg (A := ?As2) 0 32767 (by kernel_rfl) (by exact rfl) [0, 1, 2, 3, 4, 5, 6, 7, 8, 9, 10, 11, 12, 13, 14] (by kernel_rfl) ?s2 ?_
          case s2 =>
            intro w' hB
            subst hB
            iterate 15 (first | (refine rd_skip rfl rfl ?_; simp only [Act.put, List.setIfInBounds_toArray, List.set_cons_zero, List.set_cons_succ]) | (refine rd_take (v := ?_) rfl rfl ?_ ?_; rotate_left; (focus (go_simp; try (with_reducible rfl))); simp only [Act.put, List.setIfInBounds_toArray, List.set_cons_zero, List.set_cons_succ]))
            exact rd_nil
          refine Txt.done (by kernel_rfl) ?_
          go_wp2
          go_roundw
          case rel => exact ⟨j + 1, by omega, by go_num, by rw [hs1.out]; simp [beq_str], hnext.out, hdr.out⟩
          case measure => simp [intOf]; omega
    · have hj' : j = ls.length := by omega
      subst hj'
      rw [smB_all]
      have hS1 : Hid ((txs ls == txs ms) = decide (ls = ms) ∨ ¬ AllLe ms 300 ms.length) := by
        by_cases h : AllLe ms 300 ms.length
        · left
          rw [beq_str]
          by_cases e : ls = ms
          · rw [e]; simp
          · rw [decide_eq_false e, decide_eq_false]
            intro e2
            exact e (txs_inj (fun l hl => Nat.le_trans (hall'.out.mem l hl) (by decide)) (fun l hl => Nat.le_trans (h.mem l hl) (by decide)) e2)
        · exact .inr h
      have hT := Lib.hid hall'.out.total
      clear hall'
      generalize hd1 : decide (ls = ms) = s1 at *
      clear hd1
      go_wp2_with fail
      go_loop [12] (fun kv => ∃ j : Nat, j ≤ ms.length ∧ kv = .int .i64 j ∧ AllLe ms 300 j) (fun kv => ms.length - (intOf kv).toNat)
      case atStart => exact ⟨0, Nat.zero_le _, rfl, fun k _ h => absurd h (by omega)⟩
      case round =>
        obtain ⟨j, hj, rfl, hall⟩ := hrel
        have hall' := Lib.hid hall
        clear hall
        by_cases hlt : j < ms.length
        · obtain ⟨b, o, x, c, rfl, hcell, -⟩ := (hb'.out.below hbr'.out).at hlt
          by_cases hbig : (300 : Int) < (ms[j].length : Int)
          · go_wp2
            go_ret
            exact ⟨rfl, hbr'.out⟩
          · go_wp2
            go_round
            case rel =>
              refine ⟨j + 1, by omega, by go_num, fun k hk hkj => ?_⟩
              by_cases e : k = j
              · subst e; omega
              · exact hall'.out k hk (by omega)
            case measure => simp [intOf]; omega
        · have hj' : j = ms.length := by omega
          subst hj'
          have hS2 : Hid ((txs ls == txs ms) = s1) := hS1.out.resolve_right (fun h => h hall'.out)
          have hT2 := Lib.hid hall'.out.total
          clear hall' hS1
          go_wp2_with fail
          go_loopw [13, 14] (fun sv kv wr => ∃ j : Nat, j ≤ xs.length ∧ kv = .int .i64 j ∧ sv = .bool (smB xs ys j) ∧ Below w.heap.size w wr) (fun _ kv _ => xs.length - (intOf kv).toNat)
          case atStart => exact ⟨0, Nat.zero_le _, rfl, by rw [smB_zero]; congr 1; rw [Bool.eq_iff_iff]; simp; omega, hbr'.out⟩
          case round =>
            obtain ⟨j, hj, rfl, rfl, hbr⟩ := hrel
            clear hbr'
            have hbr' := Lib.hid hbr
            clear hbr
            by_cases hlt : j < xs.length
            · obtain ⟨b, o, rfl, -, -, -, hcs⟩ := (hm'.out.below hbr'.out).at (by simp; omega)
              have hcell := hcs j (.int .i64 xs[j]) (by simp [List.getElem?_eq_getElem hlt])
              clear hcs
              have hj0 : (0 : Int) ≤ (j : Int) := by omega
              have hj1 : (j : Int) < (xs.length : Int) := by omega
              have hdr : Hid (Below w.heap.size w wr.drew) := hbr'.out.drew
              cases hsm : smB xs ys j with
              | false =>
                have hs1 := Lib.hid (smB_step_f hsm)
                clear hsm
                go_wp2_with fail
                refine Txt.start ((fun w' => w' = wr.drew)) 13 rfl (by kernel_rfl) ?_
                refine Txt.seg (A := ?As3) 0 8191 (by kernel_rfl) (by exact rfl) [0, 1, 2, 3, 4, 5, 6, 7, 8, 9, 10, 11, 12] (by kernel_rfl) ?s3 ?_
                case s3 =>
                  intro w' hB
                  subst hB
                  iterate 13 (first | (refine rd_skip rfl rfl ?_; simp only [Act.put, List.setIfInBounds_toArray, List.set_cons_zero, List.set_cons_succ]) | (refine rd_take (v := ?_) rfl rfl ?_ ?_; rotate_left; (focus (go_simp; try (with_reducible rfl))); simp only [Act.put, List.setIfInBounds_toArray, List.set_cons_zero, List.set_cons_succ]))
                  exact rd_nil
                refine Txt.done (by kernel_rfl) ?_
                go_wp2
                go_roundw
                case rel => exact ⟨j + 1, by omega, by go_num, by rw [hs1.out], hdr.out⟩
                case measure => simp [intOf]; omega
              | true =>
                have hl2 := smB_len hsm
                have hlt2 : j < ys.length := by omega
                have hs1 := Lib.hid (smB_step_t hsm hlt hlt2)
                clear hsm
                obtain ⟨b', o', rfl, -, -, -, hcs'⟩ := (hn'.out.below hbr'.out).at (by simp; omega)
                have hcell' := hcs' j (.int .i64 ys[j]) (by simp [List.getElem?_eq_getElem hlt2])
                clear hcs'
                have hj2 : (j : Int) < (ys.length : Int) := by omega
                have hl2' := Lib.hid hl2
                clear hl2
                go_wp2_with fail
                refine Txt.start ((fun w' => w' = wr.drew)) 13 rfl (by kernel_rfl) ?_
                refine Txt.seg (A := ?As4) 0 8191 (by kernel_rfl) (by exact rfl) [0, 1, 2, 3, 4, 5, 6, 7, 8, 9, 10, 11, 12] (by kernel_rfl) ?s4 ?_
                case s4 =>
                  intro w' hB
                  subst hB
                  iterate 13 (first | (refine rd_skip rfl rfl ?_; simp only [Act.put, List.setIfInBounds_toArray, List.set_cons_zero, List.set_cons_succ]) | (refine rd_take (v := ?_) rfl rfl ?_ ?_; rotate_left; (focus (go_simp; try (with_reducible rfl))); simp only [Act.put, List.setIfInBounds_toArray, List.set_cons_zero, List.set_cons_succ]))
                  exact rd_nil
                refine Txt.done (by kernel_rfl) ?_
                go_wp2
                go_roundw
                case rel => exact ⟨j + 1, by omega, by go_num, by rw [hs1.out]; congr 1, hdr.out⟩
                case measure => simp [intOf]; omega
            · have hj' : j = xs.length := by omega
              subst hj'
              rw [smB_all]
              have hS3 : Hid ((be8s xs == be8s ys) = decide (xs = ys)) := by
                show _ = _
                rw [beq_str]
                by_cases e : xs = ys
                · rw [e]; simp
                · rw [decide_eq_false e, decide_eq_false]
                  intro e2
                  exact e (be8s_inj (fun n hn => bounds_i64 (wm'.out n hn)) (fun n hn => bounds_i64 (wn'.out n hn)) e2)
              generalize hd1 : decide (xs = ys) = s2 at *
              clear hd1
              have ha1 := Lib.hid (ha'.out.below hbr'.out)
              have hb1 := Lib.hid (hb'.out.below hbr'.out)
              have hm1 := Lib.hid (hm'.out.below hbr'.out)
              have hn1 := Lib.hid (hn'.out.below hbr'.out)
              have hB0 : Hid (Below wr.heap.size wr wr.drew) := (Below.refl _ _).drew
              go_wp2_with fail
              refine Txt.start ((Below wr.heap.size wr)) 21 rfl (by kernel_rfl) ?_
              refine Txt.seg (A := ?At1) 18 137 (by kernel_rfl) (by exact hB0.out) [0, 3, 7] (by kernel_rfl) ?t1 ?_
              case t1 =>
                intro w' hB
                iterate 3 (first | (refine rd_skip rfl rfl ?_; simp only [Act.put, List.setIfInBounds_toArray, List.set_cons_zero, List.set_cons_succ]) | (refine rd_take (v := ?_) rfl rfl ?_ ?_; rotate_left; (focus (go_simp; try (with_reducible rfl))); simp only [Act.put, List.setIfInBounds_toArray, List.set_cons_zero, List.set_cons_succ]))
                exact rd_nil
              refine Txt.eff 1 139 rfl (by decide +kernel) (fun K hK => ?_)
              go_simp
              refine (packBytes_any _ _ [] ls wr.drew (Sl.nil _) ha1.out (by have := hT.out; simp only [List.length_nil]; omega)).mono ?_
              rintro e wA ⟨vA, rfl, hownA, hbA⟩
              have hB1 : Hid (Below wr.heap.size wr wA) := hB0.out.trans hbA
              have hA := Lib.hid (Sl.of_own hownA)
              refine hK (Below wA.heap.size wA) _ _ hB1.out (fun w'' h => hB1.out.trans (h.mono hB1.out.size)) ?_
              clear hK hownA hbA
              try simp only [Act.put, List.setIfInBounds_toArray, List.set_cons_zero, List.set_cons_succ]
              refine Txt.seg (A := ?At2) 16 143 (by kernel_rfl) (by exact (Below.refl _ _)) [2] (by kernel_rfl) ?t2 ?_
              case t2 =>
                intro w' hB
                have s5 := str (hA.out.below hB)
                iterate 1 (first | (refine rd_skip rfl rfl ?_; simp only [Act.put, List.setIfInBounds_toArray, List.set_cons_zero, List.set_cons_succ]) | (refine rd_take (v := ?_) rfl rfl ?_ ?_; rotate_left; (focus (go_simp; try (with_reducible rfl))); simp only [Act.put, List.setIfInBounds_toArray, List.set_cons_zero, List.set_cons_succ]))
                exact rd_nil
              refine Txt.eff 4 159 rfl (by decide +kernel) (fun K hK => ?_)
              go_simp
              refine (packBytes_any _ _ [] ms _ (Sl.nil _) (hb1.out.below hB1.out) (by have := hT2.out; simp only [List.length_nil]; omega)).mono ?_
              rintro e wB ⟨vB, rfl, hownB, hbB⟩
              have hB2 : Hid (Below wr.heap.size wr wB) := hB1.out.trans (hbB.mono hB1.out.size)
              have hB' := Lib.hid (Sl.of_own hownB)
              refine hK (Below wB.heap.size wB) _ _ hbB (fun w'' h => hbB.trans (h.mono hbB.size)) ?_
              clear hK hownB hbB
              try simp only [Act.put, List.setIfInBounds_toArray, List.set_cons_zero, List.set_cons_succ]
              refine Txt.seg (A := ?At3) 8 141311 (by kernel_rfl) (by exact (Below.refl _ _)) [5, 6, 8, 9, 10, 13, 17] (by kernel_rfl) ?t3 ?_
              case t3 =>
                intro w' hB
                have s5 := str (hB'.out.below hB)
                have s6 := hS2.out
                iterate 7 (first | (refine rd_skip rfl rfl ?_; simp only [Act.put, List.setIfInBounds_toArray, List.set_cons_zero, List.set_cons_succ]) | (refine rd_take (v := ?_) rfl rfl ?_ ?_; rotate_left; (focus (go_simp; try (with_reducible rfl))); simp only [Act.put, List.setIfInBounds_toArray, List.set_cons_zero, List.set_cons_succ]))
                exact rd_nil
              refine Txt.eff 11 143359 rfl (by decide +kernel) (fun K hK => ?_)
              go_simp
              refine (packInt_any _ _ [] xs _ (Sl.nil _) (hm1.out.below hB2.out) (by simp only [List.length_nil]; omega)).mono ?_
              rintro e wC ⟨vC, rfl, hownC, hbC⟩
              have hB3 : Hid (Below wr.heap.size wr wC) := hB2.out.trans (hbC.mono hB2.out.size)
              have hC' := Lib.hid (Sl.of_own hownC)
              refine hK (Below wC.heap.size wC) _ _ hbC (fun w'' h => hbC.trans (h.mono hbC.size)) ?_
              clear hK hownC hbC
              try simp only [Act.put, List.setIfInBounds_toArray, List.set_cons_zero, List.set_cons_succ]
              refine Txt.seg (A := ?At4) 6 147455 (by kernel_rfl) (by exact (Below.refl _ _)) [12] (by kernel_rfl) ?t4 ?_
              case t4 =>
                intro w' hB
                have s5 := str (hC'.out.below hB)
                iterate 1 (first | (refine rd_skip rfl rfl ?_; simp only [Act.put, List.setIfInBounds_toArray, List.set_cons_zero, List.set_cons_succ]) | (refine rd_take (v := ?_) rfl rfl ?_ ?_; rotate_left; (focus (go_simp; try (with_reducible rfl))); simp only [Act.put, List.setIfInBounds_toArray, List.set_cons_zero, List.set_cons_succ]))
                exact rd_nil
              refine Txt.eff 14 163839 rfl (by decide +kernel) (fun K hK => ?_)
              go_simp
              refine (packInt_any _ _ [] ys _ (Sl.nil _) (hn1.out.below hB3.out) (by simp only [List.length_nil]; omega)).mono ?_
              rintro e wD ⟨vD, rfl, hownD, hbD⟩
              have hB4 : Hid (Below wr.heap.size wr wD) := hB3.out.trans (hbD.mono hB3.out.size)
              have hD' := Lib.hid (Sl.of_own hownD)
              refine hK (Below wD.heap.size wD) _ _ hbD (fun w'' h => hbD.trans (h.mono hbD.size)) ?_
              clear hK hownD hbD
              try simp only [Act.put, List.setIfInBounds_toArray, List.set_cons_zero, List.set_cons_succ]
              refine Txt.seg (A := ?At5) 0 2097151 (by kernel_rfl) (by exact (Below.refl _ _)) [15, 16, 18, 19, 20] (by kernel_rfl) ?t5 ?_
              case t5 =>
                intro w' hB
                have s5 := str (hD'.out.below hB)
                have s6 := hS3.out
                iterate 5 (first | (refine rd_skip rfl rfl ?_; simp only [Act.put, List.setIfInBounds_toArray, List.set_cons_zero, List.set_cons_succ]) | (refine rd_take (v := ?_) rfl rfl ?_ ?_; rotate_left; (focus (go_simp; try (with_reducible rfl))); simp only [Act.put, List.setIfInBounds_toArray, List.set_cons_zero, List.set_cons_succ]))
                exact rd_nil
              refine Txt.done (by kernel_rfl) ?_
              have hfin : Below w.heap.size w wD := hbr'.out.trans (hB4.out.mono hbr'.out.size)
              go_wp2
              go_ret
              exact ⟨rfl, hfin⟩

end Go.Proofs.Ytchfecoipclomaa
