/- The law PackPuts: its walk. -/
import Derived.Test.YtchfecoipclomaaPk5
import Derived.Test.YtchfecoipclomaaReg
namespace Go.Proofs.Ytchfecoipclomaa
open Go.RowKit

set_option maxHeartbeats 1000000 in
theorem alive2 (w : World) : Calls Try.prog 16 #[] w fun e w' => e = .returned (.bool true) ∧ Below w.heap.size w w' := by
  go_enter Try.func16, Try.ntmps16
  go_wp2_with fail
  refine (packInt_any _ _ [] [1] _ (Sl.nil _) (Sl.new1 _ _ _) (by simp)).mono ?_
  rintro e w2 ⟨v2, rfl, hown2, hbel2⟩
  have hb3 : Below w.heap.size w w2 := (below_alloc _ _).trans (hbel2.mono (by simp))
  have hs := run_string_sl (P := Try.prog) (Sl.of_own hown2) 22 5 9 Try.underlying22 Try.underlying5 Try.underlying9
  rw [show ([] ++ be8s [1] : List UInt8) = [0, 0, 0, 0, 0, 0, 0, 1] from by decide +kernel] at hs
  clear hown2 hbel2
  go_wp2
  go_ret
  exact ⟨by simp, hb3⟩

/-- The first j lists are no longer than m. -/
def AllLe (ls : List (List UInt8)) (m j : Nat) : Prop := ∀ k (h : k < ls.length), k < j → ls[k].length ≤ m

theorem AllLe.total {ls : List (List UInt8)} {m : Nat} (h : AllLe ls m ls.length) : total ls ≤ m * ls.length := by
  have h' : ∀ l ∈ ls, l.length ≤ m := by
    intro l hl
    obtain ⟨k, hk, rfl⟩ := List.getElem_of_mem hl
    exact h k hk hk
  clear h
  induction ls with
  | nil => simp [Go.Proofs.Ytchfecoipclomaa.total]
  | cons l ls ih =>
    have h1 := h' l (by simp)
    have h2 := ih (fun x hx => h' x (by simp [hx]))
    simp only [Go.Proofs.Ytchfecoipclomaa.total, List.map_cons, List.sum_cons, List.length_cons] at *
    rw [Nat.mul_add]; omega

theorem str {w : World} {v : Value} {bs : List UInt8} (h : Sl w v (u8s bs)) : (convert 22 9 v).run Try.prog w = .ok (.string ⟨bs.toArray⟩) w :=
  run_string_sl h _ _ _ Try.underlying22 Try.underlying5 Try.underlying9

theorem Sl.of_len {w : World} {a : Option Addr} {n cap : Nat} {vs : List Value} (h : Sl w (.slice a n cap) vs) : Sl w (.slice a vs.length cap) vs := by
  have := h.len.1
  subst this
  exact h

set_option maxHeartbeats 2000000 in
set_option maxRecDepth 100000 in
theorem packPuts_walk (ab an al : Option Addr) (cb cn cl : Nat) (bs : List UInt8) (ns : List Int) (ls : List (List UInt8)) (w : World) (hb : Sl w (.slice ab bs.length cb) (u8s bs)) (hn : Sl w (.slice an ns.length cn) (ns.map (.int .i64)))
    (hl : Sls w (.slice al ls.length cl) ls) :
    Calls Try.prog 3 #[.slice ab bs.length cb, .slice an ns.length cn, .slice al ls.length cl] w fun e w' => e = .returned (.bool true) ∧ Below w.heap.size w w' := by
  obtain ⟨i, hi, hz0, hz1, hz2⟩ := info_parts info_u8
  have hb' := Lib.hid hb
  have hn' := Lib.hid hn
  have hl' := Lib.hid hl
  have lb := hb.len
  have ln := hn.len
  have ll := hl.len
  clear hb hn hl
  have hlb : bs.length ≤ 9223372036854775807 := by unfold maxLen at lb; omega
  have hln : ns.length ≤ 9223372036854775807 := by unfold maxLen at ln; omega
  have hll : ls.length ≤ 9223372036854775807 := by unfold maxLen at ll; omega
  clear lb ln ll
  by_cases c0 : 1000 < bs.length
  · go_enter Try.func3, Try.ntmps3
    go_wp2_with fail
    refine (alive2 w).mono ?_
    rintro e w1 ⟨rfl, hb1⟩
    have d0 : (1000 : Int) < (bs.length : Int) := by omega
    go_wp2
    go_ret
    exact ⟨rfl, hb1⟩
  by_cases c1 : 100 < ns.length
  · go_enter Try.func3, Try.ntmps3
    go_wp2_with fail
    refine (alive2 w).mono ?_
    rintro e w1 ⟨rfl, hb1⟩
    have d0 : ¬ (1000 : Int) < (bs.length : Int) := by omega
    have d1 : (100 : Int) < (ns.length : Int) := by omega
    go_wp2
    go_ret
    exact ⟨rfl, hb1⟩
  by_cases c2 : 50 < ls.length
  · go_enter Try.func3, Try.ntmps3
    go_wp2_with fail
    refine (alive2 w).mono ?_
    rintro e w1 ⟨rfl, hb1⟩
    have d0 : ¬ (1000 : Int) < (bs.length : Int) := by omega
    have d1 : ¬ (100 : Int) < (ns.length : Int) := by omega
    have d2 : (50 : Int) < (ls.length : Int) := by omega
    go_wp2
    go_ret
    exact ⟨rfl, hb1⟩
  go_enter Try.func3, Try.ntmps3
  go_wp2_with fail
  refine (alive2 w).mono ?_
  rintro e w1 ⟨rfl, hb1⟩
  have d0 : ¬ (1000 : Int) < (bs.length : Int) := by omega
  have d1 : ¬ (100 : Int) < (ns.length : Int) := by omega
  have d2 : ¬ (50 : Int) < (ls.length : Int) := by omega
  go_wp2
  go_loop [8] (fun kv => ∃ j : Nat, j ≤ ls.length ∧ kv = .int .i64 j ∧ AllLe ls 1000 j) (fun kv => ls.length - (intOf kv).toNat)
  case atStart => exact ⟨0, Nat.zero_le _, rfl, fun k _ h => absurd h (by omega)⟩
  case round =>
    obtain ⟨j, hj, rfl, hall⟩ := hrel
    have hall' := Lib.hid hall
    clear hall
    by_cases hlt : j < ls.length
    · obtain ⟨b, o, x, c, rfl, hcell, -⟩ := (hl'.out.below hb1).at hlt
      by_cases hbig : (1000 : Int) < (ls[j].length : Int)
      · go_wp2
        go_ret
        exact ⟨rfl, hb1⟩
      · go_wp2
        go_round
        case rel =>
          refine ⟨j + 1, by omega, by go_num, fun k hk hkj => ?_⟩
          by_cases e : k = j
          · subst e; omega
          · exact hall'.out k hk (by omega)
        case measure => simp [intOf]; omega
    · have hj' : j = ls.length := by omega
      subst hj'
      have hT := Lib.hid hall'.out.total
      clear hall'
      have hb2 := Lib.hid (hb'.out.below hb1)
      have hsz1 : w.heap.size ≤ w1.heap.size := hb1.size
      go_wp2_with (at_make; refine wpList_make_own _ rfl _ _ 22 rfl w.heap.size 5 i (.int .u8 0) 1 Try.underlying22 hi hz0 hz1 .i64 .i64 _ (bs.length + 100) rfl rfl (by simp) ?c1 ?c2 hsz1 ?_)
      case c1 => omega
      case c2 => unfold maxLen; omega
      intro w2 hown2 hg2
      have hb3 : Below w1.heap.size w1 w2 := (Below.refl _ _).grown hg2 (Nat.le_refl _) (fun k hk => by cases hk)
      have hb4 : Below w.heap.size w w2 := hb1.trans (hb3.mono hsz1)
      have hsz2 : w.heap.size ≤ w2.heap.size := hb4.size
      have hsb2 := Lib.hid (hb'.out.below hb4)
      have ho2 := Lib.hid hown2
      clear hown2 hg2 hb3 hb2
      go_wp2_with (at_builtin; refine wpList_append_sl rfl _ _ 22 rfl w.heap.size 5 Try.underlying22 hi hz0 hz1 hz2 rfl _ 0 [] rfl ho2.out _ (u8s bs) rfl hsb2.out (u8s_one _) ?c3 ?c4 hsz2 ?_)
      case c3 => unfold maxLen; rw [u8s_len]; omega
      case c4 => rw [u8s_len]; omega
      intro v3 w3 hown3 hg3
      have hb5 : Below w.heap.size w w3 := below_grown hb4 ho2.out hsz2 hg3
      have hown3 : w3.ownsRow w.heap.size 5 1 v3 bs.length (u8s bs) := by simpa [u8s_len] using hown3
      have hx3 := Lib.hid (Sl.of_own hown3)
      have hn3 := Lib.hid (hn'.out.below hb5)
      clear ho2 hsb2 hg3 hb4 hown3
      go_wp2_with fail
      refine (packInt_any _ _ bs ns _ hx3.out hn3.out (by omega)).mono ?_
      rintro e w4 ⟨v4, rfl, hown4, hbel4⟩
      have hb6 : Below w.heap.size w w4 := hb5.trans (hbel4.mono hb5.size)
      have hx4 := Lib.hid (hx3.out.below hbel4)
      have hl4 := Lib.hid (hl'.out.below hb6)
      have hp4 := Lib.hid (Sl.of_own hown4)
      clear hown4 hx3 hn3 hbel4
      go_wp2_with fail
      refine (packBytes_any _ _ bs ls _ hx4.out hl4.out (by have := hT.out; omega)).mono ?_
      rintro e w5 ⟨v5, rfl, hown5, hbel5⟩
      have hb7 : Below w.heap.size w w5 := hb6.trans (hbel5.mono hb6.size)
      have hx5 := Lib.hid (hx4.out.below hbel5)
      have hp5 := Lib.hid (hp4.out.below hbel5)
      have hq5 := Lib.hid (Sl.of_own hown5)
      clear hown5 hx4 hl4 hp4 hbel5 hb6 hb5
      have hb5 := Lib.hid (hb'.out.below hb7)
      have hn5 := Lib.hid (hn'.out.below hb7)
      have hl5 := Lib.hid (hl'.out.below hb7)
      have hbb := Lib.hid hb7
      clear hb7 hb1
      have S4 : Hid (∀ w', Below w5.heap.size w5 w' → (convert 22 9 v4).run Try.prog w' = .ok (.string ⟨(bs ++ be8s ns).toArray⟩) w' ∧ (convert 22 9 v5).run Try.prog w' = .ok (.string ⟨(bs ++ txs ls).toArray⟩) w' ∧
          (convert 22 9 v3).run Try.prog w' = .ok (.string ⟨bs.toArray⟩) w' ∧ (convert 22 9 (.slice ab bs.length cb)).run Try.prog w' = .ok (.string ⟨bs.toArray⟩) w') :=
        fun w' hB => ⟨str (hp5.out.below hB), str (hq5.out.below hB), str (hx5.out.below hB), str (hb5.out.below hB)⟩
      have hB0 : Hid (Below w5.heap.size w5 w5.drew) := (Below.refl _ _).drew
      go_wp2_with fail
      refine Txt.start (Below w5.heap.size w5) 24 rfl (by kernel_rfl) ?_
      refine Txt.seg (A := ?A1) 20 15 (by kernel_rfl) hB0.out [0, 1, 2, 3] (by kernel_rfl) ?s1 ?_
      case s1 =>
        intro w' hB
        have s4 := S4.out w' hB
        iterate 4 (refine rd_take (v := ?_) rfl rfl ?_ ?_; rotate_left; (focus (go_simp; try (with_reducible rfl))); simp only [Act.put, List.setIfInBounds_toArray, List.set_cons_zero, List.set_cons_succ])
        exact rd_nil
      refine Txt.eff 4 31 rfl (by kernel_rfl) (fun K hK => ?_)
      go_simp
      refine (refInt_any _ _ bs ns w5.drew hb5.out hn5.out (by omega)).mono ?_
      rintro e wA ⟨vA, rfl, hownA, hbA⟩
      have hB1 : Hid (Below w5.heap.size w5 wA) := hB0.out.trans hbA
      have hA := Lib.hid (Sl.of_own hownA)
      refine hK (Below wA.heap.size wA) _ _ hB1.out (fun w'' h => hB1.out.trans (h.mono hB1.out.size)) ?_
      clear hK hownA hbA
      try simp only [Act.put, List.setIfInBounds_toArray, List.set_cons_zero, List.set_cons_succ]
      refine Txt.seg (A := ?A2) 12 4095 (by kernel_rfl) (Below.refl _ _) [5, 6, 7, 8, 9, 10, 11] (by kernel_rfl) ?s2 ?_
      case s2 =>
        intro w' hB
        have s4 := S4.out w' (hB1.out.trans (hB.mono hB1.out.size))
        have s5 := str (hA.out.below hB)
        iterate 7 (refine rd_take (v := ?_) rfl rfl ?_ ?_; rotate_left; (focus (go_simp; try (with_reducible rfl))); simp only [Act.put, List.setIfInBounds_toArray, List.set_cons_zero, List.set_cons_succ])
        exact rd_nil
      refine Txt.eff 12 8191 rfl (by kernel_rfl) (fun K hK => ?_)
      go_simp
      refine (refBytes_any _ _ bs ls _ (hb5.out.below hB1.out) (hl5.out.below hB1.out) (by have := hT.out; omega)).mono ?_
      rintro e wB ⟨vB, rfl, hownB, hbB⟩
      have hB2 : Hid (Below w5.heap.size w5 wB) := hB1.out.trans (hbB.mono hB1.out.size)
      have hB' := Lib.hid (Sl.of_own hownB)
      refine hK (Below wB.heap.size wB) _ _ hbB (fun w'' h => hbB.trans (h.mono hbB.size)) ?_
      clear hK hownB hbB
      try simp only [Act.put, List.setIfInBounds_toArray, List.set_cons_zero, List.set_cons_succ]
      refine Txt.seg (A := ?A3) 0 16777215 (by kernel_rfl) (Below.refl _ _) [13, 14, 15, 16, 17, 18, 19, 20, 21, 22, 23] (by kernel_rfl) ?s3 ?_
      case s3 =>
        intro w' hB
        have s4 := S4.out w' (hB2.out.trans (hB.mono hB2.out.size))
        have s5 := str (hB'.out.below hB)
        iterate 11 (refine rd_take (v := ?_) rfl rfl ?_ ?_; rotate_left; (focus (go_simp; try (with_reducible rfl))); simp only [Act.put, List.setIfInBounds_toArray, List.set_cons_zero, List.set_cons_succ])
        exact rd_nil
      refine Txt.done (by kernel_rfl) ?_
      have hfin : Below w.heap.size w wB := hbb.out.trans (hB2.out.mono hbb.out.size)
      clear hB2 hB1 hB0
      go_wp2
      go_ret
      exact ⟨rfl, hfin⟩

theorem packPuts_walk2 (ab : Option Addr) (cb : Nat) (bs : List UInt8) (an : Option Addr) (cn : Nat) (ns : List Int) (al : Option Addr) (cl : Nat) (ls : List (List UInt8)) (w : World) (hb : Sl w (.slice ab bs.length cb) (u8s bs)) (hn : Sl w (.slice an ns.length cn) (ns.map (.int .i64)))
    (_ : ∀ n ∈ ns, (Lit.int .i64 n).wf = true) (hl : Sls w (.slice al ls.length cl) ls) :
    Calls Try.prog 3 #[.slice ab bs.length cb, .slice an ns.length cn, .slice al ls.length cl] w fun e w' => e = .returned (.bool true) ∧ Below w.heap.size w w' :=
  packPuts_walk ab an al cb cn cl bs ns ls w hb hn hl

end Go.Proofs.Ytchfecoipclomaa
