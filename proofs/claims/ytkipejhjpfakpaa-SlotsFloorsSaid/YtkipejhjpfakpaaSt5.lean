/- slots: change, and what is handed to it: Put, Done, Try, Confirm. -/
import Derived.Test.YtkipejhjpfakpaaSt4
namespace Go.Proofs.Ytkipejhjpfakpaa
open Go.RowKit

/-- May a state be? -/
noncomputable def mayB (S : Stt) : Bool := @decide (mayP S) (Classical.propDecidable _)
theorem mayB_iff (S : Stt) : mayB S = true ↔ mayP S := by unfold mayB; simp
theorem mayPost_b {S : Stt} {w : World} {e : Ending} {w' : World} (h : MayPost S w e w') : e = .returned (.bool (mayB S)) ∧ Below w.heap.size w w' := by
  obtain ⟨r, rfl, h1, h2⟩ := h
  refine ⟨?_, h2⟩
  rw [← mayB_iff] at h1
  rw [Bool.eq_iff_iff.2 h1]
theorem mayb_any (S : Stt) (v : Sv) (w : World) (h : StOk w S v) : Calls Try.prog 20 #[.agg (S.cs v).toArray] w fun e w' => e = .returned (.bool (mayB S)) ∧ Below w.heap.size w w' :=
  (may_any S v w h).mono fun _ _ h => mayPost_b h
theorem mayStateb_any (S : Stt) (v : Sv) (w : World) (h : StOk w S v) : Calls Try.prog 13 #[.agg (S.cs v).toArray] w fun e w' => e = .returned (.bool (mayB S)) ∧ Below w.heap.size w w' :=
  (mayState_any S v w h).mono fun _ _ h => mayPost_b h
theorem mayP_fit {S : Stt} (h : mayP S) : StFit S := by
  refine ⟨by have := h.len; omega, ?_, ?_⟩
  · have := h.s0
    unfold slotB at this
    split at this
    · omega
    · simp at this; omega
  · have := h.s1
    unfold slotB at this
    split at this
    · omega
    · simp at this; omega

def putC (S : Stt) (m : List UInt8) : Stt := if S.act = 0 then { S with m1 := m, d1 := false, t1 := 0 } else { S with m0 := m, d0 := false, t0 := 0 }
def doneC (S : Stt) : Stt := if S.act = 0 then { S with d1 := decide (0 < S.m1.length) } else { S with d0 := decide (0 < S.m0.length) }
def tryC (S : Stt) : Stt := if S.act = 0 then (if S.d1 = true then { S with t1 := min (S.t1 + 1) 3 } else S) else (if S.d0 = true then { S with t0 := min (S.t0 + 1) 3 } else S)
def flo (f v : Int) : Int := if v ≤ 2147483647 then max f v else f
def confirmC (S : Stt) (ver : Int) : Stt :=
  if S.act = 0 then (if S.d1 = true then { S with floor := flo S.floor ver, t1 := 0, act := 1, m0 := [], d0 := false, t0 := 0 } else S)
  else (if S.d0 = true then { S with floor := flo S.floor ver, t0 := 0, act := 0, m1 := [], d1 := false, t1 := 0 } else S)
/-- A change of a state that may be. -/
noncomputable def chg (F : Stt → Stt) (S : Stt) : Stt := if mayB S = true then F S else newS
noncomputable def putS (S : Stt) (m : List UInt8) : Stt := if m.length = 300 then chg (fun S => putC S m) S else newS
noncomputable def doneS (S : Stt) : Stt := chg doneC S
noncomputable def tryS (S : Stt) : Stt := chg tryC S
noncomputable def confirmS (S : Stt) (ver : Int) : Stt := chg (fun S => confirmC S ver) S

/-- None of the lists lies in block g. -/
structure StOff (g : Nat) (v : Sv) : Prop where
  rv : v.rv.ownBlock ≠ some g
  m0 : v.m0.ownBlock ≠ some g
  m1 : v.m1.ownBlock ≠ some g
theorem StOwn.off {B g : Nat} {w : World} {S : Stt} {v : Sv} (h : StOwn B w S v) (hg : w.heap.size ≤ g) : StOff g v :=
  ⟨fun e => by have := (h.rv.lt g e).2; omega, fun e => by have := (h.m0.lt g e).2; omega, fun e => by have := (h.m1.lt g e).2; omega⟩
theorem StOwn.kept {B g : Nat} {w w' : World} {S : Stt} {v : Sv} (h : StOwn B w S v) (hg : w.grownBy w' (some g)) (ho : StOff g v) : StOwn B w' S v :=
  ⟨own_keptN h.rv hg ho.rv, own_keptN h.m0 hg ho.m0, own_keptN h.m1 hg ho.m1⟩
/-- Behind a closure's call: the state of block g is another one. -/
def ClPost (g B : Nat) (S' : Stt) (w : World) (e : Ending) (w' : World) : Prop := e = .returned (.tuple #[]) ∧ ∃ v', Arr w' g (S'.cs v') ∧ StOwn B w' S' v' ∧ w.grownBy w' (some g)

set_option maxRecDepth 100000 in
theorem put1_any (S : Stt) (v : Sv) (g gc B off : Nat) (m : List UInt8) (vm : Value) (w : World) (k1 : Arr w g (S.cs v)) (kc : Arr w gc [vm]) (ho : Hid (StOwn B w S v)) (hoff : Hid (StOff g v)) (hm : Sl w vm (u8s m)) (hl : m.length ≤ 140737488355328)
    (hB : B ≤ w.heap.size) (hlt : g < w.heap.size) (hof : off = if S.act = 0 then 5 else 2) :
    Calls Try.prog 40 #[.pointer (some ⟨g, 0, none⟩), .pointer (some ⟨g, off, none⟩), .pointer (some ⟨gc, 0, none⟩)] w (ClPost g B (putC S m) w) := by
  by_cases ha : S.act = 0
  · rw [if_pos ha] at hof
    subst hof
    have hp : putC S m = { S with m1 := m, d1 := false, t1 := 0 } := by unfold putC; rw [if_pos ha]
    rw [hp]
    clear hp ha
    go_enter Try.func40, Try.ntmps40
    have xc := kc.cell (j := 0) rfl
    go_wp2_with fail
    refine (clone_any _ m _ hm hl).mono ?_
    rintro e w1 ⟨u, rfl, o2, hb, -⟩
    have k1 := k1.below hb
    have ho := Lib.hid (ho.out.below hb)
    obtain ⟨a2, c2, rfl⟩ := own_shape o2
    have hbz := hb.size
    have hb := Lib.hid hb
    have o2 := Lib.hid o2
    have hone : ∀ u ∈ [Value.slice a2 m.length c2, .bool false, .int .i64 0], u.oneCell' = true := by simp [Value.oneCell']
    replace hone := Lib.hid hone
    go_wp2_with (refine wpl_storeMG rfl _ _ _ rfl _ 5 [.slice a2 m.length c2, .bool false, .int .i64 0] rfl rfl _ k1 (by kernel_rfl) (Nat.le_of_ble_eq_true rfl) hone.out (fun W k2 hg => ?_))
    have hne : (Value.slice a2 m.length c2).ownBlock ≠ some g := fun e => by have := (o2.out.lt g e).1; omega
    have o3 := own_mono (own_keptN o2.out hg hne) hB
    have ho3 := ho.out.kept hg hoff.out
    go_end0
    exact ⟨rfl, { v with m1 := .slice a2 m.length c2 }, k2, ⟨ho3.rv, ho3.m0, o3⟩, gr_trans (gr_below hb.out) hg⟩
  · rw [if_neg ha] at hof
    subst hof
    have hp : putC S m = { S with m0 := m, d0 := false, t0 := 0 } := by unfold putC; rw [if_neg ha]
    rw [hp]
    clear hp ha
    go_enter Try.func40, Try.ntmps40
    have xc := kc.cell (j := 0) rfl
    go_wp2_with fail
    refine (clone_any _ m _ hm hl).mono ?_
    rintro e w1 ⟨u, rfl, o2, hb, -⟩
    have k1 := k1.below hb
    have ho := Lib.hid (ho.out.below hb)
    obtain ⟨a2, c2, rfl⟩ := own_shape o2
    have hbz := hb.size
    have hb := Lib.hid hb
    have o2 := Lib.hid o2
    have hone : ∀ u ∈ [Value.slice a2 m.length c2, .bool false, .int .i64 0], u.oneCell' = true := by simp [Value.oneCell']
    replace hone := Lib.hid hone
    go_wp2_with (refine wpl_storeMG rfl _ _ _ rfl _ 2 [.slice a2 m.length c2, .bool false, .int .i64 0] rfl rfl _ k1 (by kernel_rfl) (Nat.le_of_ble_eq_true rfl) hone.out (fun W k2 hg => ?_))
    have hne : (Value.slice a2 m.length c2).ownBlock ≠ some g := fun e => by have := (o2.out.lt g e).1; omega
    have o3 := own_mono (own_keptN o2.out hg hne) hB
    have ho3 := ho.out.kept hg hoff.out
    go_end0
    exact ⟨rfl, { v with m0 := .slice a2 m.length c2 }, k2, ⟨ho3.rv, o3, ho3.m1⟩, gr_trans (gr_below hb.out) hg⟩


/-- The other closures' arguments: the state's block, one of its slots'. -/
theorem cs_d0 {S : Stt} {v : Sv} (x : Bool) : (S.cs v).set 3 (.bool x) = ({ S with d0 := x } : Stt).cs v := rfl
theorem cs_t0 {S : Stt} {v : Sv} (x : Int) : (S.cs v).set 4 (.int .i64 x) = ({ S with t0 := x } : Stt).cs v := rfl
theorem cs_d1 {S : Stt} {v : Sv} (x : Bool) : (S.cs v).set 6 (.bool x) = ({ S with d1 := x } : Stt).cs v := rfl
theorem cs_t1 {S : Stt} {v : Sv} (x : Int) : (S.cs v).set 7 (.int .i64 x) = ({ S with t1 := x } : Stt).cs v := rfl
theorem cs_act {S : Stt} {v : Sv} (x : Int) : (S.cs v).set 8 (.int .i64 x) = ({ S with act := x } : Stt).cs v := rfl
theorem cs_flo {S : Stt} {v : Sv} (x : Int) : (S.cs v).set 0 (.int .i64 x) = ({ S with floor := x } : Stt).cs v := rfl
theorem StOwn.same {B : Nat} {w : World} {S S' : Stt} {v : Sv} (h : StOwn B w S v) (h1 : S'.rev = S.rev) (h2 : S'.m0 = S.m0) (h3 : S'.m1 = S.m1) : StOwn B w S' v := by
  obtain ⟨r, a, b⟩ := h
  exact ⟨by rw [h1]; exact r, by rw [h2]; exact a, by rw [h3]; exact b⟩

set_option maxRecDepth 100000 in
theorem done1_any (S : Stt) (v : Sv) (g B off : Nat) (w : World) (k1 : Arr w g (S.cs v)) (ho : Hid (StOwn B w S v)) (hoff : Hid (StOff g v)) (hof : off = if S.act = 0 then 5 else 2) :
    Calls Try.prog 42 #[.pointer (some ⟨g, 0, none⟩), .pointer (some ⟨g, off, none⟩)] w (ClPost g B (doneC S) w) := by
  by_cases ha : S.act = 0
  · rw [if_pos ha] at hof
    subst hof
    have hp : doneC S = { S with d1 := decide (0 < S.m1.length) } := by unfold doneC; rw [if_pos ha]
    rw [hp]
    clear hp ha
    have x5 := k1.cell (j := 5) rfl
    have x6 := k1.cell (j := 6) rfl
    have f6 := k1.frozen 6
    obtain ⟨a, c, hv⟩ := own_shape ho.out.m1
    rw [hv] at x5
    replace hv := Lib.hid hv
    go_enter Try.func42, Try.ntmps42
    go_wp2_with fail
    go_end0
    have hg := gr_cell w g 6 (.bool (decide (0 < S.m1.length)))
    exact ⟨rfl, v, k1.set 6 _, (ho.out.kept hg hoff.out).same rfl rfl rfl, hg⟩
  · rw [if_neg ha] at hof
    subst hof
    have hp : doneC S = { S with d0 := decide (0 < S.m0.length) } := by unfold doneC; rw [if_neg ha]
    rw [hp]
    clear hp ha
    have x2 := k1.cell (j := 2) rfl
    have x3 := k1.cell (j := 3) rfl
    have f3 := k1.frozen 3
    obtain ⟨a, c, hv⟩ := own_shape ho.out.m0
    rw [hv] at x2
    replace hv := Lib.hid hv
    go_enter Try.func42, Try.ntmps42
    go_wp2_with fail
    go_end0
    have hg := gr_cell w g 3 (.bool (decide (0 < S.m0.length)))
    exact ⟨rfl, v, k1.set 3 _, (ho.out.kept hg hoff.out).same rfl rfl rfl, hg⟩

theorem min_i64 (t : Int) (h : 0 ≤ t ∧ t ≤ 3) : IntKind.i64.wrap (t + 1) = t + 1 := i64_in (by omega)

set_option maxRecDepth 100000 in
theorem try1_any (S : Stt) (v : Sv) (g B off : Nat) (w : World) (k1 : Arr w g (S.cs v)) (ho : Hid (StOwn B w S v)) (hoff : Hid (StOff g v)) (hof : off = if S.act = 0 then 5 else 2)
    (h0 : 0 ≤ S.t0 ∧ S.t0 ≤ 3) (h1 : 0 ≤ S.t1 ∧ S.t1 ≤ 3) :
    Calls Try.prog 43 #[.pointer (some ⟨g, 0, none⟩), .pointer (some ⟨g, off, none⟩)] w (ClPost g B (tryC S) w) := by
  obtain ⟨f, l, m0, d0, t0, m1, d1, t1, a⟩ := S
  simp only at h0 h1 hof
  by_cases ha : a = 0
  · rw [if_pos ha] at hof
    subst hof
    have x6 := k1.cell (j := 6) rfl
    have x7 := k1.cell (j := 7) rfl
    have f7 := k1.frozen 7
    cases d1 with
    | false =>
      have hp : tryC ⟨f, l, m0, d0, t0, m1, false, t1, a⟩ = ⟨f, l, m0, d0, t0, m1, false, t1, a⟩ := by unfold tryC; rw [if_pos ha]; rfl
      rw [hp]
      clear hp ha
      simp only at x6 x7
      go_enter Try.func43, Try.ntmps43
      go_wp2_with fail
      go_end0
      exact ⟨rfl, v, k1, ho.out, World.grownBy.refl _ _⟩
    | true =>
      have hp : tryC ⟨f, l, m0, d0, t0, m1, true, t1, a⟩ = ⟨f, l, m0, d0, t0, m1, true, min (t1 + 1) 3, a⟩ := by unfold tryC; rw [if_pos ha]; rfl
      rw [hp]
      clear hp ha
      simp only at x6 x7
      go_enter Try.func43, Try.ntmps43
      go_wp2_with fail
      all_goals
        go_end0
        first
        | rw [show min (t1 + 1) 3 = 3 by omega]
          have hg := gr_cell w g 7 (.int .i64 3)
          exact ⟨rfl, v, k1.set 7 _, (ho.out.kept hg hoff.out).same rfl rfl rfl, hg⟩
        | rw [show min (t1 + 1) 3 = t1 + 1 by omega]
          have hg := gr_cell w g 7 (.int .i64 (t1 + 1))
          exact ⟨rfl, v, k1.set 7 _, (ho.out.kept hg hoff.out).same rfl rfl rfl, hg⟩
  · rw [if_neg ha] at hof
    subst hof
    have x3 := k1.cell (j := 3) rfl
    have x4 := k1.cell (j := 4) rfl
    have f4 := k1.frozen 4
    cases d0 with
    | false =>
      have hp : tryC ⟨f, l, m0, false, t0, m1, d1, t1, a⟩ = ⟨f, l, m0, false, t0, m1, d1, t1, a⟩ := by unfold tryC; rw [if_neg ha]; rfl
      rw [hp]
      clear hp ha
      simp only at x3 x4
      go_enter Try.func43, Try.ntmps43
      go_wp2_with fail
      go_end0
      exact ⟨rfl, v, k1, ho.out, World.grownBy.refl _ _⟩
    | true =>
      have hp : tryC ⟨f, l, m0, true, t0, m1, d1, t1, a⟩ = ⟨f, l, m0, true, min (t0 + 1) 3, m1, d1, t1, a⟩ := by unfold tryC; rw [if_neg ha]; rfl
      rw [hp]
      clear hp ha
      simp only at x3 x4
      go_enter Try.func43, Try.ntmps43
      go_wp2_with fail
      all_goals
        go_end0
        first
        | rw [show min (t0 + 1) 3 = 3 by omega]
          have hg := gr_cell w g 4 (.int .i64 3)
          exact ⟨rfl, v, k1.set 4 _, (ho.out.kept hg hoff.out).same rfl rfl rfl, hg⟩
        | rw [show min (t0 + 1) 3 = t0 + 1 by omega]
          have hg := gr_cell w g 4 (.int .i64 (t0 + 1))
          exact ⟨rfl, v, k1.set 4 _, (ho.out.kept hg hoff.out).same rfl rfl rfl, hg⟩


theorem flo_mx {f v : Int} (h : v ≤ 2147483647) : flo f v = max f v := if_pos h
theorem flo_no {f v : Int} (h : ¬ v ≤ 2147483647) : flo f v = f := if_neg h

set_option maxHeartbeats 1000000 in
set_option maxRecDepth 100000 in
theorem confirm1_any (S : Stt) (v : Sv) (g gc B off : Nat) (ver : Int) (w : World) (k1 : Arr w g (S.cs v)) (kc : Arr w gc [.int .i64 ver]) (ho : Hid (StOwn B w S v)) (hoff : Hid (StOff g v)) (hof : off = if S.act = 0 then 5 else 2)
    (hgc : gc ≠ g) :
    Calls Try.prog 44 #[.pointer (some ⟨g, 0, none⟩), .pointer (some ⟨g, off, none⟩), .pointer (some ⟨gc, 0, none⟩)] w (ClPost g B (confirmC S ver) w) := by
  obtain ⟨f, l, m0, d0, t0, m1, d1, t1, a⟩ := S
  simp only at hof
  by_cases ha : a = 0
  · rw [if_pos ha] at hof
    subst hof
    have x6 := k1.cell (j := 6) rfl
    cases d1 with
    | false =>
      have hp : confirmC ⟨f, l, m0, d0, t0, m1, false, t1, a⟩ ver = ⟨f, l, m0, d0, t0, m1, false, t1, a⟩ := by unfold confirmC; rw [if_pos ha]; rfl
      rw [hp]
      clear hp ha
      simp only at x6
      go_enter Try.func44, Try.ntmps44
      go_wp2_with fail
      go_end0
      exact ⟨rfl, v, k1, ho.out, World.grownBy.refl _ _⟩
    | true =>
      have hp : confirmC ⟨f, l, m0, d0, t0, m1, true, t1, a⟩ ver = ⟨flo f ver, l, [], false, 0, m1, true, 0, 1⟩ := by unfold confirmC; rw [if_pos ha]; rfl
      rw [hp]
      clear hp
      subst ha
      simp only at x6
      have x7 := k1.cell (j := 7) rfl
      have f7 := k1.frozen 7
      go_enter Try.func44, Try.ntmps44
      go_upto_region 2 with fail
      refine code_cellG k1 (fun W k1 hg hsz => ?_)
      rw [cs_t1] at k1
      have ho := Lib.hid (ho.out.kept hg hoff.out)
      have kc := kc.kept hg (Ne.symm hgc)
      have hgr := Lib.hid hg
      clear hg x6 x7 f7
      go_wp2_with (first | (refine wpList_load_arr2 rfl _ _ rfl _ rfl (by decide +kernel) _ (by assumption) (by first | (rw [lims_len]; kernel_rfl) | (rw [el_rep]; kernel_rfl) | (rw [el_len]; kernel_rfl) | (rw [byts_len]; kernel_rfl) | (rw [us_len]; kernel_rfl) | (rw [bytn_len]; kernel_rfl) | (rw [ens_len, digs_len]; kernel_rfl) | kernel_rfl) ?_) | fail)
      refine (target_any _ _ _).mono ?_
      rintro e w1 ⟨he, hb⟩
      replace he : e = .returned (.int .i64 1) := he
      subst he
      have k1 := k1.below hb
      have kc := kc.below hb
      have ho := Lib.hid (ho.out.below hb)
      have hgr := Lib.hid (gr_trans hgr.out (gr_below hb))
      clear hb
      have c8 := k1.cell (j := 8) rfl
      have f8 := k1.frozen 8
      go_upto_region 3 with fail
      refine code_cellG k1 (fun W2 k1 hg hsz2 => ?_)
      rw [cs_act] at k1
      have ho := Lib.hid (ho.out.kept hg hoff.out)
      have kc := kc.kept hg (Ne.symm hgc)
      have hgr := Lib.hid (gr_trans hgr.out hg)
      clear hg c8 f8
      refine Tx.start (fun w' => Below (W2).heap.size (W2) w') 10 11 rfl (by kernel_rfl) ?_
      have hS_1 : Below (W2).heap.size (W2) (World.drew W2) := (Below.refl _ _).drew
      refine Tx.seg2 (A := ?_) 1 1023 (by kernel_rfl) (by exact hS_1) [0, 1, 2, 3, 4, 5, 6, 7, 8, 9] (by kernel_rfl) ?_ ?_
      rotate_left
      · intro w' hB
        have e0 := k1.below hB
        have c8 := e0.cell (j := 8) rfl
        have iw0 : IntKind.i64.wrap 0 = 0 := i64_in (by omega)
        have iw1 : IntKind.i64.wrap 1 = 1 := i64_in (by omega)
        iterate 10 (first | (refine rd_skip rfl rfl ?_; simp only [Act.put, List.setIfInBounds_toArray, List.set_cons_zero, List.set_cons_succ]) | (refine rd_load_arr rfl rfl _ _ rfl _ rfl (by decide +kernel) _ (by assumption) (by first | (rw [lims_len]; kernel_rfl) | (rw [el_rep]; kernel_rfl) | (rw [el_len]; kernel_rfl) | (rw [byts_len]; kernel_rfl) | (rw [us_len]; kernel_rfl) | (rw [bytn_len]; kernel_rfl) | (rw [ens_len, digs_len]; kernel_rfl) | kernel_rfl) ?_; simp only [Act.put, List.setIfInBounds_toArray, List.set_cons_zero, List.set_cons_succ]) | (refine rd_take (v := ?_) rfl rfl ?_ ?_; rotate_left; (focus (go_simp; try (with_reducible rfl))); simp only [Act.put, List.setIfInBounds_toArray, List.set_cons_zero, List.set_cons_succ]) | (refine rd_take (v := ?_) rfl rfl ?_ ?_; rotate_left; (focus (try go_simp); fail)))
        exact rd_nil
      refine Tx.bar 2047 rfl (by decide +kernel) (fun K hK => ?_)
      have k1 := k1.below hS_1
      have kc := kc.below hS_1
      have ho := Lib.hid (ho.out.below hS_1)
      have hgr := Lib.hid (gr_trans hgr.out (gr_below hS_1))
      clear hS_1
      refine step_storeMG rfl _ _ _ rfl _ 2 [.slice none 0 0, .bool false, .int .i64 0] rfl rfl _ k1 (by kernel_rfl) (Nat.le_of_ble_eq_true rfl) (by simp [Value.oneCell']) (fun W3 k1 hg hsz3 => ?_)
      have ho := Lib.hid (ho.out.kept hg hoff.out)
      have kc := kc.kept hg (Ne.symm hgc)
      have hgr := Lib.hid (gr_trans hgr.out hg)
      clear hg
      have k1 : Arr W3 g (Stt.cs ⟨f, l, [], false, 0, m1, true, 0, 1⟩ { v with m0 := .slice none 0 0 }) := k1
      have ho : Hid (StOwn B W3 ⟨f, l, [], false, 0, m1, true, 0, 1⟩ { v with m0 := .slice none 0 0 }) := Lib.hid ⟨ho.out.rv, World.ownsRow_nil _ _ _ _, ho.out.m1⟩
      have hoff : Hid (StOff g { v with m0 := .slice none 0 0 }) := Lib.hid ⟨by first | exact hoff.out.rv | nofun, by first | exact hoff.out.m0 | nofun, by first | exact hoff.out.m1 | nofun⟩
      refine hK (fun _ => True) 9999 _ _ ?_
      clear hK K
      try simp only [Act.put]
      try simp only [List.setIfInBounds_toArray, List.set_cons_zero, List.set_cons_succ]
      refine Tx.done (by kernel_rfl) ?_
      have c0 := kc.cell (j := 0) rfl
      by_cases hv : ver ≤ 2147483647
      · obtain ⟨x, hx⟩ : ∃ x, max f ver = x := ⟨_, rfl⟩
        have hfl := Lib.hid (flo_mx (f := f) hv)
        have ex : (if f < ver then ver else f) = x := by rw [← hx]; split <;> omega
        replace hx := Lib.hid hx
        go_upto_region 5 with fail
        refine Tx.start (fun w' => Below (W3).heap.size (W3) w') 9 10 rfl (by kernel_rfl) ?_
        have hS_2 : Below (W3).heap.size (W3) (World.drew W3) := (Below.refl _ _).drew
        refine Tx.seg2 (A := ?_) 1 511 (by kernel_rfl) (by exact hS_2) [0, 1, 2, 3, 4, 5, 6, 7, 8] (by kernel_rfl) ?_ ?_
        rotate_left
        · intro w' hB
          have e0 := k1.below hB
          have e1 := kc.below hB
          have c0 := e0.cell (j := 0) rfl
          have c1 := e1.cell (j := 0) rfl
          clear e0 e1
          iterate 9 (first | (refine rd_skip rfl rfl ?_; simp only [Act.put, List.setIfInBounds_toArray, List.set_cons_zero, List.set_cons_succ]) | (refine rd_load_arr rfl rfl _ _ rfl _ rfl (by decide +kernel) _ (by assumption) (by first | (rw [lims_len]; kernel_rfl) | (rw [el_rep]; kernel_rfl) | (rw [el_len]; kernel_rfl) | (rw [byts_len]; kernel_rfl) | (rw [us_len]; kernel_rfl) | (rw [bytn_len]; kernel_rfl) | (rw [ens_len, digs_len]; kernel_rfl) | kernel_rfl) ?_; simp only [Act.put, List.setIfInBounds_toArray, List.set_cons_zero, List.set_cons_succ]) | (refine rd_take (v := ?_) rfl rfl ?_ ?_; rotate_left; (focus (go_simp; try (with_reducible rfl))); simp only [Act.put, List.setIfInBounds_toArray, List.set_cons_zero, List.set_cons_succ]) | (refine rd_take (v := ?_) rfl rfl ?_ ?_; rotate_left; (focus (try go_simp); fail)))
          exact rd_nil
        refine Tx.bar 1023 rfl (by decide +kernel) (fun K hK => ?_)
        have k1 := k1.below hS_2
        have ho := Lib.hid (ho.out.below hS_2)
        have hgr := Lib.hid (gr_trans hgr.out (gr_below hS_2))
        clear hS_2
        refine step_cellG rfl _ _ _ rfl _ 0 (.int .i64 x) rfl rfl _ k1 (by kernel_rfl) (Nat.le_of_ble_eq_true rfl) rfl (fun W4 k1 hg hsz4 => ?_)
        have ho := Lib.hid (ho.out.kept hg hoff.out)
        have hgr := Lib.hid (gr_trans hgr.out hg)
        clear hg
        rw [cs_flo] at k1
        refine hK (fun _ => True) 9999 _ _ ?_
        clear hK K
        try simp only [Act.put]
        try simp only [List.setIfInBounds_toArray, List.set_cons_zero, List.set_cons_succ]
        refine Tx.done (by kernel_rfl) ?_
        go_wp2_with fail
        go_end0
        exact ⟨rfl, _, by rw [hfl.out, hx.out]; exact k1, ho.out.same rfl rfl rfl, hgr.out⟩
      · have hfl := Lib.hid (flo_no (f := f) hv)
        go_wp2_with fail
        go_end0
        exact ⟨rfl, _, by rw [hfl.out]; exact k1, ho.out.same rfl rfl rfl, hgr.out⟩
  · rw [if_neg ha] at hof
    subst hof
    have x3 := k1.cell (j := 3) rfl
    cases d0 with
    | false =>
      have hp : confirmC ⟨f, l, m0, false, t0, m1, d1, t1, a⟩ ver = ⟨f, l, m0, false, t0, m1, d1, t1, a⟩ := by unfold confirmC; rw [if_neg ha]; rfl
      rw [hp]
      clear hp ha
      simp only at x3
      go_enter Try.func44, Try.ntmps44
      go_wp2_with fail
      go_end0
      exact ⟨rfl, v, k1, ho.out, World.grownBy.refl _ _⟩
    | true =>
      have hp : confirmC ⟨f, l, m0, true, t0, m1, d1, t1, a⟩ ver = ⟨flo f ver, l, m0, true, 0, [], false, 0, 0⟩ := by unfold confirmC; rw [if_neg ha]; rfl
      rw [hp]
      clear hp
      have hta := Lib.hid (show tgt a = 0 from if_neg ha)
      clear ha
      simp only at x3
      have x4 := k1.cell (j := 4) rfl
      have f4 := k1.frozen 4
      go_enter Try.func44, Try.ntmps44
      go_upto_region 2 with fail
      refine code_cellG k1 (fun W k1 hg hsz => ?_)
      rw [cs_t0] at k1
      have ho := Lib.hid (ho.out.kept hg hoff.out)
      have kc := kc.kept hg (Ne.symm hgc)
      have hgr := Lib.hid hg
      clear hg x3 x4 f4
      go_wp2_with (first | (refine wpList_load_arr2 rfl _ _ rfl _ rfl (by decide +kernel) _ (by assumption) (by first | (rw [lims_len]; kernel_rfl) | (rw [el_rep]; kernel_rfl) | (rw [el_len]; kernel_rfl) | (rw [byts_len]; kernel_rfl) | (rw [us_len]; kernel_rfl) | (rw [bytn_len]; kernel_rfl) | (rw [ens_len, digs_len]; kernel_rfl) | kernel_rfl) ?_) | fail)
      refine (target_any _ _ _).mono ?_
      rintro e w1 ⟨he, hb⟩
      replace he : e = .returned (.int .i64 0) := by rw [he]; show Ending.returned (.int .i64 (tgt a)) = _; rw [hta.out]
      subst he
      have k1 := k1.below hb
      have kc := kc.below hb
      have ho := Lib.hid (ho.out.below hb)
      have hgr := Lib.hid (gr_trans hgr.out (gr_below hb))
      clear hb
      have c8 := k1.cell (j := 8) rfl
      have f8 := k1.frozen 8
      go_upto_region 3 with fail
      refine code_cellG k1 (fun W2 k1 hg hsz2 => ?_)
      rw [cs_act] at k1
      have ho := Lib.hid (ho.out.kept hg hoff.out)
      have kc := kc.kept hg (Ne.symm hgc)
      have hgr := Lib.hid (gr_trans hgr.out hg)
      clear hg c8 f8
      refine Tx.start (fun w' => Below (W2).heap.size (W2) w') 10 11 rfl (by kernel_rfl) ?_
      have hS_3 : Below (W2).heap.size (W2) (World.drew W2) := (Below.refl _ _).drew
      refine Tx.seg2 (A := ?_) 1 1023 (by kernel_rfl) (by exact hS_3) [0, 1, 2, 3, 4, 5, 6, 7, 8, 9] (by kernel_rfl) ?_ ?_
      rotate_left
      · intro w' hB
        have e0 := k1.below hB
        have c8 := e0.cell (j := 8) rfl
        have iw0 : IntKind.i64.wrap 0 = 0 := i64_in (by omega)
        have iw1 : IntKind.i64.wrap 1 = 1 := i64_in (by omega)
        iterate 10 (first | (refine rd_skip rfl rfl ?_; simp only [Act.put, List.setIfInBounds_toArray, List.set_cons_zero, List.set_cons_succ]) | (refine rd_load_arr rfl rfl _ _ rfl _ rfl (by decide +kernel) _ (by assumption) (by first | (rw [lims_len]; kernel_rfl) | (rw [el_rep]; kernel_rfl) | (rw [el_len]; kernel_rfl) | (rw [byts_len]; kernel_rfl) | (rw [us_len]; kernel_rfl) | (rw [bytn_len]; kernel_rfl) | (rw [ens_len, digs_len]; kernel_rfl) | kernel_rfl) ?_; simp only [Act.put, List.setIfInBounds_toArray, List.set_cons_zero, List.set_cons_succ]) | (refine rd_take (v := ?_) rfl rfl ?_ ?_; rotate_left; (focus (go_simp; try (with_reducible rfl))); simp only [Act.put, List.setIfInBounds_toArray, List.set_cons_zero, List.set_cons_succ]) | (refine rd_take (v := ?_) rfl rfl ?_ ?_; rotate_left; (focus (try go_simp); fail)))
        exact rd_nil
      refine Tx.bar 2047 rfl (by decide +kernel) (fun K hK => ?_)
      have k1 := k1.below hS_3
      have kc := kc.below hS_3
      have ho := Lib.hid (ho.out.below hS_3)
      have hgr := Lib.hid (gr_trans hgr.out (gr_below hS_3))
      clear hS_3
      refine step_storeMG rfl _ _ _ rfl _ 5 [.slice none 0 0, .bool false, .int .i64 0] rfl rfl _ k1 (by kernel_rfl) (Nat.le_of_ble_eq_true rfl) (by simp [Value.oneCell']) (fun W3 k1 hg hsz3 => ?_)
      have ho := Lib.hid (ho.out.kept hg hoff.out)
      have kc := kc.kept hg (Ne.symm hgc)
      have hgr := Lib.hid (gr_trans hgr.out hg)
      clear hg
      have k1 : Arr W3 g (Stt.cs ⟨f, l, m0, true, 0, [], false, 0, 0⟩ { v with m1 := .slice none 0 0 }) := k1
      have ho : Hid (StOwn B W3 ⟨f, l, m0, true, 0, [], false, 0, 0⟩ { v with m1 := .slice none 0 0 }) := Lib.hid ⟨ho.out.rv, ho.out.m0, World.ownsRow_nil _ _ _ _⟩
      have hoff : Hid (StOff g { v with m1 := .slice none 0 0 }) := Lib.hid ⟨by first | exact hoff.out.rv | nofun, by first | exact hoff.out.m0 | nofun, by first | exact hoff.out.m1 | nofun⟩
      refine hK (fun _ => True) 9999 _ _ ?_
      clear hK K
      try simp only [Act.put]
      try simp only [List.setIfInBounds_toArray, List.set_cons_zero, List.set_cons_succ]
      refine Tx.done (by kernel_rfl) ?_
      have c0 := kc.cell (j := 0) rfl
      by_cases hv : ver ≤ 2147483647
      · obtain ⟨x, hx⟩ : ∃ x, max f ver = x := ⟨_, rfl⟩
        have hfl := Lib.hid (flo_mx (f := f) hv)
        have ex : (if f < ver then ver else f) = x := by rw [← hx]; split <;> omega
        replace hx := Lib.hid hx
        go_upto_region 5 with fail
        refine Tx.start (fun w' => Below (W3).heap.size (W3) w') 9 10 rfl (by kernel_rfl) ?_
        have hS_4 : Below (W3).heap.size (W3) (World.drew W3) := (Below.refl _ _).drew
        refine Tx.seg2 (A := ?_) 1 511 (by kernel_rfl) (by exact hS_4) [0, 1, 2, 3, 4, 5, 6, 7, 8] (by kernel_rfl) ?_ ?_
        rotate_left
        · intro w' hB
          have e0 := k1.below hB
          have e1 := kc.below hB
          have c0 := e0.cell (j := 0) rfl
          have c1 := e1.cell (j := 0) rfl
          clear e0 e1
          iterate 9 (first | (refine rd_skip rfl rfl ?_; simp only [Act.put, List.setIfInBounds_toArray, List.set_cons_zero, List.set_cons_succ]) | (refine rd_load_arr rfl rfl _ _ rfl _ rfl (by decide +kernel) _ (by assumption) (by first | (rw [lims_len]; kernel_rfl) | (rw [el_rep]; kernel_rfl) | (rw [el_len]; kernel_rfl) | (rw [byts_len]; kernel_rfl) | (rw [us_len]; kernel_rfl) | (rw [bytn_len]; kernel_rfl) | (rw [ens_len, digs_len]; kernel_rfl) | kernel_rfl) ?_; simp only [Act.put, List.setIfInBounds_toArray, List.set_cons_zero, List.set_cons_succ]) | (refine rd_take (v := ?_) rfl rfl ?_ ?_; rotate_left; (focus (go_simp; try (with_reducible rfl))); simp only [Act.put, List.setIfInBounds_toArray, List.set_cons_zero, List.set_cons_succ]) | (refine rd_take (v := ?_) rfl rfl ?_ ?_; rotate_left; (focus (try go_simp); fail)))
          exact rd_nil
        refine Tx.bar 1023 rfl (by decide +kernel) (fun K hK => ?_)
        have k1 := k1.below hS_4
        have ho := Lib.hid (ho.out.below hS_4)
        have hgr := Lib.hid (gr_trans hgr.out (gr_below hS_4))
        clear hS_4
        refine step_cellG rfl _ _ _ rfl _ 0 (.int .i64 x) rfl rfl _ k1 (by kernel_rfl) (Nat.le_of_ble_eq_true rfl) rfl (fun W4 k1 hg hsz4 => ?_)
        have ho := Lib.hid (ho.out.kept hg hoff.out)
        have hgr := Lib.hid (gr_trans hgr.out hg)
        clear hg
        rw [cs_flo] at k1
        refine hK (fun _ => True) 9999 _ _ ?_
        clear hK K
        try simp only [Act.put]
        try simp only [List.setIfInBounds_toArray, List.set_cons_zero, List.set_cons_succ]
        refine Tx.done (by kernel_rfl) ?_
        go_wp2_with fail
        go_end0
        exact ⟨rfl, _, by rw [hfl.out, hx.out]; exact k1, ho.out.same rfl rfl rfl, hgr.out⟩
      · have hfl := Lib.hid (flo_no (f := f) hv)
        go_wp2_with fail
        go_end0
        exact ⟨rfl, _, by rw [hfl.out]; exact k1, ho.out.same rfl rfl rfl, hgr.out⟩

end Go.Proofs.Ytkipejhjpfakpaa
