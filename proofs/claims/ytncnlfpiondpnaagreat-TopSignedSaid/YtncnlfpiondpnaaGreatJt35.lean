/- TopSigned: part 35 of its proof: lemmas and contracts, each with its conditions in its own statement; the last part holds the law itself. -/
import Derived.Test.YtncnlfpiondpnaaGreatJt34

set_option maxHeartbeats 4000000
set_option maxRecDepth 100000
namespace Go.Proofs.YtncnlfpiondpnaaGreat
open Go.RowKit
theorem cs_r0 {w : World} {g : Nat} {S : Stt} {v : Sv} (k : Arr w g (S.cs v)) : w.rangeAt g 2 [v.m0, .bool S.d0, .int .i64 S.t0] :=
 k.range (fun j hj => by rcases j with _ | _ | _ | j <;> first | rfl | (simp only [List.length_cons, List.length_nil] at hj; omega))
theorem cs_r1 {w : World} {g : Nat} {S : Stt} {v : Sv} (k : Arr w g (S.cs v)) : w.rangeAt g 5 [v.m1, .bool S.d1, .int .i64 S.t1] :=
 k.range (fun j hj => by rcases j with _ | _ | _ | j <;> first | rfl | (simp only [List.length_cons, List.length_nil] at hj; omega))
theorem revP_step {l : List Int} {j : Nat} (h : revP l j) (hj : j < l.length) (h1 : numB l[j] = true) (h2 : ∀ h0 : 0 < j, l[j - 1] < l[j]) : revP l (j + 1) := by
 intro i hi hij
 by_cases e : i = j
 · subst e; exact ⟨h1, h2⟩
 · exact h i hi zOm
theorem i64_in' {n m : Int} (e : n = m) (h : -9223372036854775808 ≤ m ∧ m ≤ 9223372036854775807) : IntKind.i64.wrap n = m := by rw [e]; exact i64_in h
theorem slice_of {w : World} {v : Value} {xs : List Value} (h : Sl w v xs) : ∃ a cap, v = .slice a xs.length cap ∧ xs.length ≤ cap ∧ cap ≤ 9223372036854775807 := by
 obtain ⟨a, cap, h1, h2, h3, -⟩ := h
 exact ⟨a, cap, h1, h2, by unfold maxLen at h3; omega⟩
def MayPost (S : Stt) (w : World) (e : Ending) (w' : World) : Prop := ∃ r, e = .returned (.bool r) ∧ (r = true ↔ mayP S) ∧ Below w.heap.size w w'
theorem may_any (S : Stt) (v : Sv) (w : World) (h : StOk w S v) :
 Calls Tryz.prog 179 #[.agg (S.cs v).toArray] w (MayPost S w) := by
 obtain ⟨f, l, m0, d0, t0, m1, d1, t1, a⟩ := S
 obtain ⟨vr, v0, v1⟩ := v
 obtain ⟨hr, h0, h1⟩ := h
 simp only at hr h0 h1
 obtain ⟨ar, cr, rfl, hc1, hc2⟩ := slice_of hr
 obtain ⟨a0, c0, rfl, hc3, hc4⟩ := slice_of h0
 obtain ⟨a1, c1, rfl, hc5, hc6⟩ := slice_of h1
 rw [ints_len] at hr hc1
 rw [u8s_len] at h0 hc3 h1 hc5
 simp only [ints_len, u8s_len]
 have hno : ∀ (w' : World), ¬ mayP ⟨f, l, m0, d0, t0, m1, d1, t1, a⟩ → Below w.heap.size w w' → MayPost ⟨f, l, m0, d0, t0, m1, d1, t1, a⟩ w (.returned (.bool false)) w' := fun w' h1 h2 => ⟨false, rfl, by simp [h1], h2⟩
 have hmk := fun b c d e u g i j k => (mayP.mk (S := ⟨f, l, m0, d0, t0, m1, d1, t1, a⟩) b c d e u g i j k)
 simp only at hmk
 replace hr := zH hr
 replace h0 := zH h0
 replace h1 := zH h1
 replace hno := zH hno
 replace hmk := zH hmk
 go_enter Tryz.func179, Tryz.ntmps179
 go_upto_region 1 with fail
 refine wp_new1 (fun W hsz k1 kb => ?_)
 have k1 : Arr W w.heap.size (Stt.cs ⟨f, l, m0, d0, t0, m1, d1, t1, a⟩ ⟨.slice ar l.length cr, .slice a0 m0.length c0, .slice a1 m1.length c1⟩) := k1
 have x0 := k1.cell (j := 0) rfl
 have x1 := k1.cell (j := 1) rfl
 have x2 := k1.cell (j := 2) rfl
 have x3 := k1.cell (j := 3) rfl
 have x5 := k1.cell (j := 5) rfl
 have x6 := k1.cell (j := 6) rfl
 have x8 := k1.cell (j := 8) rfl
 simp only at x0 x1 x2 x3 x5 x6 x8
 have r0 := cs_r0 k1
 have r1 := cs_r1 k1
 simp only at r0 r1
 clear hsz
 replace k1 := zH k1
 replace r0 := zH r0
 replace r1 := zH r1
 go_wp2_with fail
 refine (number_any _ _).mono ?_
 rintro e w' ⟨rfl, hw⟩
 rw [hw]
 clear hw w'
 by_cases q1 : numB f = true
 rotate_left
 · rw [show numB f = false by simpa using q1]
   go_wp2_with fail
   go_ret
   exact hno.out _ (fun h => q1 h.floor) kb
 rw [q1]
 have q1 := zH q1
 by_cases q2 : 32 < l.length
 · have iw : (32 : Int) < (l.length : Int) := by omega
   go_wp2_with fail
   go_ret
   exact hno.out _ (fun h => by have := h.len; simp only at this; omega) kb
 by_cases q3 : a < -1
 · have iw : ¬ (32 : Int) < (l.length : Int) := by omega
   go_wp2_with fail
   go_ret
   exact hno.out _ (fun h => by have := h.lo; simp only at this; omega) kb
 by_cases q4 : 2 ≤ a
 · have iw : ¬ (32 : Int) < (l.length : Int) := by omega
   go_wp2_with fail
   go_ret
   exact hno.out _ (fun h => by have := h.hi; simp only at this; omega) kb
 have iw : ¬ (32 : Int) < (l.length : Int) := by omega
 have hlen : l.length ≤ 32 := by omega
 have iw2 : ¬ a < -1 := q3
 have iw3 : ¬ 2 ≤ a := q4
 go_wp2_with fail
 go_loopw [28] (fun jv wr => wr = W ∧ ∃ j : Nat, j ≤ l.length ∧ jv = .int .i64 j ∧ revP l j) (fun jv _ => l.length - (intOf jv).toNat)
 case atStart => exact ⟨rfl, 0, by omega, rfl, fun i _ h => absurd h zOm⟩
 case round =>
  obtain ⟨hwr, j, hj, rfl, hrv⟩ := hrel
  rw [hwr]
  clear hwr wr
  have hrv := zH hrv
  by_cases hlt : j < l.length
  · obtain ⟨b, o, rfl, -, -, -, hcc⟩ := hr.out.at (by rw [ints_len]; omega)
    have hc0 := hcc j _ (ints_get hlt)
    have hw0 : W.cell? ⟨b, o + j, none⟩ = some (.int .i64 l[j]) := by rw [kb.cell (World.block_lt_of_cell? w _ hc0)]; exact hc0
    have hstep := zH (revP_step hrv.out hlt)
    have hbad : ¬ (numB l[j] = true ∧ ∀ h0 : 0 < j, l[j - 1] < l[j]) → ¬ mayP ⟨f, l, m0, d0, t0, m1, d1, t1, a⟩ := fun h1 h2 => h1 (h2.rev j hlt hlt)
    replace hbad := zH hbad
    cases j with
    | zero =>
     obtain ⟨z, hz⟩ : ∃ z, l[0] = z := ⟨_, rfl⟩
     simp only [hz, Nat.add_zero] at hw0 hstep hbad
     clear hc0 hcc
     replace hz := zH hz
     go_wp2_with fail
     refine (number_any _ _).mono ?_
     rintro e w' ⟨rfl, hw⟩
     rw [hw]
     clear hw w'
     by_cases q5 : numB z = true
     · rw [q5]
       go_wp2_with fail
       refine ⟨⟨by trivial, 1, by omega, rfl, ?_⟩, by simp [intOf]; omega⟩
       exact hstep.out q5 (fun h => absurd h zOm)
     · rw [show numB z = false by simpa using q5]
       go_wp2_with fail
       go_ret
       exact hno.out _ (hbad.out (fun h => q5 h.1)) kb
    | succ i =>
     have hc1' := hcc i _ (ints_get (show i < l.length by omega))
     have hw1 : W.cell? ⟨b, o + i, none⟩ = some (.int .i64 l[i]) := by rw [kb.cell (World.block_lt_of_cell? w _ hc1')]; exact hc1'
     obtain ⟨z, hz⟩ : ∃ z, l[i + 1] = z := ⟨_, rfl⟩
     obtain ⟨y, hy⟩ : ∃ y, l[i] = y := ⟨_, rfl⟩
     simp only [Nat.add_sub_cancel, hz, hy] at hw0 hw1 hstep hbad
     clear hc0 hcc hc1'
     replace hz := zH hz
     replace hy := zH hy
     have iwj : IntKind.i64.wrap ((i : Int) + 1 - 1) = (i : Int) := i64_in' zOm zOm
     go_wp2_with fail
     refine (number_any _ _).mono ?_
     rintro e w' ⟨rfl, hw⟩
     rw [hw]
     clear hw w'
     by_cases q5 : numB z = true
     · rw [q5]
       by_cases q6 : y < z
       · have q7 : ¬ z ≤ y := by omega
         go_wp2_with fail
         refine ⟨⟨by trivial, i + 1 + 1, by omega, by go_num, ?_⟩, by simp [intOf]; omega⟩
         exact hstep.out q5 (fun _ => q6)
       · have q7 : z ≤ y := by omega
         go_wp2_with fail
         go_ret
         exact hno.out _ (hbad.out (fun h => by have := h.2 zOm; omega)) kb
     · rw [show numB z = false by simpa using q5]
       go_wp2_with fail
       go_ret
       exact hno.out _ (hbad.out (fun h => q5 h.1)) kb
  · obtain rfl : j = l.length := by omega
    go_upto_region 9 with fail
    clear hlt hj
    have ha : a = -1 ∨ a = 0 ∨ a = 1 := by omega
    clear q2 q3 q4 iw iw2 iw3
    rcases ha with rfl | rfl | rfl
    · have hmk2 := zH (fun b0 b1 => hmk.out q1.out hlen zDc zDc hrv.out (fun h => absurd h (by simp)) (fun h => absurd h (by simp)) b0 b1)
      clear hmk
      go_upto_region 11 with fail
      go_wp2_with (first | (refine wpList_load_mid2 rfl _ _ rfl _ _ rfl zKr _ r0.out zLn ?_) | fail)
      refine (slot_any _ _ _ _ _ (h0.out.below kb)).mono ?_
      rintro e w3 ⟨rfl, hb3⟩
      have r1 := zH (cs_r1 (k1.out.below hb3))
      have kb := bel kb hb3
      clear hb3 x0 x1 x2 x3 x5 x6 x8 r0 k1
      cases s0 : slotB m0 d0 t0 with
      | false =>
       replace hmk2 := zH hmk2
       go_wp2_with fail
       go_ret
       exact hno.out _ (fun h => by have := h.s0; simp only [s0] at this; cases this) kb
      | true =>
       have s0 := zH s0
       go_wp2_with (first | (refine wpList_load_mid2 rfl _ _ rfl _ _ rfl zKr _ r1.out zLn ?_) | fail)
       refine (slot_any _ _ _ _ _ (h1.out.below kb)).mono ?_
       rintro e w4 ⟨rfl, hb4⟩
       have kb := bel kb hb4
       clear hb4 r1
       cases s1 : slotB m1 d1 t1 with
       | false =>
        go_wp2_with fail
        go_ret
        exact hno.out _ (fun h => by have := h.s1; simp only [s1] at this; cases this) kb
       | true =>
        have s1 := zH s1
        go_wp2_with fail
        go_ret
        exact ⟨_, rfl, by simp only [true_iff]; exact hmk2.out s0.out s1.out, kb⟩
    · by_cases q2 : m0.length = 0
      · have iw : ((m0.length : Nat) : Int) = 0 := by omega
        go_wp2_with fail
        go_ret
        exact hno.out _ (fun h => (h.a0 rfl).1 q2) kb
      have iw : ¬ ((m0.length : Nat) : Int) = 0 := by omega
      cases d0 with
      | false =>
       go_wp2_with fail
       go_ret
       exact hno.out _ (fun h => by have := (h.a0 rfl).2; simp at this) kb
      | true =>
       have hmk2 := zH (fun b0 b1 => hmk.out q1.out hlen zDc zDc hrv.out (fun _ => ⟨q2, rfl⟩) (fun h => absurd h zDc) b0 b1)
       clear hmk
       go_upto_region 11 with fail
       go_wp2_with (first | (refine wpList_load_mid2 rfl _ _ rfl _ _ rfl zKr _ r0.out zLn ?_) | fail)
       refine (slot_any _ _ _ _ _ (h0.out.below kb)).mono ?_
       rintro e w3 ⟨rfl, hb3⟩
       have r1 := zH (cs_r1 (k1.out.below hb3))
       have kb := bel kb hb3
       clear hb3 x0 x1 x2 x3 x5 x6 x8 r0 k1
       cases s0 : slotB m0 true t0 with
       | false =>
        replace hmk2 := zH hmk2
        go_wp2_with fail
        go_ret
        exact hno.out _ (fun h => by have := h.s0; simp only [s0] at this; cases this) kb
       | true =>
        have s0 := zH s0
        go_wp2_with (first | (refine wpList_load_mid2 rfl _ _ rfl _ _ rfl zKr _ r1.out zLn ?_) | fail)
        refine (slot_any _ _ _ _ _ (h1.out.below kb)).mono ?_
        rintro e w4 ⟨rfl, hb4⟩
        have kb := bel kb hb4
        clear hb4 r1
        cases s1 : slotB m1 d1 t1 with
        | false =>
         go_wp2_with fail
         go_ret
         exact hno.out _ (fun h => by have := h.s1; simp only [s1] at this; cases this) kb
        | true =>
         have s1 := zH s1
         go_wp2_with fail
         go_ret
         exact ⟨_, rfl, by simp only [true_iff]; exact hmk2.out s0.out s1.out, kb⟩
    · by_cases q2 : m1.length = 0
      · have iw : ((m1.length : Nat) : Int) = 0 := by omega
        go_wp2_with fail
        go_ret
        exact hno.out _ (fun h => (h.a1 rfl).1 q2) kb
      have iw : ¬ ((m1.length : Nat) : Int) = 0 := by omega
      cases d1 with
      | false =>
       go_wp2_with fail
       go_ret
       exact hno.out _ (fun h => by have := (h.a1 rfl).2; simp at this) kb
      | true =>
       have hmk2 := zH (fun b0 b1 => hmk.out q1.out hlen zDc zDc hrv.out (fun h => absurd h zDc) (fun _ => ⟨q2, rfl⟩) b0 b1)
       clear hmk
       go_upto_region 11 with fail
       go_wp2_with (first | (refine wpList_load_mid2 rfl _ _ rfl _ _ rfl zKr _ r0.out zLn ?_) | fail)
       refine (slot_any _ _ _ _ _ (h0.out.below kb)).mono ?_
       rintro e w3 ⟨rfl, hb3⟩
       have r1 := zH (cs_r1 (k1.out.below hb3))
       have kb := bel kb hb3
       clear hb3 x0 x1 x2 x3 x5 x6 x8 r0 k1
       cases s0 : slotB m0 d0 t0 with
       | false =>
        replace hmk2 := zH hmk2
        go_wp2_with fail
        go_ret
        exact hno.out _ (fun h => by have := h.s0; simp only [s0] at this; cases this) kb
       | true =>
        have s0 := zH s0
        go_wp2_with (first | (refine wpList_load_mid2 rfl _ _ rfl _ _ rfl zKr _ r1.out zLn ?_) | fail)
        refine (slot_any _ _ _ _ _ (h1.out.below kb)).mono ?_
        rintro e w4 ⟨rfl, hb4⟩
        have kb := bel kb hb4
        clear hb4 r1
        cases s1 : slotB m1 true t1 with
        | false =>
         go_wp2_with fail
         go_ret
         exact hno.out _ (fun h => by have := h.s1; simp only [s1] at this; cases this) kb
        | true =>
         have s1 := zH s1
         go_wp2_with fail
         go_ret
         exact ⟨_, rfl, by simp only [true_iff]; exact hmk2.out s0.out s1.out, kb⟩
theorem info_int : (Tryz.prog.info? 3).map (fun i => (i.zero, i.size, i.bytes)) = some (some (.int .i64 0), 1, 8) := by kernel_rfl
def RetSt (S : Stt) (w : World) (e : Ending) (w' : World) : Prop := ∃ v : Sv, e = .returned (.agg (S.cs v).toArray) ∧ StOwn w.heap.size w' S v ∧ Below w.heap.size w w'
def newS : Stt := ⟨0, [], [], false, 0, [], false, 0, -1⟩
def zeroS : Stt := ⟨0, [], [], false, 0, [], false, 0, 0⟩
def nilSv : Sv := ⟨.slice none 0 0, .slice none 0 0, .slice none 0 0⟩
def tgt (a : Int) : Int := if a = 0 then 1 else 0
theorem target_any (S : Stt) (v : Sv) (w : World) : Calls Tryz.prog 187 #[.agg (S.cs v).toArray] w fun e w' => e = .returned (.int .i64 (tgt S.act)) ∧ Below w.heap.size w w' := by
 obtain ⟨f, l, m0, d0, t0, m1, d1, t1, a⟩ := S
 simp only [Stt.cs, tgt]
 by_cases h : a = 0
 · rw [if_pos h]
   go_enter Tryz.func187, Tryz.ntmps187
   go_wp2_with fail
   go_ret
   exact ⟨rfl, below_alloc _ _⟩
 · rw [if_neg h]
   go_enter Tryz.func187, Tryz.ntmps187
   go_wp2_with fail
   go_ret
   exact ⟨rfl, below_alloc _ _⟩
theorem own_shape {w : World} {base : Nat} {e : TypeId} {v : Value} {n : Nat} {xs : List Value} (h : w.ownsRow base e 1 v n xs) : ∃ a c, v = .slice a n c := by
 obtain ⟨a, cap, rfl, -⟩ := Sl.of_own h
 have := h.1
 exact ⟨a, cap, by rw [this, Nat.mul_one]⟩
theorem cloneI_some (x : Addr) (len cap : Nat) (l : List Int) (w : World) (hl : l.length = len) (hr : len * 8 ≤ 140737488355328) (hc : Cells w x (ints l)) :
 Calls Tryz.prog 161 #[.slice (some x) len cap] w fun e w' =>
  ∃ v, e = .returned v ∧ w'.ownsRow w.heap.size 3 1 v len (ints l) ∧ Below w.heap.size w w' := by
 obtain ⟨i, hi, hz0, hz1, hz2⟩ := info_parts info_int
 have hnil := fun (x : Option Addr) (n c : Nat) => Lib.run_eql_slice_nil (P := Tryz.prog) w 57 3 x n c 0 0 Tryz.underlying57
 have hc' : Hid (Cells (w.alloc (.cells #[] 3)) x (ints l)) := hc.alloc _
 clear hc
 have hl' := zH hl
 clear hl
 go_enter Tryz.func161, Tryz.ntmps161
 go_wp2_with (at_builtin; refine wpList_append_own _ rfl _ _ 57 rfl w.heap.size 3 i (.int .i64 0) 1 8 Tryz.underlying57 hi hz0 hz1 hz2 rfl zDc _ 0 [] rfl (World.ownsRow_made _ _ _ (Nat.le_refl _) (Nat.zero_le _) rfl) x len cap (ints l) rfl ?c1 hc'.out (ints_one l) ?c2 ?c3 ?c4 ?_)
 case c1 => rw [ints_len]; have := hl'.out; omega
 case c2 => unfold maxLen; omega
 case c3 => omega
 case c4 => simp
 intro v' w' hown hg hn
 go_wp2
 go_ret
 refine ⟨v', rfl, by simpa using hown, ((Below.refl _ _).alloc (Nat.le_refl _) _).grown hg (by simp) ?_⟩
 intro k hk; simp [Value.ownBlock] at hk; omega
theorem cloneI_any (v : Value) (l : List Int) (w : World) (hb : Sl w v (ints l)) (hr : l.length * 8 ≤ 140737488355328) :
 Calls Tryz.prog 161 #[v] w fun e w' => ∃ v, e = .returned v ∧ w'.ownsRow w.heap.size 3 1 v l.length (ints l) ∧ Below w.heap.size w w' := by
 obtain ⟨a, cap, rfl, h2, h3, h4, h5⟩ := hb
 rw [ints_len] at *
 cases a with
 | none =>
  obtain rfl := h4 rfl
  have : l = [] := List.eq_nil_of_length_eq_zero zOm
  subst this
  have hnil := fun (x : Option Addr) (n c : Nat) => Lib.run_eql_slice_nil (P := Tryz.prog) w 57 3 x n c 0 0 Tryz.underlying57
  go_enter Tryz.func161, Tryz.ntmps161
  go_wp2
  go_ret
  exact ⟨_, rfl, World.ownsRow_nil _ _ _ _, Below.refl _ _⟩
 | some x => exact cloneI_some x l.length cap l w rfl hr (h5 x rfl)
structure StFit (S : Stt) : Prop where
 rv : S.rev.length ≤ 1000000
 m0 : S.m0.length ≤ 1000000
 m1 : S.m1.length ≤ 1000000
structure CpRel (j B : Nat) (w : World) (S : Stt) (v v' : Sv) : Prop where
 rv : w.ownsRow B 3 1 v'.rv S.rev.length (ints S.rev)
 m0 : 0 < j → w.ownsRow B 5 1 v'.m0 S.m0.length (u8s S.m0)
 m1 : 1 < j → w.ownsRow B 5 1 v'.m1 S.m1.length (u8s S.m1)
 e0 : j = 0 → v'.m0 = v.m0
 e1 : j ≤ 1 → v'.m1 = v.m1
theorem cs_mid0 {S : Stt} {v : Sv} (x : Value) : (S.cs v).set 2 x = S.cs { v with m0 := x } := rfl
theorem cs_mid1 {S : Stt} {v : Sv} (x : Value) : (S.cs v).set 5 x = S.cs { v with m1 := x } := rfl
theorem cs_rv {S : Stt} {v : Sv} (x : Value) : (S.cs v).set 1 x = S.cs { v with rv := x } := rfl
theorem copy_any (S : Stt) (v : Sv) (w : World) (h : StOk w S v) (hf : StFit S) : Calls Tryz.prog 106 #[.agg (S.cs v).toArray] w (RetSt S w) := by
 have hf1 := hf.rv
 have hf2 := hf.m0
 have hf3 := hf.m1
 have ho := zH h
 clear h hf
 go_enter Tryz.func106, Tryz.ntmps106
 go_upto_region 1 with fail
 refine wp_new2 (fun W hsz k1 k2 kb => ?_)
 have k1 : Arr W w.heap.size (S.cs v) := k1
 obtain ⟨G, hG⟩ : ∃ G, w.heap.size = G := ⟨_, rfl⟩
 rw [hG] at k1 k2 hsz ⊢
 replace hG := zH hG
 have x1 := k1.cell (j := 1) rfl
 go_wp2_with fail
 refine (cloneI_any _ _ _ (ho.out.rv.below kb) zOm).mono ?_
 rintro e w1 ⟨vr, rfl, o1, hb⟩
 obtain ⟨ar, cr, rfl⟩ := own_shape o1
 have k1 := k1.below hb
 have k2 := k2.below hb
 have kb := bel kb hb
 have hs1 := hb.size
 clear x1 hb
 replace k2 := zH k2
 replace kb := zH kb
 replace o1 := zH o1
 replace hsz := zH hsz
 have hc1 := k1.cell (j := 1) rfl
 have hf1 := k1.frozen 1
 replace k1 := zH k1
 go_upto_region 2 with fail
 refine code_cellG k1.out (fun w2 k1 hg hs2 => ?_)
 rw [cs_rv] at k1
 clear hc1 hf1
 have o1 := zH (own_grown o1.out hg (by have := hsz.out; omega))
 have k2 := zH (k2.out.kept hg zOm)
 have kb := zH (below_gr kb.out hg (by rw [hG.out]; omega) kb.out.size)
 have hs0 : G + 2 ≤ w2.heap.size := by have := hsz.out; omega
 have o1 : Hid (w2.ownsRow (G + 2) 3 1 (.slice ar S.rev.length cr) S.rev.length (ints S.rev)) := by have := own_mono (base' := G + 2) o1.out (by have := hsz.out; omega); exact this
 clear hg hs2 hs1 hsz
 replace k1 := zH k1
 go_wp2_with fail
 go_loopw [8] (fun jv wr => ∃ (j : Nat) (v' : Sv), j ≤ 2 ∧ jv = .int .i64 j ∧ Arr wr G (S.cs v') ∧ Arr wr (G + 1) (zeroS.cs nilSv) ∧ Below w.heap.size w wr ∧ G + 2 ≤ wr.heap.size ∧ CpRel j (G + 2) wr S v v') (fun jv _ => 2 - (intOf jv).toNat)
 case atStart => exact ⟨0, _, by omega, rfl, k1.out, k2.out, kb.out, hs0, o1.out, fun h => absurd h zOm, fun h => absurd h zOm, fun _ => rfl, fun _ => rfl⟩
 case round =>
  clear k1 k2 kb o1 hs0
  obtain ⟨j, v', hj, rfl, k1, k2, kb, hs0, hr⟩ := hrel
  obtain ⟨vr, vm0, vm1⟩ := v'
  obtain ⟨r1, r2, r3, r4, r5⟩ := hr
  simp only at r1 r2 r3 r4 r5
  have r1 := zH r1
  have k2 := zH k2
  have kb := zH kb
  obtain rfl | rfl | rfl : j = 0 ∨ j = 1 ∨ j = 2 := by omega
  · obtain rfl := r4 rfl
    obtain rfl := r5 zOm
    clear r2 r3 r4 r5
    have x2 := k1.cell (j := 2) rfl
    go_upto_region 5 with fail
    go_wp2_with fail
    refine (clone_any _ S.m0 _ (ho.out.m0.below kb.out) zOm).mono ?_
    rintro e w1 ⟨u, rfl, o2, hb, -⟩
    obtain ⟨a2, c2, rfl⟩ := own_shape o2
    have k1 := k1.below hb
    have k2 := zH (k2.out.below hb)
    have kb := zH (bel kb.out hb)
    have r1 := zH (own_below r1.out hb)
    have o2 := zH o2
    have hsb := hb.size
    have hc1 := k1.cell (j := 2) rfl
    have hf1 := k1.frozen 2
    replace k1 := zH k1
    clear hb x2
    go_upto_region 6 with fail
    refine code_cellG k1.out (fun w2 k1 hg hs2 => ?_)
    rw [cs_mid0] at k1
    clear hc1 hf1
    have o2 := zH (own_grown o2.out hg zOm)
    have r1 := zH (own_grown r1.out hg zOm)
    have k2 := zH (k2.out.kept hg zOm)
    have kb := zH (below_gr kb.out hg (by rw [hG.out]; omega) kb.out.size)
    clear hg
    have k1 := zH k1
    go_wp2_with fail
    exact ⟨⟨1, _, by omega, by go_num, k1.out, k2.out, kb.out, by omega, r1.out, fun _ => own_mono o2.out hs0, fun h => absurd h zOm, fun h => absurd h zOm, fun _ => rfl⟩, by simp [intOf]⟩
  · obtain rfl := r5 zOm
    have r2 := zH (r2 zOm)
    clear r3 r4 r5
    have x2 := k1.cell (j := 5) rfl
    go_upto_region 5 with fail
    go_wp2_with fail
    refine (clone_any _ S.m1 _ (ho.out.m1.below kb.out) zOm).mono ?_
    rintro e w1 ⟨u, rfl, o2, hb, -⟩
    obtain ⟨a2, c2, rfl⟩ := own_shape o2
    have k1 := k1.below hb
    have k2 := zH (k2.out.below hb)
    have kb := zH (bel kb.out hb)
    have r1 := zH (own_below r1.out hb)
    have r2 := zH (own_below r2.out hb)
    have o2 := zH o2
    have hsb := hb.size
    have hc1 := k1.cell (j := 5) rfl
    have hf1 := k1.frozen 5
    replace k1 := zH k1
    clear hb x2
    go_upto_region 6 with fail
    refine code_cellG k1.out (fun w2 k1 hg hs2 => ?_)
    rw [cs_mid1] at k1
    clear hc1 hf1
    have o2 := zH (own_grown o2.out hg zOm)
    have r1 := zH (own_grown r1.out hg zOm)
    have r2 := zH (own_grown r2.out hg zOm)
    have k2 := zH (k2.out.kept hg zOm)
    have kb := zH (below_gr kb.out hg (by rw [hG.out]; omega) kb.out.size)
    clear hg
    have k1 := zH k1
    go_wp2_with fail
    exact ⟨⟨2, _, by omega, by go_num, k1.out, k2.out, kb.out, by omega, r1.out, fun _ => r2.out, fun _ => own_mono o2.out hs0, fun h => absurd h zOm, fun h => absurd h zOm⟩, by simp [intOf]⟩
  · have r2 := zH (r2 zOm)
    have r3 := zH (r3 zOm)
    clear r4 r5
    have hok : StOwn (G + 2) wr S ⟨vr, vm0, vm1⟩ := ⟨r1.out, r2.out, r3.out⟩
    have hone := zH (StOk.one hok.ok)
    have hok := zH hok
    replace k2 := k2.out
    go_wp2_with (first | (refine zLd ?_) | (refine wpl_storeG rfl _ _ _ rfl _ _ rfl rfl _ k2 zKr rfl hone.out (fun W k2 hg hsz => ?_)))
    have hok2 : StOwn (G + 2) W S ⟨vr, vm0, vm1⟩ := ⟨own_grown hok.out.rv hg zOm, own_grown hok.out.m0 hg zOm, own_grown hok.out.m1 hg zOm⟩
    have kb := below_gr kb.out hg (by rw [hG.out]; omega) kb.out.size
    exact bodyPost_ret (results_arr2 Tryz.results106 _ _ _ rfl zKr _ (by first | assumption | exact Arr.setRow zAm _) zLn) rfl ⟨_, rfl, hok2.mono (by rw [hG.out]; omega), kb⟩
noncomputable def mayB (S : Stt) : Bool := @decide (mayP S) (Classical.propDecidable _)
theorem mayB_iff (S : Stt) : mayB S = true ↔ mayP S := by unfold mayB; simp
theorem mayPost_b {S : Stt} {w : World} {e : Ending} {w' : World} (h : MayPost S w e w') : e = .returned (.bool (mayB S)) ∧ Below w.heap.size w w' := by
 obtain ⟨r, rfl, h1, h2⟩ := h
 refine ⟨?_, h2⟩
 rw [← mayB_iff] at h1
 rw [Bool.eq_iff_iff.2 h1]
theorem mayb_any (S : Stt) (v : Sv) (w : World) (h : StOk w S v) : Calls Tryz.prog 179 #[.agg (S.cs v).toArray] w fun e w' => e = .returned (.bool (mayB S)) ∧ Below w.heap.size w w' :=
 (may_any S v w h).mono fun _ _ h => mayPost_b h
structure StOff (g : Nat) (v : Sv) : Prop where
 rv : v.rv.ownBlock ≠ some g
 m0 : v.m0.ownBlock ≠ some g
 m1 : v.m1.ownBlock ≠ some g
theorem StOwn.off {B g : Nat} {w : World} {S : Stt} {v : Sv} (h : StOwn B w S v) (hg : w.heap.size ≤ g) : StOff g v :=
 ⟨fun e => by have := (h.rv.lt g e).2; omega, fun e => by have := (h.m0.lt g e).2; omega, fun e => by have := (h.m1.lt g e).2; omega⟩
theorem StOwn.kept {B g : Nat} {w w' : World} {S : Stt} {v : Sv} (h : StOwn B w S v) (hg : w.grownBy w' (some g)) (ho : StOff g v) : StOwn B w' S v :=
 ⟨own_keptN h.rv hg ho.rv, own_keptN h.m0 hg ho.m0, own_keptN h.m1 hg ho.m1⟩
theorem StOwn.same {B : Nat} {w : World} {S S' : Stt} {v : Sv} (h : StOwn B w S v) (h1 : S'.rev = S.rev) (h2 : S'.m0 = S.m0) (h3 : S'.m1 = S.m1) : StOwn B w S' v := by
 obtain ⟨r, a, b⟩ := h
 exact ⟨by rw [h1]; exact r, by rw [h2]; exact a, by rw [h3]; exact b⟩
theorem StOwn.grown {B g : Nat} {w w' : World} {S : Stt} {v : Sv} (h : StOwn B w S v) (hg : w.grownBy w' (some g)) (hb : g < B) : StOwn B w' S v := ⟨own_grown h.rv hg hb, own_grown h.m0 hg hb, own_grown h.m1 hg hb⟩
noncomputable def pickS (S : Stt) (b0 b1 : Bool) : Int × Bool :=
 if mayB S = true then
  (if S.act = 0 then (if (S.d1 && decide (S.t1 < 3) && b1) = true then (1, true) else if b0 = true then (0, false) else (-1, false))
  else if S.act = 1 then (if (S.d0 && decide (S.t0 < 3) && b0) = true then (0, true) else if b1 = true then (1, false) else (-1, false))
  else (if (S.d0 && decide (S.t0 < 3) && b0) = true then (0, true) else (-1, false)))
 else (-1, false)
theorem tup2 {a a' : Int} {b b' : Bool} {p : Int × Bool} (h : p = (a, b)) (h1 : a' = a) (h2 : b' = b) : Ending.returned (.tuple #[.int .i64 a', .bool b']) = .returned (.tuple #[.int .i64 p.1, .bool p.2]) := by rw [h, h1, h2]
theorem pick_any (S : Stt) (v : Sv) (b0 b1 : Bool) (w : World) (h : StOk w S v) : Calls Tryz.prog 152 #[.agg (S.cs v).toArray, .agg #[.bool b0, .bool b1]] w fun e w' => e = .returned (.tuple #[.int .i64 (pickS S b0 b1).1, .bool (pickS S b0 b1).2]) ∧ Below w.heap.size w w' := by
 have ho := zH h
 clear h
 obtain ⟨pp, hpp⟩ : ∃ p, pickS S b0 b1 = p := ⟨_, rfl⟩
 rw [hpp]
 replace hpp := zH hpp
 go_enter Tryz.func152, Tryz.ntmps152
 go_upto_region 1 with fail
 refine wp_new2 (fun W hsz k1 k2 kb => ?_)
 have k1 : Arr W w.heap.size (S.cs v) := k1
 have k2 : Arr W (w.heap.size + 1) [.bool b0, .bool b1] := k2
 clear hsz
 replace k2 := zH k2
 go_wp2_with (first | (refine zLd ?_) | fail)
 refine (mayb_any S v _ (ho.out.below kb)).mono ?_
 rintro e w1 ⟨he, hb⟩
 have k1 := k1.below hb
 have k2 := k2.out.below hb
 have kb := bel kb hb
 clear hb
 cases hm : mayB S with
 | false =>
  have hp : Hid (pp = (-1, false)) := zH (by rw [← hpp.out]; unfold pickS; rw [hm]; rfl)
  rw [hm] at he
  subst he
  clear hm k1 k2 hpp
  go_wp2_with fail
  go_ret2
  exact ⟨tup2 hp.out rfl rfl, kb⟩
 | true =>
  rw [hm] at he
  subst he
  have hmp := (mayB_iff S).1 hm
  have hlo := hmp.lo
  have hhi := hmp.hi
  have hpk := hpp.out
  unfold pickS at hpk
  rw [if_pos hm] at hpk
  replace hpk := zH hpk
  replace hm := zH hm
  clear hmp hpp
  replace k2 := zH k2
  go_wp2_with (first | (refine zLd ?_) | fail)
  refine (target_any S v _).mono ?_
  rintro e w2 ⟨he, hb⟩
  have k1 := k1.below hb
  have k2 := k2.out.below hb
  have kb := bel kb hb
  clear hb
  obtain ⟨f, l, m0, d0, t0, m1, d1, t1, a⟩ := S
  simp only at hlo hhi hpk he
  have ha : a = -1 ∨ a = 0 ∨ a = 1 := by omega
  clear hlo hhi
  rcases ha with rfl | rfl | rfl
  all_goals
   (have x3 := k1.cell (j := 3) rfl)
   (have x4 := k1.cell (j := 4) rfl)
   (have x6 := k1.cell (j := 6) rfl)
   (have x7 := k1.cell (j := 7) rfl)
   (have x8 := k1.cell (j := 8) rfl)
   (have y0 := k2.cell (j := 0) rfl)
   (have y1 := k2.cell (j := 1) rfl)
   (simp only at x3 x4 x6 x7 x8)
   (clear k1 k2)
  · replace he : e = .returned (.int .i64 0) := he
    subst he
    have hp := hpk.out
    by_cases ht : t0 < 3
    · simp only [ht] at hp
      clear hpk
      cases d0 <;> cases b0 <;> cases b1 <;> simp at hp <;> replace hp := zH hp.symm
      all_goals
       go_wp2_with fail
       go_ret2
       exact ⟨tup2 hp.out rfl rfl, kb⟩
    · simp only [ht] at hp
      clear hpk
      cases d0 <;> cases b0 <;> cases b1 <;> simp at hp <;> replace hp := zH hp.symm
      all_goals
       go_wp2_with fail
       go_ret2
       exact ⟨tup2 hp.out rfl rfl, kb⟩
  · replace he : e = .returned (.int .i64 1) := he
    subst he
    have hp := hpk.out
    by_cases ht : t1 < 3
    · simp only [ht] at hp
      clear hpk
      cases d1 <;> cases b0 <;> cases b1 <;> simp at hp <;> replace hp := zH hp.symm
      all_goals
       go_wp2_with fail
       go_ret2
       exact ⟨tup2 hp.out rfl rfl, kb⟩
    · simp only [ht] at hp
      clear hpk
      cases d1 <;> cases b0 <;> cases b1 <;> simp at hp <;> replace hp := zH hp.symm
      all_goals
       go_wp2_with fail
       go_ret2
       exact ⟨tup2 hp.out rfl rfl, kb⟩
  · replace he : e = .returned (.int .i64 0) := he
    subst he
    have hp := hpk.out
    by_cases ht : t0 < 3
    · simp only [ht] at hp
      clear hpk
      cases d0 <;> cases b0 <;> cases b1 <;> simp at hp <;> replace hp := zH hp.symm
      all_goals
       go_wp2_with fail
       go_ret2
       exact ⟨tup2 hp.out rfl rfl, kb⟩
    · simp only [ht] at hp
      clear hpk
      cases d0 <;> cases b0 <;> cases b1 <;> simp at hp <;> replace hp := zH hp.symm
      all_goals
       go_wp2_with fail
       go_ret2
       exact ⟨tup2 hp.out rfl rfl, kb⟩
theorem mnum_bad (g : Nat) (w : World) (hc : Cur w g [] true) :
 Calls Tryz.prog 182 #[.pointer (some ⟨g, 0, none⟩)] w fun e w' => e = .returned (.agg (bytn 32 0).toArray) ∧ Below w.heap.size w w' := by
 have hsz1 : Hid ((Tryz.prog.info? 5).map (·.size) = some 1) := zH zKr
 have cR := zH (fun w' (hb : Below w.heap.size w w') => same_below (raw_bad g [] 32 w' (hc.below hb)))
 clear hc
 go_enter Tryz.func182, Tryz.ntmps182
 go_upto_region 2 with fail
 refine wp_new2 (fun W hsz k2 k3 kb => ?_)
 replace k2 : Arr W w.heap.size (bytn 32 0) := k2
 replace k3 : Arr W (w.heap.size + 1) (bytn 32 0) := k3
 obtain ⟨g2, hg2⟩ : ∃ g, w.heap.size = g := ⟨_, rfl⟩
 rw [hg2] at k2 k3 ⊢
 have hw2 : w.heap.size ≤ g2 := by omega
 clear hsz hg2
 refine Tx.start (fun w' => Below (W).heap.size (W) w') 3 4 rfl zKr ?_
 have hS_1 : Below (W).heap.size (W) (World.drew W) := (Below.refl _ _).drew
 refine Tx.seg2 (A := ?_) 2 3 zKr (by exact hS_1) [0, 1] zKr ?_ ?_
 rotate_left
 · intro w' hB
   exact zRd
 refine Tx.eff 2 7 rfl zDk (fun K hK => ?_)
 go_simp
 refine (cR.out _ (bel kb hS_1)).mono ?_
 rintro e w_2 ⟨rfl, hb_2⟩
 have hS_2 := ext_trans hS_1 (Nat.le_refl _) hb_2
 refine hK (fun w' => Below (W).heap.size (W) w') _ _ hS_2 (fun _ h => h) ?_
 clear hK K hb_2 hS_1
 try simp only [Act.put, zSa, zSz, zSs]
 refine Tx.bar 15 rfl zDk (fun K hK => ?_)
 replace k2 := k2.below hS_2
 replace k3 := k3.below hS_2
 replace kb := bel kb hS_2
 clear hS_2
 refine step_copyN rfl _ _ 22 22 rfl 5 Tryz.underlying22 hsz1.out (g2 + 1) 0 32 32 rfl _ k3 (by rw [bytn_len]; decide) _ rfl [] (Sl.nil _) (fun u hu => by cases hu) 0 rfl (bytn 32 0) (by simp) (fun W3 k3 hg hsz => ?_)
 replace k2 := k2.kept hg zOm
 replace kb := below_gr kb hg zOm kb.size
 refine hK (fun _ => True) 9999 _ _ ?_
 clear hK K
 try simp only [Act.put]
 try simp only [zSa, zSz, zSs]
 refine Tx.done zKr ?_
 go_wp2_with (first | (refine wpList_load_arr2 rfl _ _ rfl _ rfl zDk _ k3 (by rw [bytn_len]; kernel_rfl) ?_) | (refine wpl_storeG rfl _ _ _ rfl _ (bytn 32 0) rfl rfl _ k2 (by rw [bytn_len]; kernel_rfl) (by rw [bytn_len]) (bytn_one _ _) (fun w9 k2 hg hsz => ?_)))
 have qb := below_gr kb hg hw2 kb.size
 exact bodyPost_ret (results_arr2 Tryz.results182 _ _ _ rfl zKr _ k2 (by rw [bytn_len]; kernel_rfl)) rfl ⟨rfl, qb⟩
theorem msig_bad (g : Nat) (w : World) (hc : Cur w g [] true) :
 Calls Tryz.prog 183 #[.pointer (some ⟨g, 0, none⟩)] w fun e w' => e = .returned (.agg (bytn 64 0).toArray) ∧ Below w.heap.size w w' := by
 have hsz1 : Hid ((Tryz.prog.info? 5).map (·.size) = some 1) := zH zKr
 have cR := zH (fun w' (hb : Below w.heap.size w w') => same_below (raw_bad g [] 64 w' (hc.below hb)))
 clear hc
 go_enter Tryz.func183, Tryz.ntmps183
 go_upto_region 2 with fail
 refine wp_new2 (fun W hsz k2 k3 kb => ?_)
 replace k2 : Arr W w.heap.size (bytn 64 0) := k2
 replace k3 : Arr W (w.heap.size + 1) (bytn 64 0) := k3
 obtain ⟨g2, hg2⟩ : ∃ g, w.heap.size = g := ⟨_, rfl⟩
 rw [hg2] at k2 k3 ⊢
 have hw2 : w.heap.size ≤ g2 := by omega
 clear hsz hg2
 refine Tx.start (fun w' => Below (W).heap.size (W) w') 3 4 rfl zKr ?_
 have hS_3 : Below (W).heap.size (W) (World.drew W) := (Below.refl _ _).drew
 refine Tx.seg2 (A := ?_) 2 3 zKr (by exact hS_3) [0, 1] zKr ?_ ?_
 rotate_left
 · intro w' hB
   exact zRd
 refine Tx.eff 2 7 rfl zDk (fun K hK => ?_)
 go_simp
 refine (cR.out _ (bel kb hS_3)).mono ?_
 rintro e w_4 ⟨rfl, hb_4⟩
 have hS_4 := ext_trans hS_3 (Nat.le_refl _) hb_4
 refine hK (fun w' => Below (W).heap.size (W) w') _ _ hS_4 (fun _ h => h) ?_
 clear hK K hb_4 hS_3
 try simp only [Act.put, zSa, zSz, zSs]
 refine Tx.bar 15 rfl zDk (fun K hK => ?_)
 replace k2 := k2.below hS_4
 replace k3 := k3.below hS_4
 replace kb := bel kb hS_4
 clear hS_4
 refine step_copyN rfl _ _ 22 22 rfl 5 Tryz.underlying22 hsz1.out (g2 + 1) 0 64 64 rfl _ k3 (by rw [bytn_len]; decide) _ rfl [] (Sl.nil _) (fun u hu => by cases hu) 0 rfl (bytn 64 0) (by simp) (fun W3 k3 hg hsz => ?_)
 replace k2 := k2.kept hg zOm
 replace kb := below_gr kb hg zOm kb.size
 refine hK (fun _ => True) 9999 _ _ ?_
 clear hK K
 try simp only [Act.put]
 try simp only [zSa, zSz, zSs]
 refine Tx.done zKr ?_
 go_wp2_with (first | (refine wpList_load_arr2 rfl _ _ rfl _ rfl zDk _ k3 (by rw [bytn_len]; kernel_rfl) ?_) | (refine wpl_storeG rfl _ _ _ rfl _ (bytn 64 0) rfl rfl _ k2 (by rw [bytn_len]; kernel_rfl) (by rw [bytn_len]) (bytn_one _ _) (fun w9 k2 hg hsz => ?_)))
 have qb := below_gr kb hg hw2 kb.size
 exact bodyPost_ret (results_arr2 Tryz.results183 _ _ _ rfl zKr _ k2 (by rw [bytn_len]; kernel_rfl)) rfl ⟨rfl, qb⟩
end Go.Proofs.YtncnlfpiondpnaaGreat
