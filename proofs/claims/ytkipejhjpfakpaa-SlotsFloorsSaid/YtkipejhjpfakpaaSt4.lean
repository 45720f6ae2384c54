/- slots: New, target, Copy; the reference's. -/
import Derived.Test.YtkipejhjpfakpaaSt3
import Derived.Test.YtkipejhjpfakpaaGr
import Derived.Test.YtkipejhjpfakpaaAp
namespace Go.Proofs.Ytkipejhjpfakpaa
open Go.RowKit

theorem info_int : (Try.prog.info? 3).map (fun i => (i.zero, i.size, i.bytes)) = some (some (.int .i64 0), 1, 8) := by kernel_rfl

/-- A state that is handed back, in memory of its own. -/
def RetSt (S : Stt) (w : World) (e : Ending) (w' : World) : Prop := ∃ v : Sv, e = .returned (.agg (S.cs v).toArray) ∧ StOwn w.heap.size w' S v ∧ Below w.heap.size w w'

/-- The state of nothing. -/
def newS : Stt := ⟨0, [], [], false, 0, [], false, 0, -1⟩
/-- The zero state. -/
def zeroS : Stt := ⟨0, [], [], false, 0, [], false, 0, 0⟩
def nilSv : Sv := ⟨.slice none 0 0, .slice none 0 0, .slice none 0 0⟩
theorem newS_own (B : Nat) (w : World) : StOwn B w newS nilSv := ⟨World.ownsRow_nil _ _ _ _, World.ownsRow_nil _ _ _ _, World.ownsRow_nil _ _ _ _⟩
theorem zeroS_own (B : Nat) (w : World) : StOwn B w zeroS nilSv := ⟨World.ownsRow_nil _ _ _ _, World.ownsRow_nil _ _ _ _, World.ownsRow_nil _ _ _ _⟩

theorem new_any (w : World) : Calls Try.prog 27 #[] w (RetSt newS w) := by
  go_enter Try.func27, Try.ntmps27
  go_wp2_with fail
  exact bodyPost_ret (v := .agg (newS.cs nilSv).toArray) (by simp [results, Try.results27, go_sem, Stt.cs, newS, nilSv]) rfl ⟨nilSv, rfl, newS_own _ _, below_alloc _ _⟩

theorem newState_any (w : World) : Calls Try.prog 65 #[] w (RetSt newS w) := by
  go_enter Try.func65, Try.ntmps65
  go_wp2_with fail
  exact bodyPost_ret (v := .agg (newS.cs nilSv).toArray) (by simp [results, Try.results65, go_sem, Stt.cs, newS, nilSv]) rfl ⟨nilSv, rfl, newS_own _ _, below_alloc _ _⟩

def tgt (a : Int) : Int := if a = 0 then 1 else 0
theorem target_any (S : Stt) (v : Sv) (w : World) : Calls Try.prog 38 #[.agg (S.cs v).toArray] w fun e w' => e = .returned (.int .i64 (tgt S.act)) ∧ Below w.heap.size w w' := by
  obtain ⟨f, l, m0, d0, t0, m1, d1, t1, a⟩ := S
  simp only [Stt.cs, tgt]
  by_cases h : a = 0
  · rw [if_pos h]
    go_enter Try.func38, Try.ntmps38
    go_wp2_with fail
    go_ret
    exact ⟨rfl, below_alloc _ _⟩
  · rw [if_neg h]
    go_enter Try.func38, Try.ntmps38
    go_wp2_with fail
    go_ret
    exact ⟨rfl, below_alloc _ _⟩

theorem own_shape {w : World} {base : Nat} {e : TypeId} {v : Value} {n : Nat} {xs : List Value} (h : w.ownsRow base e 1 v n xs) : ∃ a c, v = .slice a n c := by
  obtain ⟨a, cap, rfl, -⟩ := Sl.of_own h
  have := h.1
  exact ⟨a, cap, by rw [this, Nat.mul_one]⟩

/-- slices.Clone of numbers. -/
theorem cloneI_some (x : Addr) (len cap : Nat) (l : List Int) (w : World) (hl : l.length = len) (hr : len * 8 ≤ 140737488355328) (hc : Cells w x (ints l)) :
    Calls Try.prog 67 #[.slice (some x) len cap] w fun e w' =>
      ∃ v, e = .returned v ∧ w'.ownsRow w.heap.size 3 1 v len (ints l) ∧ Below w.heap.size w w' := by
  obtain ⟨i, hi, hz0, hz1, hz2⟩ := info_parts info_int
  have hnil := fun (x : Option Addr) (n c : Nat) => Lib.run_eql_slice_nil (P := Try.prog) w 22 3 x n c 0 0 Try.underlying22
  have hc' : Hid (Cells (w.alloc (.cells #[] 3)) x (ints l)) := hc.alloc _
  clear hc
  have hl' := Lib.hid hl
  clear hl
  go_enter Try.func67, Try.ntmps67
  go_wp2_with (at_builtin; refine wpList_append_own _ rfl _ _ 22 rfl w.heap.size 3 i (.int .i64 0) 1 8 Try.underlying22 hi hz0 hz1 hz2 rfl (by decide) _ 0 [] rfl (World.ownsRow_made _ _ _ (Nat.le_refl _) (Nat.zero_le _) rfl) x len cap (ints l) rfl ?c1 hc'.out (ints_one l) ?c2 ?c3 ?c4 ?_)
  case c1 => rw [ints_len]; have := hl'.out; omega
  case c2 => unfold maxLen; omega
  case c3 => omega
  case c4 => simp
  intro v' w' hown hg hn
  go_wp2
  go_ret
  refine ⟨v', rfl, by simpa using hown, ((Below.refl _ _).alloc (Nat.le_refl _) _).grown hg (by simp) ?_⟩
  intro k hk; simp [Value.ownBlock] at hk; omega

theorem cloneI_any (v : Value) (l : List Int) (w : World) (hb : Sl w v (ints l)) (hr : l.length * 8 ≤ 140737488355328) :
    Calls Try.prog 67 #[v] w fun e w' => ∃ v, e = .returned v ∧ w'.ownsRow w.heap.size 3 1 v l.length (ints l) ∧ Below w.heap.size w w' := by
  obtain ⟨a, cap, rfl, h2, h3, h4, h5⟩ := hb
  rw [ints_len] at *
  cases a with
  | none =>
    obtain rfl := h4 rfl
    have : l = [] := List.eq_nil_of_length_eq_zero (by omega)
    subst this
    have hnil := fun (x : Option Addr) (n c : Nat) => Lib.run_eql_slice_nil (P := Try.prog) w 22 3 x n c 0 0 Try.underlying22
    go_enter Try.func67, Try.ntmps67
    go_wp2
    go_ret
    exact ⟨_, rfl, World.ownsRow_nil _ _ _ _, Below.refl _ _⟩
  | some x => exact cloneI_some x l.length cap l w rfl hr (h5 x rfl)

/-- What fits. -/
structure StFit (S : Stt) : Prop where
  rv : S.rev.length ≤ 1000000
  m0 : S.m0.length ≤ 1000000
  m1 : S.m1.length ≤ 1000000

/-- Behind j rounds of a copy. -/
structure CpRel (j B : Nat) (w : World) (S : Stt) (v v' : Sv) : Prop where
  rv : w.ownsRow B 3 1 v'.rv S.rev.length (ints S.rev)
  m0 : 0 < j → w.ownsRow B 5 1 v'.m0 S.m0.length (u8s S.m0)
  m1 : 1 < j → w.ownsRow B 5 1 v'.m1 S.m1.length (u8s S.m1)
  e0 : j = 0 → v'.m0 = v.m0
  e1 : j ≤ 1 → v'.m1 = v.m1

theorem cs_mid0 {S : Stt} {v : Sv} (x : Value) : (S.cs v).set 2 x = S.cs { v with m0 := x } := rfl
theorem cs_mid1 {S : Stt} {v : Sv} (x : Value) : (S.cs v).set 5 x = S.cs { v with m1 := x } := rfl
theorem cs_rv {S : Stt} {v : Sv} (x : Value) : (S.cs v).set 1 x = S.cs { v with rv := x } := rfl

set_option maxHeartbeats 4000000 in
set_option maxRecDepth 100000 in
theorem copy_any (S : Stt) (v : Sv) (w : World) (h : StOk w S v) (hf : StFit S) : Calls Try.prog 61 #[.agg (S.cs v).toArray] w (RetSt S w) := by
  have hf1 := hf.rv
  have hf2 := hf.m0
  have hf3 := hf.m1
  have ho := Lib.hid h
  clear h hf
  go_enter Try.func61, Try.ntmps61
  go_upto_region 1 with fail
  refine wp_new2 (fun W hsz k1 k2 kb => ?_)
  have k1 : Arr W w.heap.size (S.cs v) := k1
  obtain ⟨G, hG⟩ : ∃ G, w.heap.size = G := ⟨_, rfl⟩
  rw [hG] at k1 k2 hsz ⊢
  replace hG := Lib.hid hG
  have x1 := k1.cell (j := 1) rfl
  go_wp2_with fail
  refine (cloneI_any _ _ _ (ho.out.rv.below kb) (by omega)).mono ?_
  rintro e w1 ⟨vr, rfl, o1, hb⟩
  obtain ⟨ar, cr, rfl⟩ := own_shape o1
  have k1 := k1.below hb
  have k2 := k2.below hb
  have kb := bel kb hb
  have hs1 := hb.size
  clear x1 hb
  replace k2 := Lib.hid k2
  replace kb := Lib.hid kb
  replace o1 := Lib.hid o1
  replace hsz := Lib.hid hsz
  have hc1 := k1.cell (j := 1) rfl
  have hf1 := k1.frozen 1
  replace k1 := Lib.hid k1
  go_upto_region 2 with fail
  refine code_cellG k1.out (fun w2 k1 hg hs2 => ?_)
  rw [cs_rv] at k1
  clear hc1 hf1
  have o1 := Lib.hid (own_grown o1.out hg (by have := hsz.out; omega))
  have k2 := Lib.hid (k2.out.kept hg (by omega))
  have kb := Lib.hid (below_gr kb.out hg (by rw [hG.out]; omega) kb.out.size)
  have hs0 : G + 2 ≤ w2.heap.size := by have := hsz.out; omega
  have o1 : Hid (w2.ownsRow (G + 2) 3 1 (.slice ar S.rev.length cr) S.rev.length (ints S.rev)) := by have := own_mono (base' := G + 2) o1.out (by have := hsz.out; omega); exact this
  clear hg hs2 hs1 hsz
  replace k1 := Lib.hid k1
  go_wp2_with fail
  go_loopw [8] (fun jv wr => ∃ (j : Nat) (v' : Sv), j ≤ 2 ∧ jv = .int .i64 j ∧ Arr wr G (S.cs v') ∧ Arr wr (G + 1) (zeroS.cs nilSv) ∧ Below w.heap.size w wr ∧ G + 2 ≤ wr.heap.size ∧ CpRel j (G + 2) wr S v v') (fun jv _ => 2 - (intOf jv).toNat)
  case atStart => exact ⟨0, _, by omega, rfl, k1.out, k2.out, kb.out, hs0, o1.out, fun h => absurd h (by omega), fun h => absurd h (by omega), fun _ => rfl, fun _ => rfl⟩
  case round =>
    clear k1 k2 kb o1 hs0
    obtain ⟨j, v', hj, rfl, k1, k2, kb, hs0, hr⟩ := hrel
    obtain ⟨vr, vm0, vm1⟩ := v'
    obtain ⟨r1, r2, r3, r4, r5⟩ := hr
    simp only at r1 r2 r3 r4 r5
    have r1 := Lib.hid r1
    have k2 := Lib.hid k2
    have kb := Lib.hid kb
    obtain rfl | rfl | rfl : j = 0 ∨ j = 1 ∨ j = 2 := by omega
    · obtain rfl := r4 rfl
      obtain rfl := r5 (by omega)
      clear r2 r3 r4 r5
      have x2 := k1.cell (j := 2) rfl
      go_upto_region 5 with fail
      go_wp2_with fail
      refine (clone_any _ S.m0 _ (ho.out.m0.below kb.out) (by omega)).mono ?_
      rintro e w1 ⟨u, rfl, o2, hb, -⟩
      obtain ⟨a2, c2, rfl⟩ := own_shape o2
      have k1 := k1.below hb
      have k2 := Lib.hid (k2.out.below hb)
      have kb := Lib.hid (bel kb.out hb)
      have r1 := Lib.hid (own_below r1.out hb)
      have o2 := Lib.hid o2
      have hsb := hb.size
      have hc1 := k1.cell (j := 2) rfl
      have hf1 := k1.frozen 2
      replace k1 := Lib.hid k1
      clear hb x2
      go_upto_region 6 with fail
      refine code_cellG k1.out (fun w2 k1 hg hs2 => ?_)
      rw [cs_mid0] at k1
      clear hc1 hf1
      have o2 := Lib.hid (own_grown o2.out hg (by omega))
      have r1 := Lib.hid (own_grown r1.out hg (by omega))
      have k2 := Lib.hid (k2.out.kept hg (by omega))
      have kb := Lib.hid (below_gr kb.out hg (by rw [hG.out]; omega) kb.out.size)
      clear hg
      have k1 := Lib.hid k1
      go_wp2_with fail
      exact ⟨⟨1, _, by omega, by go_num, k1.out, k2.out, kb.out, by omega, r1.out, fun _ => own_mono o2.out hs0, fun h => absurd h (by omega), fun h => absurd h (by omega), fun _ => rfl⟩, by simp [intOf]⟩
    · obtain rfl := r5 (by omega)
      have r2 := Lib.hid (r2 (by omega))
      clear r3 r4 r5
      have x2 := k1.cell (j := 5) rfl
      go_upto_region 5 with fail
      go_wp2_with fail
      refine (clone_any _ S.m1 _ (ho.out.m1.below kb.out) (by omega)).mono ?_
      rintro e w1 ⟨u, rfl, o2, hb, -⟩
      obtain ⟨a2, c2, rfl⟩ := own_shape o2
      have k1 := k1.below hb
      have k2 := Lib.hid (k2.out.below hb)
      have kb := Lib.hid (bel kb.out hb)
      have r1 := Lib.hid (own_below r1.out hb)
      have r2 := Lib.hid (own_below r2.out hb)
      have o2 := Lib.hid o2
      have hsb := hb.size
      have hc1 := k1.cell (j := 5) rfl
      have hf1 := k1.frozen 5
      replace k1 := Lib.hid k1
      clear hb x2
      go_upto_region 6 with fail
      refine code_cellG k1.out (fun w2 k1 hg hs2 => ?_)
      rw [cs_mid1] at k1
      clear hc1 hf1
      have o2 := Lib.hid (own_grown o2.out hg (by omega))
      have r1 := Lib.hid (own_grown r1.out hg (by omega))
      have r2 := Lib.hid (own_grown r2.out hg (by omega))
      have k2 := Lib.hid (k2.out.kept hg (by omega))
      have kb := Lib.hid (below_gr kb.out hg (by rw [hG.out]; omega) kb.out.size)
      clear hg
      have k1 := Lib.hid k1
      go_wp2_with fail
      exact ⟨⟨2, _, by omega, by go_num, k1.out, k2.out, kb.out, by omega, r1.out, fun _ => r2.out, fun _ => own_mono o2.out hs0, fun h => absurd h (by omega), fun h => absurd h (by omega)⟩, by simp [intOf]⟩
    · have r2 := Lib.hid (r2 (by omega))
      have r3 := Lib.hid (r3 (by omega))
      clear r4 r5
      have hok : StOwn (G + 2) wr S ⟨vr, vm0, vm1⟩ := ⟨r1.out, r2.out, r3.out⟩
      have hone := Lib.hid (StOk.one hok.ok)
      have hok := Lib.hid hok
      replace k2 := k2.out
      go_wp2_with (first | (refine wpList_load_arr2 rfl _ _ rfl _ rfl (by decide +kernel) _ (by assumption) (by first | (rw [lims_len]; kernel_rfl) | (rw [el_rep]; kernel_rfl) | (rw [el_len]; kernel_rfl) | (rw [byts_len]; kernel_rfl) | (rw [us_len]; kernel_rfl) | (rw [bytn_len]; kernel_rfl) | (rw [ens_len, digs_len]; kernel_rfl) | kernel_rfl) ?_) | (refine wpl_storeG rfl _ _ _ rfl _ _ rfl rfl _ k2 (by kernel_rfl) rfl hone.out (fun W k2 hg hsz => ?_)))
      have hok2 : StOwn (G + 2) W S ⟨vr, vm0, vm1⟩ := ⟨own_grown hok.out.rv hg (by omega), own_grown hok.out.m0 hg (by omega), own_grown hok.out.m1 hg (by omega)⟩
      have kb := below_gr kb.out hg (by rw [hG.out]; omega) kb.out.size
      exact bodyPost_ret (results_arr2 Try.results61 _ _ _ rfl (by kernel_rfl) _ (by first | assumption | exact Arr.setRow (by assumption) _) (by first | (rw [lims_len]; kernel_rfl) | (rw [el_rep]; kernel_rfl) | (rw [el_len]; kernel_rfl) | (rw [byts_len]; kernel_rfl) | (rw [us_len]; kernel_rfl) | (rw [bytn_len]; kernel_rfl) | (rw [ens_len, digs_len]; kernel_rfl) | kernel_rfl)) rfl ⟨_, rfl, hok2.mono (by rw [hG.out]; omega), kb⟩

theorem below_nil {w w' : World} (hg : w.grownBy w' (Value.slice none 0 0).ownBlock) : Below w.heap.size w w' := (Below.refl _ _).grown hg (Nat.le_refl _) (fun k hk => by simp [Value.ownBlock] at hk)
theorem own_nil_ints {w : World} {B : Nat} {v : Value} {l : List Int} (h : w.ownsRow B 3 1 v (ints l).length (ints l)) : w.ownsRow B 3 1 v l.length (ints l) := by
  rwa [ints_len] at h
theorem own_nil_u8s {w : World} {B : Nat} {v : Value} {l : List UInt8} (h : w.ownsRow B 5 1 v (u8s l).length (u8s l)) : w.ownsRow B 5 1 v l.length (u8s l) := by
  rwa [u8s_len] at h

set_option maxHeartbeats 4000000 in
set_option maxRecDepth 100000 in
theorem copyState_any (S : Stt) (v : Sv) (w : World) (h : StOk w S v) (hf : StFit S) : Calls Try.prog 29 #[.agg (S.cs v).toArray] w (RetSt S w) := by
  have hf1 := hf.rv
  have hf2 := hf.m0
  have hf3 := hf.m1
  have ho := Lib.hid h
  obtain ⟨ti, hti, htz0, htz1, htz2⟩ := info_parts info_int
  obtain ⟨tb, htb, hbz0, hbz1, hbz2⟩ := info_parts info_u8
  clear h hf
  go_enter Try.func29, Try.ntmps29
  go_upto_region 1 with fail
  refine wp_new2 (fun W hsz k1 k2 kb => ?_)
  have k1 : Arr W w.heap.size (S.cs v) := k1
  obtain ⟨G, hG⟩ : ∃ G, w.heap.size = G := ⟨_, rfl⟩
  rw [hG] at k1 k2 hsz ⊢
  replace hG := Lib.hid hG
  have x1 := k1.cell (j := 1) rfl
  have hsl := Lib.hid (ho.out.rv.below kb)
  go_wp2_with (at_builtin; refine wpList_append_sl rfl _ _ 22 rfl W.heap.size 3 Try.underlying22 hti htz0 htz1 htz2 rfl _ 0 [] rfl (World.ownsRow_nil _ _ _ _) _ (ints S.rev) rfl hsl.out (ints_one _) ?c2 ?c3 (Nat.le_refl _) ?_)
  case c2 => rw [ints_len]; unfold maxLen; omega
  case c3 => rw [ints_len]; omega
  intro vr w1 o1 hg
  have hb := below_nil hg
  have o1 := own_nil_ints o1
  clear hg hsl
  obtain ⟨ar, cr, rfl⟩ := own_shape o1
  have k1 := k1.below hb
  have k2 := k2.below hb
  have kb := bel kb hb
  have hs1 := hb.size
  clear x1 hb
  replace k2 := Lib.hid k2
  replace kb := Lib.hid kb
  replace o1 := Lib.hid o1
  replace hsz := Lib.hid hsz
  have hc1 := k1.cell (j := 1) rfl
  have hf1 := k1.frozen 1
  replace k1 := Lib.hid k1
  go_upto_region 2 with fail
  refine code_cellG k1.out (fun w2 k1 hg hs2 => ?_)
  rw [cs_rv] at k1
  clear hc1 hf1
  have o1 := Lib.hid (own_grown o1.out hg (by have := hsz.out; omega))
  have k2 := Lib.hid (k2.out.kept hg (by omega))
  have kb := Lib.hid (below_gr kb.out hg (by rw [hG.out]; omega) kb.out.size)
  have hs0 : G + 2 ≤ w2.heap.size := by have := hsz.out; omega
  have o1 : Hid (w2.ownsRow (G + 2) 3 1 (.slice ar S.rev.length cr) S.rev.length (ints S.rev)) := by have := own_mono (base' := G + 2) o1.out (by have := hsz.out; omega); exact this
  clear hg hs2 hs1 hsz
  replace k1 := Lib.hid k1
  go_wp2_with fail
  go_loopw [3] (fun jv wr => ∃ (j : Nat) (v' : Sv), j ≤ 2 ∧ jv = .int .i64 j ∧ Arr wr G (S.cs v') ∧ Arr wr (G + 1) (zeroS.cs nilSv) ∧ Below w.heap.size w wr ∧ G + 2 ≤ wr.heap.size ∧ CpRel j (G + 2) wr S v v') (fun jv _ => 2 - (intOf jv).toNat)
  case atStart => exact ⟨0, _, by omega, rfl, k1.out, k2.out, kb.out, hs0, o1.out, fun h => absurd h (by omega), fun h => absurd h (by omega), fun _ => rfl, fun _ => rfl⟩
  case round =>
    clear k1 k2 kb o1 hs0
    obtain ⟨j, v', hj, rfl, k1, k2, kb, hs0, hr⟩ := hrel
    obtain ⟨vr, vm0, vm1⟩ := v'
    obtain ⟨r1, r2, r3, r4, r5⟩ := hr
    simp only at r1 r2 r3 r4 r5
    have r1 := Lib.hid r1
    have k2 := Lib.hid k2
    have kb := Lib.hid kb
    obtain rfl | rfl | rfl : j = 0 ∨ j = 1 ∨ j = 2 := by omega
    · obtain rfl := r4 rfl
      obtain rfl := r5 (by omega)
      clear r2 r3 r4 r5
      have x2 := k1.cell (j := 2) rfl
      go_upto_region 5 with fail
      have hsl := Lib.hid (ho.out.m0.below kb.out)
      go_wp2_with (at_builtin; refine wpList_append_sl rfl _ _ 23 rfl wr.heap.size 5 Try.underlying23 htb hbz0 hbz1 hbz2 rfl _ 0 [] rfl (World.ownsRow_nil _ _ _ _) _ (u8s S.m0) rfl hsl.out (u8s_one _) ?d2a ?d3a (Nat.le_refl _) ?_)
      case d2a => rw [u8s_len]; unfold maxLen; omega
      case d3a => rw [u8s_len]; omega
      intro u w1 o2 hg
      have hb := below_nil hg
      have o2 := own_nil_u8s o2
      clear hg hsl
      obtain ⟨a2, c2, rfl⟩ := own_shape o2
      have k1 := k1.below hb
      have k2 := Lib.hid (k2.out.below hb)
      have kb := Lib.hid (bel kb.out hb)
      have r1 := Lib.hid (own_below r1.out hb)
      have o2 := Lib.hid o2
      have hsb := hb.size
      have hc1 := k1.cell (j := 2) rfl
      have hf1 := k1.frozen 2
      replace k1 := Lib.hid k1
      clear hb x2
      go_upto_region 4 with fail
      refine code_cellG k1.out (fun w2 k1 hg hs2 => ?_)
      rw [cs_mid0] at k1
      clear hc1 hf1
      have o2 := Lib.hid (own_grown o2.out hg (by omega))
      have r1 := Lib.hid (own_grown r1.out hg (by omega))
      have k2 := Lib.hid (k2.out.kept hg (by omega))
      have kb := Lib.hid (below_gr kb.out hg (by rw [hG.out]; omega) kb.out.size)
      clear hg
      have k1 := Lib.hid k1
      go_wp2_with fail
      exact ⟨⟨1, _, by omega, by go_num, k1.out, k2.out, kb.out, by omega, r1.out, fun _ => own_mono o2.out hs0, fun h => absurd h (by omega), fun h => absurd h (by omega), fun _ => rfl⟩, by simp [intOf]⟩
    · obtain rfl := r5 (by omega)
      have r2 := Lib.hid (r2 (by omega))
      clear r3 r4 r5
      have x2 := k1.cell (j := 5) rfl
      go_upto_region 5 with fail
      have hsl := Lib.hid (ho.out.m1.below kb.out)
      go_wp2_with (at_builtin; refine wpList_append_sl rfl _ _ 23 rfl wr.heap.size 5 Try.underlying23 htb hbz0 hbz1 hbz2 rfl _ 0 [] rfl (World.ownsRow_nil _ _ _ _) _ (u8s S.m1) rfl hsl.out (u8s_one _) ?d2b ?d3b (Nat.le_refl _) ?_)
      case d2b => rw [u8s_len]; unfold maxLen; omega
      case d3b => rw [u8s_len]; omega
      intro u w1 o2 hg
      have hb := below_nil hg
      have o2 := own_nil_u8s o2
      clear hg hsl
      obtain ⟨a2, c2, rfl⟩ := own_shape o2
      have k1 := k1.below hb
      have k2 := Lib.hid (k2.out.below hb)
      have kb := Lib.hid (bel kb.out hb)
      have r1 := Lib.hid (own_below r1.out hb)
      have r2 := Lib.hid (own_below r2.out hb)
      have o2 := Lib.hid o2
      have hsb := hb.size
      have hc1 := k1.cell (j := 5) rfl
      have hf1 := k1.frozen 5
      replace k1 := Lib.hid k1
      clear hb x2
      go_upto_region 4 with fail
      refine code_cellG k1.out (fun w2 k1 hg hs2 => ?_)
      rw [cs_mid1] at k1
      clear hc1 hf1
      have o2 := Lib.hid (own_grown o2.out hg (by omega))
      have r1 := Lib.hid (own_grown r1.out hg (by omega))
      have r2 := Lib.hid (own_grown r2.out hg (by omega))
      have k2 := Lib.hid (k2.out.kept hg (by omega))
      have kb := Lib.hid (below_gr kb.out hg (by rw [hG.out]; omega) kb.out.size)
      clear hg
      have k1 := Lib.hid k1
      go_wp2_with fail
      exact ⟨⟨2, _, by omega, by go_num, k1.out, k2.out, kb.out, by omega, r1.out, fun _ => r2.out, fun _ => own_mono o2.out hs0, fun h => absurd h (by omega), fun h => absurd h (by omega)⟩, by simp [intOf]⟩
    · have r2 := Lib.hid (r2 (by omega))
      have r3 := Lib.hid (r3 (by omega))
      clear r4 r5
      have hok : StOwn (G + 2) wr S ⟨vr, vm0, vm1⟩ := ⟨r1.out, r2.out, r3.out⟩
      have hone := Lib.hid (StOk.one hok.ok)
      have hok := Lib.hid hok
      replace k2 := k2.out
      go_wp2_with (first | (refine wpList_load_arr2 rfl _ _ rfl _ rfl (by decide +kernel) _ (by assumption) (by first | (rw [lims_len]; kernel_rfl) | (rw [el_rep]; kernel_rfl) | (rw [el_len]; kernel_rfl) | (rw [byts_len]; kernel_rfl) | (rw [us_len]; kernel_rfl) | (rw [bytn_len]; kernel_rfl) | (rw [ens_len, digs_len]; kernel_rfl) | kernel_rfl) ?_) | (refine wpl_storeG rfl _ _ _ rfl _ _ rfl rfl _ k2 (by kernel_rfl) rfl hone.out (fun W k2 hg hsz => ?_)))
      have hok2 : StOwn (G + 2) W S ⟨vr, vm0, vm1⟩ := ⟨own_grown hok.out.rv hg (by omega), own_grown hok.out.m0 hg (by omega), own_grown hok.out.m1 hg (by omega)⟩
      have kb := below_gr kb.out hg (by rw [hG.out]; omega) kb.out.size
      exact bodyPost_ret (results_arr2 Try.results29 _ _ _ rfl (by kernel_rfl) _ (by first | assumption | exact Arr.setRow (by assumption) _) (by first | (rw [lims_len]; kernel_rfl) | (rw [el_rep]; kernel_rfl) | (rw [el_len]; kernel_rfl) | (rw [byts_len]; kernel_rfl) | (rw [us_len]; kernel_rfl) | (rw [bytn_len]; kernel_rfl) | (rw [ens_len, digs_len]; kernel_rfl) | kernel_rfl)) rfl ⟨_, rfl, hok2.mono (by rw [hG.out]; omega), kb⟩

end Go.Proofs.Ytkipejhjpfakpaa
