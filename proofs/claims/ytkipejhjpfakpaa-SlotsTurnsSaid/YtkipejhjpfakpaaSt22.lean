/- slots: the law SlotsTurns, walked. -/
import Derived.Test.YtkipejhjpfakpaaSt13
import Derived.Test.YtkipejhjpfakpaaSt16
import Derived.Test.YtkipejhjpfakpaaInS
import Derived.Test.YtkipejhjpfakpaaSv1
namespace Go.Proofs.Ytkipejhjpfakpaa
open Go.RowKit

theorem newS_fit : StFit newS := ⟨Nat.zero_le _, Nat.zero_le _, Nat.zero_le _⟩
theorem zeroS_fit : StFit zeroS := ⟨Nat.zero_le _, Nat.zero_le _, Nat.zero_le _⟩
theorem chg_fit {F : Stt → Stt} (hF : ∀ S, mayP S → mayP (F S)) (S : Stt) : StFit (chg F S) := by
  unfold chg
  split
  · rename_i h
    exact mayP_fit (hF S ((mayB_iff S).1 h))
  · exact newS_fit
theorem putS_fit (S : Stt) (m : List UInt8) : StFit (putS S m) := by
  unfold putS
  split
  · rename_i h
    exact chg_fit (fun S hS => mayP_putC hS h) S
  · exact newS_fit
theorem doneS_fit (S : Stt) : StFit (doneS S) := chg_fit (fun _ h => mayP_doneC h) S
theorem tryS_fit (S : Stt) : StFit (tryS S) := chg_fit (fun _ h => mayP_tryC h) S
theorem confirmS_fit (S : Stt) (ver : Int) : StFit (confirmS S ver) := chg_fit (fun _ h => mayP_confirmC h) S
theorem revokeS_fit (S : Stt) (id : Int) : StFit (revokeS S id).1 := by
  unfold revokeS
  split
  · rename_i h
    simp only [Bool.and_eq_true] at h
    have hf := mayP_fit ((mayB_iff S).1 h.1)
    split
    · exact hf
    · split
      · exact zeroS_fit
      · refine ⟨?_, hf.m0, hf.m1⟩
        rename_i h32
        have : (insL S.rev (S.rev.countP (· < id)) id).length = S.rev.length + 1 := insL_len List.countP_le_length
        simp only [this]
        omega
  · exact zeroS_fit

/-- A list of n bytes of its own, whichever. -/
def XOk (w : World) (base n : Nat) (v : Value) : Prop :=
  ∃ xs : List Value, (∀ u ∈ xs, ∃ z : Int, u = .int .u8 z) ∧ w.ownsRow base 5 1 v n xs

theorem XOk.of {w : World} {base : Nat} {v : Value} {bs : List UInt8} (h : w.ownsRow base 5 1 v bs.length (u8s bs)) : XOk w base bs.length v :=
  ⟨u8s bs, fun u hu => by simp only [u8s, List.mem_map] at hu; obtain ⟨b, -, rfl⟩ := hu; exact ⟨_, rfl⟩, h⟩

theorem XOk.step {w : World} {base g n cap j : Nat} (h : XOk w base n (.slice (some ⟨g, 0, none⟩) n cap)) (z : Int) : XOk (w.setCell ⟨g, j, none⟩ (.int .u8 z)) base n (.slice (some ⟨g, 0, none⟩) n cap) := by
  obtain ⟨xs, h1, h2⟩ := h
  refine ⟨xs.set j (.int .u8 z), fun u hu => ?_, (h2.stored j _).1⟩
  rcases List.mem_or_eq_of_mem_set hu with h | rfl
  · exact h1 u h
  · exact ⟨z, rfl⟩

theorem XOk.at {w : World} {base n j c : Nat} {a : Option Addr} (h : XOk w base n (.slice a n c)) (hj : j < n) : ∃ g z, a = some ⟨g, 0, none⟩ ∧ base ≤ g ∧ w.cell? ⟨g, j, none⟩ = some (.int .u8 z) ∧ w.frozen? ⟨g, j, none⟩ = false := by
  obtain ⟨xs, h1, h2⟩ := h
  have hx := h2.1
  rw [Nat.mul_one] at hx
  rcases id h2.2 with ⟨-, h0⟩ | ⟨g, cap, cur, he, hb, _⟩
  · omega
  · simp only [Value.slice.injEq] at he
    obtain ⟨rfl, -, -⟩ := he
    obtain ⟨z, hz⟩ := h1 xs[j] (List.getElem_mem (by omega))
    refine ⟨g, z, rfl, hb, ?_, h2.frozenAt j⟩
    rw [h2.cellAt j (by omega), List.getElem?_eq_getElem (by omega), hz]

theorem XOk.shape {w : World} {base n : Nat} {v : Value} (h : XOk w base n v) : ∃ a c, v = .slice a n c := by
  obtain ⟨xs, h1, h2⟩ := h
  rcases id h2.2 with ⟨rfl, rfl⟩ | ⟨g, cap, cur, rfl, _⟩ <;> exact ⟨_, _, rfl⟩

theorem num_b (n : Int) (w : World) : Calls Try.prog 23 #[.int .i64 n] w fun e w' => e = .returned (.int .i64 n) ∧ Below w.heap.size w w' :=
  (num_any n w).mono fun _ _ h => ⟨h.1, by rw [h.2]; exact Below.refl _ _⟩

/-- A cell of whichever block is written: a row of one's own stays one. -/
theorem own_any_set {w : World} {B : Nat} {e : TypeId} {v : Value} {n : Nat} {xs : List Value} (h : w.ownsRow B e 1 v n xs) (g j : Nat) (u : Value) : ∃ ys, (w.setCell ⟨g, j, none⟩ u).ownsRow B e 1 v n ys := by
  by_cases hv : v.ownBlock = some g
  · rcases h.2 with ⟨h3, -⟩ | ⟨g', cap, cur, h3, -⟩
    · subst h3
      cases hv
    · subst h3
      obtain rfl : g' = g := by simpa [Value.ownBlock] using hv
      exact ⟨_, own_set1 h⟩
  · exact ⟨xs, own_keptN h (gr_cell w g j u) hv⟩
theorem own_at {w : World} {B n j c : Nat} {e : TypeId} {a : Option Addr} {xs : List Value} (h : w.ownsRow B e 1 (.slice a n c) n xs) (hj : j < n) : ∃ g z, a = some ⟨g, 0, none⟩ ∧ B ≤ g ∧ w.cell? ⟨g, j, none⟩ = some z ∧ w.frozen? ⟨g, j, none⟩ = false := by
  have hx := h.1
  rw [Nat.mul_one] at hx
  rcases id h.2 with ⟨-, h0⟩ | ⟨g, cap, cur, he, hb, _⟩
  · omega
  · simp only [Value.slice.injEq] at he
    obtain ⟨rfl, -, -⟩ := he
    refine ⟨g, xs[j]'(by omega), rfl, hb, ?_, h.frozenAt j⟩
    rw [h.cellAt j (by omega), List.getElem?_eq_getElem (by omega)]

/-- A state in block g, its rows of one's own, whatever they hold. -/
structure DRel (B g : Nat) (D : Stt) (v : Sv) (w0 w : World) : Prop where
  k : Arr w g (D.cs v)
  rv : ∃ xs, w.ownsRow B 3 1 v.rv D.rev.length xs
  m0 : ∃ xs, w.ownsRow B 5 1 v.m0 D.m0.length xs
  m1 : ∃ xs, w.ownsRow B 5 1 v.m1 D.m1.length xs
  hb : Below B w0 w
  sz : B ≤ w.heap.size
theorem DRel.set {B g : Nat} {D : Stt} {v : Sv} {w0 w : World} (h : DRel B g D v w0 w) {x j : Nat} {u : Value} (hx : B ≤ x) (hne : x ≠ g) : DRel B g D v w0 (w.setCell ⟨x, j, none⟩ u) := by
  obtain ⟨_, h1⟩ := h.rv
  obtain ⟨_, h2⟩ := h.m0
  obtain ⟨_, h3⟩ := h.m1
  exact ⟨h.k.kept (gr_cell w x j u) hne, own_any_set h1 x j u, own_any_set h2 x j u, own_any_set h3 x j u, below_gr h.hb (gr_cell w x j u) hx h.sz, by simpa [World.setCell] using h.sz⟩

set_option maxHeartbeats 4000000 in
set_option maxRecDepth 100000 in
theorem slotsTurns_walk (S : Stt) (v : Sv) (am : Option Addr) (cm : Nat) (m : List UInt8) (b0 b1 : Bool) (ver id : Int) (w : World) (h : StOk w S v) (_ : StWf S) (hm : Sl w (.slice am m.length cm) (u8s m)) (_ : (Lit.int .i64 ver).wf = true) (_ : (Lit.int .i64 id).wf = true) :
    Calls Try.prog 9 #[.agg (S.cs v).toArray, .slice am m.length cm, .agg #[.bool b0, .bool b1], .int .i64 ver, .int .i64 id] w fun e w' => e = .returned (.bool true) ∧ Below w.heap.size w w' := by
  have ho := Lib.hid h
  have hsm := Lib.hid hm
  clear h hm
  go_enter Try.func9, Try.ntmps9
  go_upto_region 1 with fail
  refine wp_new2 (fun W hsz k5 k7 kb => ?_)
  have k5 : Arr W w.heap.size (S.cs v) := k5
  have ho := Lib.hid (ho.out.below kb)
  have hsm := Lib.hid (hsm.out.below kb)
  obtain ⟨G, hG⟩ : ∃ G, w.heap.size = G := ⟨_, rfl⟩
  rw [hG] at k5 k7 hsz ⊢
  replace hG := Lib.hid hG
  clear hsz
  go_wp2_with fail
  refine (alive_any _).mono ?_
  rintro e w1 ⟨rfl, hb⟩
  have k5 := k5.below hb
  have k7 := k7.below hb
  have ho := Lib.hid (ho.out.below hb)
  have hsm := Lib.hid (hsm.out.below hb)
  have kb := bel kb hb
  clear hb
  go_wp2_with (first | (refine wpList_load_arr2 rfl _ _ rfl _ rfl (by decide +kernel) _ (by assumption) (by first | (rw [lims_len]; kernel_rfl) | (rw [el_rep]; kernel_rfl) | (rw [el_len]; kernel_rfl) | (rw [byts_len]; kernel_rfl) | (rw [us_len]; kernel_rfl) | (rw [bytn_len]; kernel_rfl) | (rw [ens_len, digs_len]; kernel_rfl) | kernel_rfl) ?_) | fail)
  refine (big_any S v _ ho.out).mono ?_
  rintro e w2 ⟨he, hb⟩
  have k5 := k5.below hb
  have k7 := k7.below hb
  have ho := Lib.hid (ho.out.below hb)
  have hsm := Lib.hid (hsm.out.below hb)
  have kb := bel kb hb
  clear hb
  cases hbg : bigB S with
  | true =>
    rw [hbg] at he
    subst he
    clear hbg
    go_wp2_with fail
    go_ret
    exact ⟨rfl, kb⟩
  | false =>
  rw [hbg] at he
  subst he
  have hfit := big_fit hbg
  have hfit : Hid (StFit S) := Lib.hid ⟨by omega, by omega, by omega⟩
  clear hbg
  by_cases hl : 1000 < m.length
  · have dl : decide ((1000 : Int) < (m.length : Int)) = true := decide_eq_true (by omega)
    go_wp2_with fail
    go_ret
    exact ⟨rfl, kb⟩
  have dl : decide ((1000 : Int) < (m.length : Int)) = false := decide_eq_false (by omega)
  go_wp2_with (first | (refine wpList_load_arr2 rfl _ _ rfl _ rfl (by decide +kernel) _ (by assumption) (by first | (rw [lims_len]; kernel_rfl) | (rw [el_rep]; kernel_rfl) | (rw [el_len]; kernel_rfl) | (rw [byts_len]; kernel_rfl) | (rw [us_len]; kernel_rfl) | (rw [bytn_len]; kernel_rfl) | (rw [ens_len, digs_len]; kernel_rfl) | kernel_rfl) ?_) | fail)
  refine (copyState_any S v _ ho.out hfit.out).mono ?_
  rintro e w_13 ⟨v13, rfl, o13, hb⟩
  have o13 := Lib.hid o13
  have k5 := k5.below hb
  have k7 := k7.below hb
  have ho := Lib.hid (ho.out.below hb)
  have hsm := Lib.hid (hsm.out.below hb)
  have kb := bel kb hb
  clear hb
  go_upto_region 6 with (first | (refine wpl_storeG rfl _ _ _ rfl _ _ rfl rfl _ (Arr.new _ _ _) (by kernel_rfl) rfl o13.out.ok.one (fun W_13 k13 hg hsz => ?_)))
  have hb := below_new hg
  have k5 := k5.below hb
  have k7 := k7.below hb
  have ho := Lib.hid (ho.out.below hb)
  have hsm := Lib.hid (hsm.out.below hb)
  have o13 := Lib.hid (o13.out.below hb)
  have kb := bel kb hb
  clear hb
  obtain ⟨g13, hg13⟩ : ∃ g, w_13.heap.size = g := ⟨_, rfl⟩
  have hl13 := k13.lt
  rw [hg13] at k13 hl13 ⊢
  clear hg hsz
  obtain ⟨ti, hti, htz0, htz1, htz2⟩ := info_parts info_u8
  obtain ⟨w6, hw6⟩ : ∃ w, W_13 = w := ⟨_, rfl⟩
  rw [hw6] at k5 k7 ho hsm o13 kb k13 hl13 ⊢
  clear hw6 hg13
  have o13 := Lib.hid o13.out.ok
  have c2 : Hid (0 + (u8s m).length ≤ maxLen) := Lib.hid (by rw [u8s_len]; unfold maxLen; omega)
  have c3 : Hid ((0 + (u8s m).length) * 1 ≤ 140737488355328) := Lib.hid (by rw [u8s_len]; omega)
  go_wp2_with (at_builtin; refine wpList_append_sl rfl _ _ 23 rfl w6.heap.size 5 Try.underlying23 hti htz0 htz1 htz2 rfl _ 0 [] rfl (World.ownsRow_nil _ _ _ _) _ (u8s m) rfl hsm.out (u8s_one _) c2.out c3.out (Nat.le_refl _) ?_)
  intro vx w8 own hg
  have hb := below_nil hg
  rw [u8s_len] at own
  obtain ⟨ax, cx, rfl⟩ := own_shape own
  have hs86 : w6.heap.size ≤ w8.heap.size := hb.size
  have hxlt := Lib.hid own.lt
  have own := Lib.hid own
  have hb6 := Lib.hid hb
  clear hg c2 c3 hb
  have hlm : Hid (m.length ≤ 140737488355328) := Lib.hid (by omega)
  have k5' := k5.below hb6.out
  go_wp2_with (first | (refine wpList_load_arr2 rfl _ _ rfl _ rfl (by decide +kernel) _ (by assumption) (by first | (rw [lims_len]; kernel_rfl) | (rw [el_rep]; kernel_rfl) | (rw [el_len]; kernel_rfl) | (rw [byts_len]; kernel_rfl) | (rw [us_len]; kernel_rfl) | (rw [bytn_len]; kernel_rfl) | (rw [ens_len, digs_len]; kernel_rfl) | kernel_rfl) ?_) | fail)
  refine (put_any S v _ m _ (ho.out.below hb6.out) (Sl.of_own own.out) hlm.out).mono ?_
  rintro e w9 ⟨v15, rfl, o15, hb⟩
  have o15 := Lib.hid o15
  have own := Lib.hid (own_below own.out hb)
  have hb6 := Lib.hid (bel hb6.out hb)
  have hs98 : w8.heap.size ≤ w9.heap.size := hb.size
  clear hb k5'
  go_upto_region 8 with (first | (refine wpl_storeG rfl _ _ _ rfl _ _ rfl rfl _ (Arr.new _ _ _) (by kernel_rfl) rfl o15.out.ok.one (fun W10 k15 hg hsz => ?_)))
  have hb := below_new hg
  have o15 := Lib.hid (o15.out.below hb)
  have own := Lib.hid (own_below own.out hb)
  have hb6 := Lib.hid (bel hb6.out hb)
  obtain ⟨g15, hg15⟩ : ∃ g, w9.heap.size = g := ⟨_, rfl⟩
  have hl15 : w8.heap.size ≤ w9.heap.size := hs98
  rw [hg15] at k15 hl15 ⊢
  have hx := Lib.hid (XOk.of own.out)
  clear hg hsz hb own hg15 hs98
  go_wp2_with fail
  go_loopw [16] (fun kv wr => ∃ j : Nat, j ≤ m.length ∧ kv = .int .i64 j ∧ XOk wr w6.heap.size m.length (.slice ax m.length cx) ∧ Below w6.heap.size w6 wr ∧ Arr wr g15 ((putS S m).cs v15) ∧ StOwn w8.heap.size wr (putS S m) v15) (fun kv _ => m.length - (intOf kv).toNat)
  case atStart => exact ⟨0, Nat.zero_le _, rfl, hx.out, hb6.out, k15, o15.out⟩
  case round =>
    obtain ⟨j, hj, rfl, hxr, hbx, k15, o15⟩ := hrel
    clear hx hb6
    have hxT := Lib.hid hxr
    have hb6 := Lib.hid hbx
    have o15 := Lib.hid o15
    clear hxr hbx
    by_cases hjn : j < m.length
    · obtain ⟨gx, zx, rfl, hgx, hcx, hfx⟩ := hxT.out.at hjn
      have hj0 : (0 : Int) ≤ (j : Int) := by omega
      have hj1 : (j : Int) < (m.length : Int) := by omega
      have hxl : gx < w8.heap.size := (hxlt.out gx rfl).2
      go_wp2_with fail
      have hgS : wr.grownBy (wr.setCell ⟨gx, j, none⟩ (.int .u8 (bits .xor .u8 zx 255))) (some gx) := grownBy_set (World.grownBy.refl _ _)
      have hb7 := below_gr hb6.out hgS hgx hb6.out.size
      have k15 := k15.kept hgS (by omega)
      have o15 := o15.out.grown hgS hxl
      exact ⟨⟨j + 1, by omega, by go_num, hxT.out.step _, hb7, k15, o15⟩, by simp [intOf]; omega⟩
    · have hj' : j = m.length := by omega
      subst hj'
      clear hxT
      obtain ⟨wD, rfl⟩ : ∃ wD : World, wD = wr := ⟨_, rfl⟩
      have hb := hb6.out
      clear hb6 hxlt

      have k5 := k5.below hb
      have k7 := k7.below hb
      have k13 := k13.below hb
      have ho := Lib.hid (ho.out.below hb)
      have hsm := Lib.hid (hsm.out.below hb)
      have o13 := Lib.hid (o13.out.below hb)
      have kb := bel kb hb
      clear hb
      have o15 := Lib.hid o15.out.ok
      have kb := Lib.hid kb
      replace kb := kb.out
      have hs6 : w6.heap.size ≤ g15 := by omega
      have q5 := Lib.hid k5
      have q13 := Lib.hid k13
      have qo := Lib.hid ho.out
      have qo13 := Lib.hid o13.out
      have qkb := Lib.hid kb
      have hbD := Lib.hid (Below.refl wD.heap.size wD)
      obtain ⟨⟨R, er⟩, hR⟩ : ∃ p, revokeS S id = p := ⟨_, rfl⟩
      have hfR := revokeS_fit S id
      rw [hR] at hfR
      have hfR := Lib.hid hfR
      have hR := Lib.hid hR
      go_wp2_with (first | (refine wpList_load_arr2 rfl _ _ rfl _ rfl (by decide +kernel) _ (by assumption) (by first | (rw [lims_len]; kernel_rfl) | (rw [el_rep]; kernel_rfl) | (rw [el_len]; kernel_rfl) | (rw [byts_len]; kernel_rfl) | (rw [us_len]; kernel_rfl) | (rw [bytn_len]; kernel_rfl) | (rw [ens_len, digs_len]; kernel_rfl) | kernel_rfl) ?_) | fail)
      refine (done_any S v _ ho.out).mono ?_
      rintro e w_17 ⟨v17, rfl, o17, hb⟩
      have o17 := Lib.hid o17
      have hoff17 := Lib.hid (o17.out.off (Nat.le_refl _))
      have k5 := k5.below hb
      have k7 := k7.below hb
      have k13 := k13.below hb
      have k15 := k15.below hb
      have ho := Lib.hid (ho.out.below hb)
      have hsm := Lib.hid (hsm.out.below hb)
      have o13 := Lib.hid (o13.out.below hb)
      have o15 := Lib.hid (o15.out.below hb)
      have kb := bel kb hb
      have hbD := Lib.hid (bel hbD.out hb)
      clear hb
      go_upto_region 13 with (first | (refine wpl_storeG rfl _ _ _ rfl _ _ rfl rfl _ (Arr.new _ _ _) (by kernel_rfl) rfl o17.out.ok.one (fun W_17 k17 hg hsz => ?_)))
      have hb := below_new hg
      have k5 := k5.below hb
      have k7 := k7.below hb
      have k13 := k13.below hb
      have k15 := k15.below hb
      have ho := Lib.hid (ho.out.below hb)
      have hsm := Lib.hid (hsm.out.below hb)
      have o13 := Lib.hid (o13.out.below hb)
      have o15 := Lib.hid (o15.out.below hb)
      have o17 := Lib.hid (o17.out.below hb)
      have kb := bel kb hb
      have hbD := Lib.hid (bel hbD.out hb)
      clear hb
      obtain ⟨g17, hg17⟩ : ∃ g, w_17.heap.size = g := ⟨_, rfl⟩
      have hl17 := k17.lt
      rw [hg17] at k17 hl17 hoff17 ⊢
      clear hg hsz
      go_wp2_with (first | (refine wpList_load_arr2 rfl _ _ rfl _ rfl (by decide +kernel) _ (by assumption) (by first | (rw [lims_len]; kernel_rfl) | (rw [el_rep]; kernel_rfl) | (rw [el_len]; kernel_rfl) | (rw [byts_len]; kernel_rfl) | (rw [us_len]; kernel_rfl) | (rw [bytn_len]; kernel_rfl) | (rw [ens_len, digs_len]; kernel_rfl) | kernel_rfl) ?_) | fail)
      refine (try_any S v _ ho.out).mono ?_
      rintro e w_18 ⟨v18, rfl, o18, hb⟩
      have o18 := Lib.hid o18
      have k5 := k5.below hb
      have k7 := k7.below hb
      have k13 := k13.below hb
      have k15 := k15.below hb
      have k17 := k17.below hb
      have ho := Lib.hid (ho.out.below hb)
      have hsm := Lib.hid (hsm.out.below hb)
      have o13 := Lib.hid (o13.out.below hb)
      have o15 := Lib.hid (o15.out.below hb)
      have o17 := Lib.hid (o17.out.below hb)
      have kb := bel kb hb
      have hbD := Lib.hid (bel hbD.out hb)
      clear hb
      go_upto_region 14 with (first | (refine wpl_storeG rfl _ _ _ rfl _ _ rfl rfl _ (Arr.new _ _ _) (by kernel_rfl) rfl o18.out.ok.one (fun W_18 k18 hg hsz => ?_)))
      have hb := below_new hg
      have k5 := k5.below hb
      have k7 := k7.below hb
      have k13 := k13.below hb
      have k15 := k15.below hb
      have k17 := k17.below hb
      have ho := Lib.hid (ho.out.below hb)
      have hsm := Lib.hid (hsm.out.below hb)
      have o13 := Lib.hid (o13.out.below hb)
      have o15 := Lib.hid (o15.out.below hb)
      have o17 := Lib.hid (o17.out.below hb)
      have o18 := Lib.hid (o18.out.below hb)
      have kb := bel kb hb
      have hbD := Lib.hid (bel hbD.out hb)
      clear hb
      obtain ⟨g18, hg18⟩ : ∃ g, w_18.heap.size = g := ⟨_, rfl⟩
      have hl18 := k18.lt
      rw [hg18] at k18 hl18 ⊢
      clear hg hsz
      go_wp2_with (first | (refine wpList_load_arr2 rfl _ _ rfl _ rfl (by decide +kernel) _ (by assumption) (by first | (rw [lims_len]; kernel_rfl) | (rw [el_rep]; kernel_rfl) | (rw [el_len]; kernel_rfl) | (rw [byts_len]; kernel_rfl) | (rw [us_len]; kernel_rfl) | (rw [bytn_len]; kernel_rfl) | (rw [ens_len, digs_len]; kernel_rfl) | kernel_rfl) ?_) | fail)
      refine (confirm_any S v ver _ ho.out).mono ?_
      rintro e w_19 ⟨v19, rfl, o19, hb⟩
      have o19 := Lib.hid o19
      have k5 := k5.below hb
      have k7 := k7.below hb
      have k13 := k13.below hb
      have k15 := k15.below hb
      have k17 := k17.below hb
      have k18 := k18.below hb
      have ho := Lib.hid (ho.out.below hb)
      have hsm := Lib.hid (hsm.out.below hb)
      have o13 := Lib.hid (o13.out.below hb)
      have o15 := Lib.hid (o15.out.below hb)
      have o17 := Lib.hid (o17.out.below hb)
      have o18 := Lib.hid (o18.out.below hb)
      have kb := bel kb hb
      have hbD := Lib.hid (bel hbD.out hb)
      clear hb
      go_upto_region 15 with (first | (refine wpl_storeG rfl _ _ _ rfl _ _ rfl rfl _ (Arr.new _ _ _) (by kernel_rfl) rfl o19.out.ok.one (fun W_19 k19 hg hsz => ?_)))
      have hb := below_new hg
      have k5 := k5.below hb
      have k7 := k7.below hb
      have k13 := k13.below hb
      have k15 := k15.below hb
      have k17 := k17.below hb
      have k18 := k18.below hb
      have ho := Lib.hid (ho.out.below hb)
      have hsm := Lib.hid (hsm.out.below hb)
      have o13 := Lib.hid (o13.out.below hb)
      have o15 := Lib.hid (o15.out.below hb)
      have o17 := Lib.hid (o17.out.below hb)
      have o18 := Lib.hid (o18.out.below hb)
      have o19 := Lib.hid (o19.out.below hb)
      have kb := bel kb hb
      have hbD := Lib.hid (bel hbD.out hb)
      clear hb
      obtain ⟨g19, hg19⟩ : ∃ g, w_19.heap.size = g := ⟨_, rfl⟩
      have hl19 := k19.lt
      rw [hg19] at k19 hl19 ⊢
      clear hg hsz
      go_wp2_with (first | (refine wpList_load_arr2 rfl _ _ rfl _ rfl (by decide +kernel) _ (by assumption) (by first | (rw [lims_len]; kernel_rfl) | (rw [el_rep]; kernel_rfl) | (rw [el_len]; kernel_rfl) | (rw [byts_len]; kernel_rfl) | (rw [us_len]; kernel_rfl) | (rw [bytn_len]; kernel_rfl) | (rw [ens_len, digs_len]; kernel_rfl) | kernel_rfl) ?_) | fail)
      refine (revoke_any S v id _ ho.out).mono ?_
      rw [hR.out]
      rintro e w_20 ⟨v20, rfl, o20, hb⟩
      have o20 := Lib.hid o20
      have k5 := k5.below hb
      have k7 := k7.below hb
      have k13 := k13.below hb
      have k15 := k15.below hb
      have k17 := k17.below hb
      have k18 := k18.below hb
      have k19 := k19.below hb
      have ho := Lib.hid (ho.out.below hb)
      have hsm := Lib.hid (hsm.out.below hb)
      have o13 := Lib.hid (o13.out.below hb)
      have o15 := Lib.hid (o15.out.below hb)
      have o17 := Lib.hid (o17.out.below hb)
      have o18 := Lib.hid (o18.out.below hb)
      have o19 := Lib.hid (o19.out.below hb)
      have kb := bel kb hb
      have hbD := Lib.hid (bel hbD.out hb)
      clear hb
      simp only at o20 ⊢
      go_upto_region 16 with (first | (refine wpl_storeG rfl _ _ _ rfl _ _ rfl rfl _ (Arr.new _ _ _) (by kernel_rfl) rfl o20.out.ok.one (fun W_20 k20 hg hsz => ?_)))
      have hb := below_new hg
      have k5 := k5.below hb
      have k7 := k7.below hb
      have k13 := k13.below hb
      have k15 := k15.below hb
      have k17 := k17.below hb
      have k18 := k18.below hb
      have k19 := k19.below hb
      have ho := Lib.hid (ho.out.below hb)
      have hsm := Lib.hid (hsm.out.below hb)
      have o13 := Lib.hid (o13.out.below hb)
      have o15 := Lib.hid (o15.out.below hb)
      have o17 := Lib.hid (o17.out.below hb)
      have o18 := Lib.hid (o18.out.below hb)
      have o19 := Lib.hid (o19.out.below hb)
      have o20 := Lib.hid (o20.out.below hb)
      have kb := bel kb hb
      have hbD := Lib.hid (bel hbD.out hb)
      clear hb
      obtain ⟨g20, hg20⟩ : ∃ g, w_20.heap.size = g := ⟨_, rfl⟩
      have hl20 := k20.lt
      rw [hg20] at k20 hl20 ⊢
      clear hg hsz
      go_wp2_with (first | (refine wpList_load_arr2 rfl _ _ rfl _ rfl (by decide +kernel) _ (by assumption) (by first | (rw [lims_len]; kernel_rfl) | (rw [el_rep]; kernel_rfl) | (rw [el_len]; kernel_rfl) | (rw [byts_len]; kernel_rfl) | (rw [us_len]; kernel_rfl) | (rw [bytn_len]; kernel_rfl) | (rw [ens_len, digs_len]; kernel_rfl) | kernel_rfl) ?_) | fail)
      refine (refRevoke_any S v id _ ho.out).mono ?_
      rw [hR.out]
      rintro e w_22 ⟨v22, rfl, o22, hb⟩
      have o22 := Lib.hid o22
      have k5 := k5.below hb
      have k7 := k7.below hb
      have k13 := k13.below hb
      have k15 := k15.below hb
      have k17 := k17.below hb
      have k18 := k18.below hb
      have k19 := k19.below hb
      have k20 := k20.below hb
      have ho := Lib.hid (ho.out.below hb)
      have hsm := Lib.hid (hsm.out.below hb)
      have o13 := Lib.hid (o13.out.below hb)
      have o15 := Lib.hid (o15.out.below hb)
      have o17 := Lib.hid (o17.out.below hb)
      have o18 := Lib.hid (o18.out.below hb)
      have o19 := Lib.hid (o19.out.below hb)
      have o20 := Lib.hid (o20.out.below hb)
      have kb := bel kb hb
      have hbD := Lib.hid (bel hbD.out hb)
      clear hb
      simp only at o22 ⊢
      go_upto_region 17 with (first | (refine wpl_storeG rfl _ _ _ rfl _ _ rfl rfl _ (Arr.new _ _ _) (by kernel_rfl) rfl o22.out.ok.one (fun W_22 k22 hg hsz => ?_)))
      have hb := below_new hg
      have k5 := k5.below hb
      have k7 := k7.below hb
      have k13 := k13.below hb
      have k15 := k15.below hb
      have k17 := k17.below hb
      have k18 := k18.below hb
      have k19 := k19.below hb
      have k20 := k20.below hb
      have ho := Lib.hid (ho.out.below hb)
      have hsm := Lib.hid (hsm.out.below hb)
      have o13 := Lib.hid (o13.out.below hb)
      have o15 := Lib.hid (o15.out.below hb)
      have o17 := Lib.hid (o17.out.below hb)
      have o18 := Lib.hid (o18.out.below hb)
      have o19 := Lib.hid (o19.out.below hb)
      have o20 := Lib.hid (o20.out.below hb)
      have o22 := Lib.hid (o22.out.below hb)
      have kb := bel kb hb
      have hbD := Lib.hid (bel hbD.out hb)
      clear hb
      obtain ⟨g22, hg22⟩ : ∃ g, w_22.heap.size = g := ⟨_, rfl⟩
      have hl22 := k22.lt
      rw [hg22] at k22 hl22 ⊢
      clear hg hsz
      obtain ⟨⟨pn, pt⟩, hpk⟩ : ∃ p, pickS S b0 b1 = p := ⟨_, rfl⟩
      have hpk := Lib.hid hpk
      go_wp2_with (first | (refine wpList_load_arr2 rfl _ _ rfl _ rfl (by decide +kernel) _ (by assumption) (by first | (rw [lims_len]; kernel_rfl) | (rw [el_rep]; kernel_rfl) | (rw [el_len]; kernel_rfl) | (rw [byts_len]; kernel_rfl) | (rw [us_len]; kernel_rfl) | (rw [bytn_len]; kernel_rfl) | (rw [ens_len, digs_len]; kernel_rfl) | kernel_rfl) ?_) | fail)
      refine (pick_any S v b0 b1 _ ho.out).mono ?_
      rw [hpk.out]
      rintro e w24 ⟨rfl, hb⟩
      have k5 := k5.below hb
      have k7 := k7.below hb
      have k13 := k13.below hb
      have k15 := k15.below hb
      have k17 := k17.below hb
      have k18 := k18.below hb
      have k19 := k19.below hb
      have k20 := k20.below hb
      have k22 := k22.below hb
      have ho := Lib.hid (ho.out.below hb)
      have hsm := Lib.hid (hsm.out.below hb)
      have o13 := Lib.hid (o13.out.below hb)
      have o15 := Lib.hid (o15.out.below hb)
      have o17 := Lib.hid (o17.out.below hb)
      have o18 := Lib.hid (o18.out.below hb)
      have o19 := Lib.hid (o19.out.below hb)
      have o20 := Lib.hid (o20.out.below hb)
      have o22 := Lib.hid (o22.out.below hb)
      have kb := bel kb hb
      have hbD := Lib.hid (bel hbD.out hb)
      clear hb
      simp only
      go_wp2_with (first | (refine wpList_load_arr2 rfl _ _ rfl _ rfl (by decide +kernel) _ (by assumption) (by first | (rw [lims_len]; kernel_rfl) | (rw [el_rep]; kernel_rfl) | (rw [el_len]; kernel_rfl) | (rw [byts_len]; kernel_rfl) | (rw [us_len]; kernel_rfl) | (rw [bytn_len]; kernel_rfl) | (rw [ens_len, digs_len]; kernel_rfl) | kernel_rfl) ?_) | fail)
      refine (refPick_any S v b0 b1 _ ho.out).mono ?_
      rw [hpk.out]
      rintro e w26 ⟨rfl, hb⟩
      have k5 := k5.below hb
      have k7 := k7.below hb
      have k13 := k13.below hb
      have k15 := k15.below hb
      have k17 := k17.below hb
      have k18 := k18.below hb
      have k19 := k19.below hb
      have k20 := k20.below hb
      have k22 := k22.below hb
      have ho := Lib.hid (ho.out.below hb)
      have hsm := Lib.hid (hsm.out.below hb)
      have o13 := Lib.hid (o13.out.below hb)
      have o15 := Lib.hid (o15.out.below hb)
      have o17 := Lib.hid (o17.out.below hb)
      have o18 := Lib.hid (o18.out.below hb)
      have o19 := Lib.hid (o19.out.below hb)
      have o20 := Lib.hid (o20.out.below hb)
      have o22 := Lib.hid (o22.out.below hb)
      have kb := bel kb hb
      have hbD := Lib.hid (bel hbD.out hb)
      clear hb
      simp only
      clear hpk
      go_upto_region 19 with fail
      refine Tx.start (fun w' => Below (w26).heap.size (w26) w') 9999 36 rfl (by kernel_rfl) ?_
      have hS_1 : Below (w26).heap.size (w26) (World.drew w26) := (Below.refl _ _).drew
      refine Tx.seg (A := ?_) 33 7 (by kernel_rfl) (by exact hS_1) [0, 1, 2] (by kernel_rfl) ?_ ?_
      rotate_left
      · intro w' hB
        have e5 := k5.below hB
        have e15 := k15.below hB
        iterate 3 (first | (refine rd_skip rfl rfl ?_; simp only [Act.put, List.setIfInBounds_toArray, List.set_cons_zero, List.set_cons_succ]) | (refine rd_load_arr rfl rfl _ _ rfl _ rfl (by decide +kernel) _ (by assumption) (by first | (rw [lims_len]; kernel_rfl) | (rw [el_rep]; kernel_rfl) | (rw [el_len]; kernel_rfl) | (rw [byts_len]; kernel_rfl) | (rw [us_len]; kernel_rfl) | (rw [bytn_len]; kernel_rfl) | (rw [ens_len, digs_len]; kernel_rfl) | kernel_rfl) ?_; simp only [Act.put, List.setIfInBounds_toArray, List.set_cons_zero, List.set_cons_succ]) | (refine rd_take (v := ?_) rfl rfl ?_ ?_; rotate_left; (focus (go_simp; try (with_reducible rfl))); simp only [Act.put, List.setIfInBounds_toArray, List.set_cons_zero, List.set_cons_succ]) | (refine rd_take (v := ?_) rfl rfl ?_ ?_; rotate_left; (focus (try go_simp); fail)))
        exact rd_nil
      refine Tx.eff 3 15 rfl (by decide +kernel) (fun K hK => ?_)
      go_simp
      refine (refPut_any S v _ m _ (ho.out.below hS_1) (hsm.out.below hS_1) hlm.out).mono ?_
      rintro e w_2 ⟨u1, rfl, p1, hb_2⟩
      have hS_2 := ext_trans hS_1 (Nat.le_refl _) hb_2
      refine hK (fun w' => Below (w26).heap.size (w26) w') _ _ hS_2 (fun _ h => h) ?_
      clear hK K hS_1
      try simp only [Act.put, List.setIfInBounds_toArray, List.set_cons_zero, List.set_cons_succ]
      have p1 := Lib.hid p1
      refine Tx.eff 4 31 rfl (by decide +kernel) (fun K hK => ?_)
      go_simp
      refine (sameState_any (putS S m) v15 u1 _ (o15.out.below hS_2) p1.out.ok (putS_fit S m)).mono ?_
      rintro e w_3 ⟨rfl, hb_3⟩
      have hS_3 := ext_trans hS_2 (Nat.le_refl _) hb_3
      refine hK (fun w' => Below (w26).heap.size (w26) w') _ _ hS_3 (fun _ h => h) ?_
      clear hK K hb_3 hS_2
      try simp only [Act.put, List.setIfInBounds_toArray, List.set_cons_zero, List.set_cons_succ]
      refine Tx.seg (A := ?_) 28 255 (by kernel_rfl) (by exact hS_3) [5, 6, 7] (by kernel_rfl) ?_ ?_
      rotate_left
      · intro w' hB
        have e5 := k5.below hB
        have e17 := k17.below hB
        iterate 3 (first | (refine rd_skip rfl rfl ?_; simp only [Act.put, List.setIfInBounds_toArray, List.set_cons_zero, List.set_cons_succ]) | (refine rd_load_arr rfl rfl _ _ rfl _ rfl (by decide +kernel) _ (by assumption) (by first | (rw [lims_len]; kernel_rfl) | (rw [el_rep]; kernel_rfl) | (rw [el_len]; kernel_rfl) | (rw [byts_len]; kernel_rfl) | (rw [us_len]; kernel_rfl) | (rw [bytn_len]; kernel_rfl) | (rw [ens_len, digs_len]; kernel_rfl) | kernel_rfl) ?_; simp only [Act.put, List.setIfInBounds_toArray, List.set_cons_zero, List.set_cons_succ]) | (refine rd_take (v := ?_) rfl rfl ?_ ?_; rotate_left; (focus (go_simp; try (with_reducible rfl))); simp only [Act.put, List.setIfInBounds_toArray, List.set_cons_zero, List.set_cons_succ]) | (refine rd_take (v := ?_) rfl rfl ?_ ?_; rotate_left; (focus (try go_simp); fail)))
        exact rd_nil
      refine Tx.eff 8 511 rfl (by decide +kernel) (fun K hK => ?_)
      go_simp
      refine (refDone_any S v _ (ho.out.below hS_3)).mono ?_
      rintro e w_4 ⟨u2, rfl, p2, hb_4⟩
      have hS_4 := ext_trans hS_3 (Nat.le_refl _) hb_4
      refine hK (fun w' => Below (w26).heap.size (w26) w') _ _ hS_4 (fun _ h => h) ?_
      clear hK K hS_3
      try simp only [Act.put, List.setIfInBounds_toArray, List.set_cons_zero, List.set_cons_succ]
      have p2 := Lib.hid p2
      refine Tx.eff 9 1023 rfl (by decide +kernel) (fun K hK => ?_)
      go_simp
      refine (sameState_any (doneS S) v17 u2 _ (o17.out.ok.below hS_4) p2.out.ok (doneS_fit S)).mono ?_
      rintro e w_5 ⟨rfl, hb_5⟩
      have hS_5 := ext_trans hS_4 (Nat.le_refl _) hb_5
      refine hK (fun w' => Below (w26).heap.size (w26) w') _ _ hS_5 (fun _ h => h) ?_
      clear hK K hb_5 hS_4
      try simp only [Act.put, List.setIfInBounds_toArray, List.set_cons_zero, List.set_cons_succ]
      refine Tx.seg (A := ?_) 22 16383 (by kernel_rfl) (by exact hS_5) [10, 11, 12, 13] (by kernel_rfl) ?_ ?_
      rotate_left
      · intro w' hB
        have e5 := k5.below hB
        have e18 := k18.below hB
        iterate 4 (first | (refine rd_skip rfl rfl ?_; simp only [Act.put, List.setIfInBounds_toArray, List.set_cons_zero, List.set_cons_succ]) | (refine rd_load_arr rfl rfl _ _ rfl _ rfl (by decide +kernel) _ (by assumption) (by first | (rw [lims_len]; kernel_rfl) | (rw [el_rep]; kernel_rfl) | (rw [el_len]; kernel_rfl) | (rw [byts_len]; kernel_rfl) | (rw [us_len]; kernel_rfl) | (rw [bytn_len]; kernel_rfl) | (rw [ens_len, digs_len]; kernel_rfl) | kernel_rfl) ?_; simp only [Act.put, List.setIfInBounds_toArray, List.set_cons_zero, List.set_cons_succ]) | (refine rd_take (v := ?_) rfl rfl ?_ ?_; rotate_left; (focus (go_simp; try (with_reducible rfl))); simp only [Act.put, List.setIfInBounds_toArray, List.set_cons_zero, List.set_cons_succ]) | (refine rd_take (v := ?_) rfl rfl ?_ ?_; rotate_left; (focus (try go_simp); fail)))
        exact rd_nil
      refine Tx.eff 14 32767 rfl (by decide +kernel) (fun K hK => ?_)
      go_simp
      refine (refTry_any S v _ (ho.out.below hS_5)).mono ?_
      rintro e w_6 ⟨u3, rfl, p3, hb_6⟩
      have hS_6 := ext_trans hS_5 (Nat.le_refl _) hb_6
      refine hK (fun w' => Below (w26).heap.size (w26) w') _ _ hS_6 (fun _ h => h) ?_
      clear hK K hS_5
      try simp only [Act.put, List.setIfInBounds_toArray, List.set_cons_zero, List.set_cons_succ]
      have p3 := Lib.hid p3
      refine Tx.eff 15 65535 rfl (by decide +kernel) (fun K hK => ?_)
      go_simp
      refine (sameState_any (tryS S) v18 u3 _ (o18.out.ok.below hS_6) p3.out.ok (tryS_fit S)).mono ?_
      rintro e w_7 ⟨rfl, hb_7⟩
      have hS_7 := ext_trans hS_6 (Nat.le_refl _) hb_7
      refine hK (fun w' => Below (w26).heap.size (w26) w') _ _ hS_7 (fun _ h => h) ?_
      clear hK K hb_7 hS_6
      try simp only [Act.put, List.setIfInBounds_toArray, List.set_cons_zero, List.set_cons_succ]
      refine Tx.seg (A := ?_) 15 2097151 (by kernel_rfl) (by exact hS_7) [16, 17, 18, 19, 20] (by kernel_rfl) ?_ ?_
      rotate_left
      · intro w' hB
        have e5 := k5.below hB
        have e19 := k19.below hB
        iterate 5 (first | (refine rd_skip rfl rfl ?_; simp only [Act.put, List.setIfInBounds_toArray, List.set_cons_zero, List.set_cons_succ]) | (refine rd_load_arr rfl rfl _ _ rfl _ rfl (by decide +kernel) _ (by assumption) (by first | (rw [lims_len]; kernel_rfl) | (rw [el_rep]; kernel_rfl) | (rw [el_len]; kernel_rfl) | (rw [byts_len]; kernel_rfl) | (rw [us_len]; kernel_rfl) | (rw [bytn_len]; kernel_rfl) | (rw [ens_len, digs_len]; kernel_rfl) | kernel_rfl) ?_; simp only [Act.put, List.setIfInBounds_toArray, List.set_cons_zero, List.set_cons_succ]) | (refine rd_take (v := ?_) rfl rfl ?_ ?_; rotate_left; (focus (go_simp; try (with_reducible rfl))); simp only [Act.put, List.setIfInBounds_toArray, List.set_cons_zero, List.set_cons_succ]) | (refine rd_take (v := ?_) rfl rfl ?_ ?_; rotate_left; (focus (try go_simp); fail)))
        exact rd_nil
      refine Tx.eff 21 4194303 rfl (by decide +kernel) (fun K hK => ?_)
      go_simp
      refine (refConfirm_any S v ver _ (ho.out.below hS_7)).mono ?_
      rintro e w_8 ⟨u4, rfl, p4, hb_8⟩
      have hS_8 := ext_trans hS_7 (Nat.le_refl _) hb_8
      refine hK (fun w' => Below (w26).heap.size (w26) w') _ _ hS_8 (fun _ h => h) ?_
      clear hK K hS_7
      try simp only [Act.put, List.setIfInBounds_toArray, List.set_cons_zero, List.set_cons_succ]
      have p4 := Lib.hid p4
      refine Tx.eff 22 8388607 rfl (by decide +kernel) (fun K hK => ?_)
      go_simp
      refine (sameState_any (confirmS S ver) v19 u4 _ (o19.out.ok.below hS_8) p4.out.ok (confirmS_fit S ver)).mono ?_
      rintro e w_9 ⟨rfl, hb_9⟩
      have hS_9 := ext_trans hS_8 (Nat.le_refl _) hb_9
      refine hK (fun w' => Below (w26).heap.size (w26) w') _ _ hS_9 (fun _ h => h) ?_
      clear hK K hb_9 hS_8
      try simp only [Act.put, List.setIfInBounds_toArray, List.set_cons_zero, List.set_cons_succ]
      refine Tx.seg (A := ?_) 9 201326591 (by kernel_rfl) (by exact hS_9) [23, 24, 25, 27] (by kernel_rfl) ?_ ?_
      rotate_left
      · intro w' hB
        iterate 4 (first | (refine rd_skip rfl rfl ?_; simp only [Act.put, List.setIfInBounds_toArray, List.set_cons_zero, List.set_cons_succ]) | (refine rd_load_arr rfl rfl _ _ rfl _ rfl (by decide +kernel) _ (by assumption) (by first | (rw [lims_len]; kernel_rfl) | (rw [el_rep]; kernel_rfl) | (rw [el_len]; kernel_rfl) | (rw [byts_len]; kernel_rfl) | (rw [us_len]; kernel_rfl) | (rw [bytn_len]; kernel_rfl) | (rw [ens_len, digs_len]; kernel_rfl) | kernel_rfl) ?_; simp only [Act.put, List.setIfInBounds_toArray, List.set_cons_zero, List.set_cons_succ]) | (refine rd_take (v := ?_) rfl rfl ?_ ?_; rotate_left; (focus (go_simp; try (with_reducible rfl))); simp only [Act.put, List.setIfInBounds_toArray, List.set_cons_zero, List.set_cons_succ]) | (refine rd_take (v := ?_) rfl rfl ?_ ?_; rotate_left; (focus (try go_simp); fail)))
        exact rd_nil
      refine Tx.eff 26 268435455 rfl (by decide +kernel) (fun K hK => ?_)
      go_simp
      refine (num_b _ _).mono ?_
      rintro e w_10 ⟨rfl, hb_10⟩
      have hS_10 := ext_trans hS_9 (Nat.le_refl _) hb_10
      refine hK (fun w' => Below (w26).heap.size (w26) w') _ _ hS_10 (fun _ h => h) ?_
      clear hK K hb_10 hS_9
      try simp only [Act.put, List.setIfInBounds_toArray, List.set_cons_zero, List.set_cons_succ]
      refine Tx.seg (A := ?_) 3 8589934591 (by kernel_rfl) (by exact hS_10) [28, 29, 30, 31, 32] (by kernel_rfl) ?_ ?_
      rotate_left
      · intro w' hB
        have e20 := k20.below hB
        have e22 := k22.below hB
        iterate 5 (first | (refine rd_skip rfl rfl ?_; simp only [Act.put, List.setIfInBounds_toArray, List.set_cons_zero, List.set_cons_succ]) | (refine rd_load_arr rfl rfl _ _ rfl _ rfl (by decide +kernel) _ (by assumption) (by first | (rw [lims_len]; kernel_rfl) | (rw [el_rep]; kernel_rfl) | (rw [el_len]; kernel_rfl) | (rw [byts_len]; kernel_rfl) | (rw [us_len]; kernel_rfl) | (rw [bytn_len]; kernel_rfl) | (rw [ens_len, digs_len]; kernel_rfl) | kernel_rfl) ?_; simp only [Act.put, List.setIfInBounds_toArray, List.set_cons_zero, List.set_cons_succ]) | (refine rd_take (v := ?_) rfl rfl ?_ ?_; rotate_left; (focus (go_simp; try (with_reducible rfl))); simp only [Act.put, List.setIfInBounds_toArray, List.set_cons_zero, List.set_cons_succ]) | (refine rd_take (v := ?_) rfl rfl ?_ ?_; rotate_left; (focus (try go_simp); fail)))
        exact rd_nil
      refine Tx.eff 33 17179869183 rfl (by decide +kernel) (fun K hK => ?_)
      go_simp
      refine (sameState_any R v20 v22 _ (o20.out.ok.below hS_10) (o22.out.ok.below hS_10) hfR.out).mono ?_
      rintro e w_11 ⟨rfl, hb_11⟩
      have hS_11 := ext_trans hS_10 (Nat.le_refl _) hb_11
      refine hK (fun w' => Below (w26).heap.size (w26) w') _ _ hS_11 (fun _ h => h) ?_
      clear hK K hb_11 hS_10
      try simp only [Act.put, List.setIfInBounds_toArray, List.set_cons_zero, List.set_cons_succ]
      refine Tx.seg (A := ?_) 0 68719476735 (by kernel_rfl) (by exact hS_11) [34, 35] (by kernel_rfl) ?_ ?_
      rotate_left
      · intro w' hB
        iterate 2 (first | (refine rd_skip rfl rfl ?_; simp only [Act.put, List.setIfInBounds_toArray, List.set_cons_zero, List.set_cons_succ]) | (refine rd_load_arr rfl rfl _ _ rfl _ rfl (by decide +kernel) _ (by assumption) (by first | (rw [lims_len]; kernel_rfl) | (rw [el_rep]; kernel_rfl) | (rw [el_len]; kernel_rfl) | (rw [byts_len]; kernel_rfl) | (rw [us_len]; kernel_rfl) | (rw [bytn_len]; kernel_rfl) | (rw [ens_len, digs_len]; kernel_rfl) | kernel_rfl) ?_; simp only [Act.put, List.setIfInBounds_toArray, List.set_cons_zero, List.set_cons_succ]) | (refine rd_take (v := ?_) rfl rfl ?_ ?_; rotate_left; (focus (go_simp; try (with_reducible rfl))); simp only [Act.put, List.setIfInBounds_toArray, List.set_cons_zero, List.set_cons_succ]) | (refine rd_take (v := ?_) rfl rfl ?_ ?_; rotate_left; (focus (try go_simp); fail)))
        exact rd_nil
      refine Tx.done (by kernel_rfl) ?_
      clear k7 hsm k15 o15 k18 k19 k20 k22 o18 o19 o20 o22 p1 p2 p3 p4
      have hb := hS_11
      have hr : DRel wD.heap.size g17 (doneS S) v17 wD w_11 := ⟨k17.below hb, ⟨_, own_below o17.out.rv hb⟩, ⟨_, own_below o17.out.m0 hb⟩, ⟨_, own_below o17.out.m1 hb⟩, bel hbD.out hb, Nat.le_trans hbD.out.size hb.size⟩
      have hr := Lib.hid hr
      obtain ⟨vr, v0, v1⟩ := v17
      obtain ⟨ar, cr, er1⟩ := own_shape o17.out.rv
      obtain ⟨a0, c0, er2⟩ := own_shape o17.out.m0
      obtain ⟨a1, c1, er3⟩ := own_shape o17.out.m1
      simp only at er1 er2 er3
      subst er1 er2 er3
      have hfD := doneS_fit S
      obtain ⟨D, hD⟩ : ∃ D, doneS S = D := ⟨_, rfl⟩
      rw [hD] at hr hfD hoff17
      obtain ⟨hfr, hf0, hf1⟩ := hfD
      have hoff := hoff17.out
      clear hb hS_11 hbD k5 ho k13 o13 kb o17 k17 hoff17 hD hs6 hl15
      have hoff := Lib.hid hoff
      have hr := hr.out
      go_wp2_with fail
      go_loopw [29] (fun iv wr => ∃ j : Nat, j ≤ D.rev.length ∧ iv = .int .i64 j ∧ DRel wD.heap.size g17 D ⟨.slice ar D.rev.length cr, .slice a0 D.m0.length c0, .slice a1 D.m1.length c1⟩ wD wr) (fun iv _ => D.rev.length - (intOf iv).toNat)
      case atStart => exact ⟨0, Nat.zero_le _, rfl, hr⟩
      case round =>
        clear hr
        obtain ⟨j, hj, rfl, hr⟩ := hrel
        have x1 := hr.k.cell (j := 1) rfl
        by_cases hjn : j < D.rev.length
        · obtain ⟨xs, h1⟩ := hr.rv
          obtain ⟨gx, z, hax, hgx, hcx, hfx⟩ := own_at h1 hjn
          have hne := hoff.out.rv
          rw [hax] at hne x1
          have hne : gx ≠ g17 := fun e => hne (by rw [e]; rfl)
          have hr := Lib.hid hr
          have hj0 : (0 : Int) ≤ (j : Int) := by omega
          have hj1 : (j : Int) < (D.rev.length : Int) := by omega
          clear h1 hax
          go_wp2_with fail
          exact ⟨⟨j + 1, by omega, by go_num, hr.out.set hgx hne⟩, by simp [intOf]; omega⟩
        · have dj : decide ((j : Int) < (D.rev.length : Int)) = false := decide_eq_false (by omega)
          have hr := Lib.hid hr
          go_wp2_with fail
          replace hr := hr.out
          clear x1
          go_loopw [30] (fun iv wr => (iv = .int .i64 0 ∨ iv = .int .i64 1 ∨ iv = .int .i64 2) ∧ DRel wD.heap.size g17 D ⟨.slice ar D.rev.length cr, .slice a0 D.m0.length c0, .slice a1 D.m1.length c1⟩ wD wr) (fun iv _ => (2 - intOf iv).toNat)
          case atStart => exact ⟨.inl rfl, hr⟩
          case round =>
            clear hr
            obtain ⟨hrel, hr⟩ := hrel
            rcases hrel with rfl | rfl | rfl
            · go_wp2_with fail
              go_loopw [31] (fun jv wr => ∃ j : Nat, j ≤ D.m0.length ∧ jv = .int .i64 j ∧ DRel wD.heap.size g17 D ⟨.slice ar D.rev.length cr, .slice a0 D.m0.length c0, .slice a1 D.m1.length c1⟩ wD wr) (fun jv _ => D.m0.length - (intOf jv).toNat)
              case atStart => exact ⟨0, Nat.zero_le _, rfl, hr⟩
              case round =>
                clear hr
                obtain ⟨j, hj, rfl, hr⟩ := hrel
                have x1 := hr.k.cell (j := 2) rfl
                by_cases hjn : j < D.m0.length
                · obtain ⟨xs, h1⟩ := hr.m0
                  obtain ⟨gx, z, hax, hgx, hcx, hfx⟩ := own_at h1 hjn
                  have hne := hoff.out.m0
                  rw [hax] at hne x1
                  have hne : gx ≠ g17 := fun e => hne (by rw [e]; rfl)
                  have hr := Lib.hid hr
                  have hj0 : (0 : Int) ≤ (j : Int) := by omega
                  have hj1 : (j : Int) < (D.m0.length : Int) := by omega
                  clear h1 hax
                  go_wp2_with fail
                  exact ⟨⟨j + 1, by omega, by go_num, hr.out.set hgx hne⟩, by simp [intOf]; omega⟩
                · have dj : decide ((j : Int) < (D.m0.length : Int)) = false := decide_eq_false (by omega)
                  have hr := Lib.hid hr
                  go_wp2_with fail
                  exact ⟨⟨.inr (.inl rfl), hr.out⟩, by simp [intOf]⟩
            · go_wp2_with fail
              go_loopw [31] (fun jv wr => ∃ j : Nat, j ≤ D.m1.length ∧ jv = .int .i64 j ∧ DRel wD.heap.size g17 D ⟨.slice ar D.rev.length cr, .slice a0 D.m0.length c0, .slice a1 D.m1.length c1⟩ wD wr) (fun jv _ => D.m1.length - (intOf jv).toNat)
              case atStart => exact ⟨0, Nat.zero_le _, rfl, hr⟩
              case round =>
                clear hr
                obtain ⟨j, hj, rfl, hr⟩ := hrel
                have x1 := hr.k.cell (j := 5) rfl
                by_cases hjn : j < D.m1.length
                · obtain ⟨xs, h1⟩ := hr.m1
                  obtain ⟨gx, z, hax, hgx, hcx, hfx⟩ := own_at h1 hjn
                  have hne := hoff.out.m1
                  rw [hax] at hne x1
                  have hne : gx ≠ g17 := fun e => hne (by rw [e]; rfl)
                  have hr := Lib.hid hr
                  have hj0 : (0 : Int) ≤ (j : Int) := by omega
                  have hj1 : (j : Int) < (D.m1.length : Int) := by omega
                  clear h1 hax
                  go_wp2_with fail
                  exact ⟨⟨j + 1, by omega, by go_num, hr.out.set hgx hne⟩, by simp [intOf]; omega⟩
                · have dj : decide ((j : Int) < (D.m1.length : Int)) = false := decide_eq_false (by omega)
                  have hr := Lib.hid hr
                  go_wp2_with fail
                  exact ⟨⟨.inr (.inr rfl), hr.out⟩, by simp [intOf]⟩
            · have hr := Lib.hid hr
              go_upto_region 31 with fail
              obtain ⟨wF, rfl⟩ : ∃ wF : World, wF = wr := ⟨_, rfl⟩
              have hb := hr.out.hb
              have k5 := q5.out.below hb
              have ho := Lib.hid (qo.out.below hb)
              have k13 := q13.out.below hb
              have o13 := Lib.hid (qo13.out.below hb)
              have kb := bel qkb.out hb
              clear hb hr
              refine Tx.start (fun w' => Below (wF).heap.size (wF) w') 9999 31 rfl (by kernel_rfl) ?_
              have hS_12 : Below (wF).heap.size (wF) (World.drew wF) := (Below.refl _ _).drew
              refine Tx.seg (A := ?_) 17 24575 (by kernel_rfl) (by exact hS_12) [0, 1, 2, 3, 4, 5, 6, 7, 8, 9, 10, 11, 12, 14] (by kernel_rfl) ?_ ?_
              rotate_left
              · intro w' hB
                have e5 := k5.below hB
                iterate 14 (first | (refine rd_skip rfl rfl ?_; simp only [Act.put, List.setIfInBounds_toArray, List.set_cons_zero, List.set_cons_succ]) | (refine rd_load_arr rfl rfl _ _ rfl _ rfl (by decide +kernel) _ (by assumption) (by first | (rw [lims_len]; kernel_rfl) | (rw [el_rep]; kernel_rfl) | (rw [el_len]; kernel_rfl) | (rw [byts_len]; kernel_rfl) | (rw [us_len]; kernel_rfl) | (rw [bytn_len]; kernel_rfl) | (rw [ens_len, digs_len]; kernel_rfl) | kernel_rfl) ?_; simp only [Act.put, List.setIfInBounds_toArray, List.set_cons_zero, List.set_cons_succ]) | (refine rd_take (v := ?_) rfl rfl ?_ ?_; rotate_left; (focus (go_simp; try (with_reducible rfl))); simp only [Act.put, List.setIfInBounds_toArray, List.set_cons_zero, List.set_cons_succ]) | (refine rd_take (v := ?_) rfl rfl ?_ ?_; rotate_left; (focus (try go_simp); fail)))
                exact rd_nil
              refine Tx.eff 13 32767 rfl (by decide +kernel) (fun K hK => ?_)
              go_simp
              refine (mayb_any S v _ (ho.out.below hS_12)).mono ?_
              rintro e w_13 ⟨rfl, hb_13⟩
              have hS_13 := ext_trans hS_12 (Nat.le_refl _) hb_13
              refine hK (fun w' => Below (wF).heap.size (wF) w') _ _ hS_13 (fun _ h => h) ?_
              clear hK K hb_13 hS_12
              try simp only [Act.put, List.setIfInBounds_toArray, List.set_cons_zero, List.set_cons_succ]
              refine Tx.eff 15 65535 rfl (by decide +kernel) (fun K hK => ?_)
              go_simp
              refine (mayStateb_any S v _ (ho.out.below hS_13)).mono ?_
              rintro e w_14 ⟨rfl, hb_14⟩
              have hS_14 := ext_trans hS_13 (Nat.le_refl _) hb_14
              refine hK (fun w' => Below (wF).heap.size (wF) w') _ _ hS_14 (fun _ h => h) ?_
              clear hK K hb_14 hS_13
              try simp only [Act.put, List.setIfInBounds_toArray, List.set_cons_zero, List.set_cons_succ]
              refine Tx.seg (A := ?_) 10 3145727 (by kernel_rfl) (by exact hS_14) [16, 17, 18, 19, 21] (by kernel_rfl) ?_ ?_
              rotate_left
              · intro w' hB
                have e5 := k5.below hB
                iterate 5 (first | (refine rd_skip rfl rfl ?_; simp only [Act.put, List.setIfInBounds_toArray, List.set_cons_zero, List.set_cons_succ]) | (refine rd_load_arr rfl rfl _ _ rfl _ rfl (by decide +kernel) _ (by assumption) (by first | (rw [lims_len]; kernel_rfl) | (rw [el_rep]; kernel_rfl) | (rw [el_len]; kernel_rfl) | (rw [byts_len]; kernel_rfl) | (rw [us_len]; kernel_rfl) | (rw [bytn_len]; kernel_rfl) | (rw [ens_len, digs_len]; kernel_rfl) | kernel_rfl) ?_; simp only [Act.put, List.setIfInBounds_toArray, List.set_cons_zero, List.set_cons_succ]) | (refine rd_take (v := ?_) rfl rfl ?_ ?_; rotate_left; (focus (go_simp; try (with_reducible rfl))); simp only [Act.put, List.setIfInBounds_toArray, List.set_cons_zero, List.set_cons_succ]) | (refine rd_take (v := ?_) rfl rfl ?_ ?_; rotate_left; (focus (try go_simp); fail)))
                exact rd_nil
              refine Tx.eff 20 4194303 rfl (by decide +kernel) (fun K hK => ?_)
              go_simp
              refine (target2_any S v _ (ho.out.below hS_14)).mono ?_
              rintro e w_15 ⟨rfl, hb_15⟩
              have hS_15 := ext_trans hS_14 (Nat.le_refl _) hb_15
              refine hK (fun w' => Below (wF).heap.size (wF) w') _ _ hS_15 (fun _ h => h) ?_
              clear hK K hb_15 hS_14
              try simp only [Act.put, List.setIfInBounds_toArray, List.set_cons_zero, List.set_cons_succ]
              refine Tx.eff 22 8388607 rfl (by decide +kernel) (fun K hK => ?_)
              go_simp
              refine (refTarget_any S v _ (ho.out.below hS_15)).mono ?_
              rintro e w_16 ⟨rfl, hb_16⟩
              have hS_16 := ext_trans hS_15 (Nat.le_refl _) hb_16
              refine hK (fun w' => Below (wF).heap.size (wF) w') _ _ hS_16 (fun _ h => h) ?_
              clear hK K hb_16 hS_15
              try simp only [Act.put, List.setIfInBounds_toArray, List.set_cons_zero, List.set_cons_succ]
              refine Tx.seg (A := ?_) 3 268435455 (by kernel_rfl) (by exact hS_16) [23, 24, 25, 26, 27] (by kernel_rfl) ?_ ?_
              rotate_left
              · intro w' hB
                have e5 := k5.below hB
                have e13 := k13.below hB
                iterate 5 (first | (refine rd_skip rfl rfl ?_; simp only [Act.put, List.setIfInBounds_toArray, List.set_cons_zero, List.set_cons_succ]) | (refine rd_load_arr rfl rfl _ _ rfl _ rfl (by decide +kernel) _ (by assumption) (by first | (rw [lims_len]; kernel_rfl) | (rw [el_rep]; kernel_rfl) | (rw [el_len]; kernel_rfl) | (rw [byts_len]; kernel_rfl) | (rw [us_len]; kernel_rfl) | (rw [bytn_len]; kernel_rfl) | (rw [ens_len, digs_len]; kernel_rfl) | kernel_rfl) ?_; simp only [Act.put, List.setIfInBounds_toArray, List.set_cons_zero, List.set_cons_succ]) | (refine rd_take (v := ?_) rfl rfl ?_ ?_; rotate_left; (focus (go_simp; try (with_reducible rfl))); simp only [Act.put, List.setIfInBounds_toArray, List.set_cons_zero, List.set_cons_succ]) | (refine rd_take (v := ?_) rfl rfl ?_ ?_; rotate_left; (focus (try go_simp); fail)))
                exact rd_nil
              refine Tx.eff 28 536870911 rfl (by decide +kernel) (fun K hK => ?_)
              go_simp
              refine (sameState_any S v v13 _ (ho.out.below hS_16) (o13.out.below hS_16) hfit.out).mono ?_
              rintro e w_17 ⟨rfl, hb_17⟩
              have hS_17 := ext_trans hS_16 (Nat.le_refl _) hb_17
              refine hK (fun w' => Below (wF).heap.size (wF) w') _ _ hS_17 (fun _ h => h) ?_
              clear hK K hb_17 hS_16
              try simp only [Act.put, List.setIfInBounds_toArray, List.set_cons_zero, List.set_cons_succ]
              refine Tx.seg (A := ?_) 0 2147483647 (by kernel_rfl) (by exact hS_17) [29, 30] (by kernel_rfl) ?_ ?_
              rotate_left
              · intro w' hB
                iterate 2 (first | (refine rd_skip rfl rfl ?_; simp only [Act.put, List.setIfInBounds_toArray, List.set_cons_zero, List.set_cons_succ]) | (refine rd_load_arr rfl rfl _ _ rfl _ rfl (by decide +kernel) _ (by assumption) (by first | (rw [lims_len]; kernel_rfl) | (rw [el_rep]; kernel_rfl) | (rw [el_len]; kernel_rfl) | (rw [byts_len]; kernel_rfl) | (rw [us_len]; kernel_rfl) | (rw [bytn_len]; kernel_rfl) | (rw [ens_len, digs_len]; kernel_rfl) | kernel_rfl) ?_; simp only [Act.put, List.setIfInBounds_toArray, List.set_cons_zero, List.set_cons_succ]) | (refine rd_take (v := ?_) rfl rfl ?_ ?_; rotate_left; (focus (go_simp; try (with_reducible rfl))); simp only [Act.put, List.setIfInBounds_toArray, List.set_cons_zero, List.set_cons_succ]) | (refine rd_take (v := ?_) rfl rfl ?_ ?_; rotate_left; (focus (try go_simp); fail)))
                exact rd_nil
              refine Tx.done (by kernel_rfl) ?_
              have kb := bel kb hS_17
              go_wp2_with fail
              go_ret
              exact ⟨rfl, kb⟩


end Go.Proofs.Ytkipejhjpfakpaa
