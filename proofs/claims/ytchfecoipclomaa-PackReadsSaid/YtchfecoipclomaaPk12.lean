/- The law PackReads: its walk. -/
import Derived.Test.YtchfecoipclomaaPk9
import Derived.Test.YtchfecoipclomaaCu7
import Derived.Deep.CutRange
import Derived.Deep.CutBlock
namespace Go.Proofs.Ytchfecoipclomaa
open Go.RowKit

theorem Cur.kept {w w' : World} {g k : Nat} {rest : List UInt8} {bad : Bool} (h : Cur w g rest bad) (hg : w.grownBy w' (some k)) (hk : g < k) : Cur w' g rest bad := by
  obtain ⟨v, h1, h2, h3, h4, h5⟩ := h
  have hlt := World.block_lt_of_cell? w _ h1
  have hne : (some g : Option Nat) ≠ some k := by simp only [ne_eq, Option.some.injEq]; omega
  have hb := hg.block g hlt hne
  refine ⟨v, hg.cell h1 hne, hg.cell h2 hne, ?_, ?_, ?_⟩
  · simp only [World.frozen?] at h3 ⊢; rw [hb]; exact h3
  · simp only [World.frozen?] at h4 ⊢; rw [hb]; exact h4
  · rcases h5 with h | ⟨b, o, cap, rfl, h1, h2, h3, h4, h5⟩
    · exact .inl h
    · refine .inr ⟨b, o, cap, rfl, h1, h2, h3, Nat.lt_of_lt_of_le h4 hg.size, fun j u hu => ?_⟩
      exact hg.cell (h5 j u hu) (by simp only [ne_eq, Option.some.injEq]; omega)

theorem RCur.kept {w w' : World} {g k : Nat} {v : Value} {bs rest : List UInt8} {bad : Bool} (h : RCur w g v bs rest bad) (hg : w.grownBy w' (some k)) (hk : k ≠ g) (hs : Sl w' v (u8s bs)) : RCur w' g v bs rest bad := by
  obtain ⟨m, h1, h2, h3, h4, h5, h6, h7, -, h9⟩ := h
  have hlt := World.block_lt_of_cell? w _ h3
  have hne : (some g : Option Nat) ≠ some k := by simp only [ne_eq, Option.some.injEq]; omega
  have hb := hg.block g hlt hne
  refine ⟨m, h1, h2, hg.cell h3 hne, hg.cell h4 hne, hg.cell h5 hne, ?_, ?_, hs, h9⟩
  · simp only [World.frozen?] at h6 ⊢; rw [hb]; exact h6
  · simp only [World.frozen?] at h7 ⊢; rw [hb]; exact h7

theorem RCur.badCell {w : World} {g : Nat} {v : Value} {bs rest : List UInt8} {bad : Bool} (h : RCur w g v bs rest bad) : w.cell? ⟨g, 2, none⟩ = some (.bool bad) := by
  obtain ⟨m, h1, h2, h3, h4, h5, _⟩ := h
  exact h5

theorem RCur.rest_le {w : World} {g : Nat} {v : Value} {bs rest : List UInt8} {bad : Bool} (h : RCur w g v bs rest bad) : rest.length ≤ bs.length := by
  obtain ⟨m, h1, rfl, _⟩ := h
  split <;> simp

theorem RCur.make {w : World} {v : Value} {bs : List UInt8} (h : Sl w v (u8s bs)) (T : TypeId) : RCur (w.alloc (.cells #[v, .int .i64 0, .bool false] T)) w.heap.size v bs bs false := by
  refine ⟨0, Nat.zero_le _, by simp, ?_, ?_, ?_, ?_, ?_, h.alloc _, ?_⟩
  · rw [World.cell?_alloc_at _ _ _ _ rfl]; rfl
  · rw [World.cell?_alloc_at _ _ _ _ rfl]; rfl
  · rw [World.cell?_alloc_at _ _ _ _ rfl]; rfl
  · exact World.frozen?_alloc_at _ _ _ _ rfl
  · exact World.frozen?_alloc_at _ _ _ _ rfl
  · rintro hl a n c rfl
    obtain ⟨a', c', h1, h2, h3, h4, h5⟩ := h
    simp only [Value.slice.injEq] at h1
    obtain ⟨rfl, -, -⟩ := h1
    have := h5 a rfl 0 _ (u8s_get bs 0 hl)
    exact World.block_lt_of_cell? w _ this

/-- A list of n bytes of its own, whichever. -/
def XOk (w : World) (base n : Nat) (v : Value) : Prop :=
  ∃ xs : List Value, (∀ u ∈ xs, ∃ z : Int, u = .int .u8 z) ∧ w.ownsRow base 5 1 v n xs

theorem XOk.of {w : World} {base : Nat} {v : Value} {bs : List UInt8} (h : w.ownsRow base 5 1 v bs.length (u8s bs)) : XOk w base bs.length v :=
  ⟨u8s bs, fun u hu => by simp only [u8s, List.mem_map] at hu; obtain ⟨b, -, rfl⟩ := hu; exact ⟨_, rfl⟩, h⟩

theorem XOk.step {w : World} {base g n cap j : Nat} (h : XOk w base n (.slice (some ⟨g, 0, none⟩) n cap)) (z : Int) : XOk (w.setCell ⟨g, j, none⟩ (.int .u8 z)) base n (.slice (some ⟨g, 0, none⟩) n cap) := by
  obtain ⟨xs, h1, h2⟩ := h
  refine ⟨xs.set j (.int .u8 z), fun u hu => ?_, (h2.stored j _).1⟩
  rcases List.mem_or_eq_of_mem_set hu with h | rfl
  · exact h1 u h
  · exact ⟨z, rfl⟩

theorem XOk.at {w : World} {base n j c : Nat} {a : Option Addr} (h : XOk w base n (.slice a n c)) (hj : j < n) : ∃ g z, a = some ⟨g, 0, none⟩ ∧ base ≤ g ∧ w.cell? ⟨g, j, none⟩ = some (.int .u8 z) ∧ w.frozen? ⟨g, j, none⟩ = false := by
  obtain ⟨xs, h1, h2⟩ := h
  have hx := h2.1
  rw [Nat.mul_one] at hx
  rcases id h2.2 with ⟨-, h0⟩ | ⟨g, cap, cur, he, hb, _⟩
  · omega
  · simp only [Value.slice.injEq] at he
    obtain ⟨rfl, -, -⟩ := he
    obtain ⟨z, hz⟩ := h1 xs[j] (List.getElem_mem (by omega))
    refine ⟨g, z, rfl, hb, ?_, h2.frozenAt j⟩
    rw [h2.cellAt j (by omega), List.getElem?_eq_getElem (by omega), hz]

theorem XOk.shape {w : World} {base n : Nat} {v : Value} (h : XOk w base n v) : ∃ a c, v = .slice a n c := by
  obtain ⟨xs, h1, h2⟩ := h
  rcases id h2.2 with ⟨rfl, rfl⟩ | ⟨g, cap, cur, rfl, _⟩ <;> exact ⟨_, _, rfl⟩



set_option maxHeartbeats 8000000 in
set_option maxRecDepth 100000 in
theorem packReads_walk (ab : Option Addr) (cb : Nat) (b : List UInt8) (aw : Option Addr) (cw : Nat) (want : List Int) (an : Option Addr) (cn : Nat) (ns : List Int) (w : World) (hb : Sl w (.slice ab b.length cb) (u8s b))
    (hw : Sl w (.slice aw want.length cw) (want.map (.int .i64))) (hn : Sl w (.slice an ns.length cn) (ns.map (.int .i64))) :
    Calls Try.prog 5 #[.slice ab b.length cb, .slice aw want.length cw, .slice an ns.length cn] w fun e w' => e = .returned (.bool true) ∧ Below w.heap.size w w' := by
  have hb' := Lib.hid hb
  have hw' := Lib.hid hw
  have hn' := Lib.hid hn
  have lb := hb.len
  have lw := hw.len
  have ln := hn.len
  clear hb hw hn
  have b0 : b.length ≤ 9223372036854775807 := by unfold maxLen at lb; rw [u8s_len] at lb; omega
  have b1 : want.length ≤ 9223372036854775807 := by unfold maxLen at lw; omega
  have b2 : ns.length ≤ 9223372036854775807 := by unfold maxLen at ln; omega
  clear lb lw ln
  by_cases c0 : 2000 < b.length
  · go_enter Try.func5, Try.ntmps5
    go_wp2_with fail
    refine (alive2 w).mono ?_
    rintro e w1 ⟨rfl, hb1⟩
    have d0 : (2000 : Int) < (b.length : Int) := by omega
    go_wp2
    go_ret
    exact ⟨rfl, hb1⟩
  by_cases c1 : 100 < want.length
  · go_enter Try.func5, Try.ntmps5
    go_wp2_with fail
    refine (alive2 w).mono ?_
    rintro e w1 ⟨rfl, hb1⟩
    have d0 : ¬ (2000 : Int) < (b.length : Int) := by omega
    have d1 : (100 : Int) < (want.length : Int) := by omega
    go_wp2
    go_ret
    exact ⟨rfl, hb1⟩
  by_cases c2 : ns.length < want.length
  · go_enter Try.func5, Try.ntmps5
    go_wp2_with fail
    refine (alive2 w).mono ?_
    rintro e w1 ⟨rfl, hb1⟩
    have d0 : ¬ (2000 : Int) < (b.length : Int) := by omega
    have d1 : ¬ (100 : Int) < (want.length : Int) := by omega
    have d2 : (ns.length : Int) < (want.length : Int) := by omega
    go_wp2
    go_ret
    exact ⟨rfl, hb1⟩
  go_enter Try.func5, Try.ntmps5
  go_wp2_with fail
  refine (alive2 w).mono ?_
  rintro e w1 ⟨rfl, hb1⟩
  have d0 : ¬ (2000 : Int) < (b.length : Int) := by omega
  have d1 : ¬ (100 : Int) < (want.length : Int) := by omega
  have d2 : ¬ (ns.length : Int) < (want.length : Int) := by omega
  have hb1' := Lib.hid hb1
  clear hb1
  go_wp2_with fail
  refine (packNew_any _ b w1 (hb'.out.below hb1'.out) (by omega)).mono ?_
  rintro e w2 ⟨g1, rfl, hgs, hcur, hbel2⟩
  have hb2 : Hid (Below w.heap.size w w2) := hb1'.out.trans (hbel2.mono hb1'.out.size)
  have hc2 : Hid (Cur w2 g1 b false) := hcur
  have hg1 : w.heap.size ≤ g1 := Nat.le_trans hb1'.out.size hgs
  have hg2 : g1 < w2.heap.size := hc2.out.lt
  clear hcur hbel2 hb1' d0 d1 d2 hgs
  go_wp2_with fail
  have hb3 : Hid (Below w.heap.size w (w2.alloc (.cells #[.slice ab b.length cb, .int .i64 0, .bool false] 36))) := hb2.out.alloc hb2.out.size _
  have hc3 : Hid (Cur (w2.alloc (.cells #[.slice ab b.length cb, .int .i64 0, .bool false] 36)) g1 b false) := hc2.out.below (below_alloc _ _)
  have hr3 : Hid (RCur (w2.alloc (.cells #[.slice ab b.length cb, .int .i64 0, .bool false] 36)) w2.heap.size (.slice ab b.length cb) b b false) := RCur.make (hb'.out.below hb2.out) _
  generalize w2.alloc (.cells #[.slice ab b.length cb, .int .i64 0, .bool false] 36) = w3 at hb3 hc3 hr3 ⊢
  generalize w2.heap.size = g2 at hg2 hr3 ⊢
  clear hb2 hc2
  go_loopw [10] (fun kv wr => True ∧ ∃ (i : Nat) (rest : List UInt8) (bad : Bool), i ≤ want.length ∧ kv = .int .i64 i ∧ Below w.heap.size w wr ∧ Cur wr g1 rest bad ∧ RCur wr g2 (.slice ab b.length cb) b rest bad) (fun kv _ => want.length - (intOf kv).toNat)
  case atStart => exact ⟨trivial, 0, b, false, Nat.zero_le _, rfl, hb3.out, hc3.out, hr3.out⟩
  case round =>
    obtain ⟨-, i, rest, bad, hi, rfl, hbr, hcr, hrr⟩ := hrel
    clear hb3 hc3 hr3
    have hbr' := Lib.hid hbr
    have hcr' := Lib.hid hcr
    have hrr' := Lib.hid hrr
    have hrl : rest.length ≤ 2000 := by have := hrr.rest_le; omega
    clear hbr hcr hrr
    by_cases hlt : i < want.length
    · obtain ⟨wb, wf, rfl, -, -, -, hcs⟩ := (hw'.out.below hbr'.out).at (by simp; omega)
      have hcell := hcs i (.int .i64 want[i]) (by simp [List.getElem?_eq_getElem hlt])
      clear hcs
      have hi0 : (0 : Int) ≤ (i : Int) := by omega
      have hi1 : (i : Int) < (want.length : Int) := by omega
      have hi2 : (i : Int) < (ns.length : Int) := by omega
      generalize hkind : bits .and .i64 want[i] 3 = kind
      obtain ⟨wo, rfl⟩ : ∃ wo : World, wo = wr := ⟨_, rfl⟩
      have hgs1 : g1 < wo.heap.size := hcr'.out.lt
      have hgs2 : g2 < wo.heap.size := hrr'.out.lt
      go_upto_block 2 with fail
      go_cut [11, 12, 13, 14, 15] from 44 to 140 (fun ok _ _ _ _ wc => ok = .bool true ∧ ∃ rest2 bad2, Below w.heap.size w wc ∧ Cur wc g1 rest2 bad2 ∧ RCur wc g2 (.slice ab b.length cb) b rest2 bad2)
      case first =>
        by_cases k0 : kind = 0
        · subst k0
          obtain ⟨R, hR⟩ : ∃ R, intS rest bad = R := ⟨_, rfl⟩
          have hR' := Lib.hid hR
          clear hR
          obtain ⟨z, rest2, bad2⟩ := R
          go_wp2_with fail
          refine (int_any g1 rest bad wo hcr'.out (by omega)).mono ?_
          rw [hR'.out]
          rintro e wA ⟨rfl, hgA, hcA⟩
          have hbA : Hid (Below w.heap.size w wA) := cur_lift hbr'.out hgA hg1
          have hrA : Hid (RCur wA g2 (.slice ab b.length cb) b rest bad) := hrr'.out.kept hgA (by omega) (hb'.out.below hbA.out)
          have hcA' := Lib.hid hcA
          clear hgA hcA
          go_wp2_with fail
          refine (intR_any g2 _ b rest bad wA hrA.out (by omega)).mono ?_
          rw [hR'.out]
          rintro e wT ⟨rfl, hgB, hrB⟩
          have hbT : Hid (Below w.heap.size w wT) := cur_lift hbA.out hgB (by omega)
          have hcT : Hid (Cur wT g1 rest2 bad2) := hcA'.out.kept hgB hg2
          have hrT : Hid (RCur wT g2 (.slice ab b.length cb) b rest2 bad2) := hrB
          clear hgB hrB hcA' hbA hrA hR' hcell
          go_wp2_with fail
          go_meet
          case rel => exact ⟨rfl, rest2, bad2, hbT.out, hcT.out, hrT.out⟩
        by_cases k1 : kind = 1
        · subst k1
          clear k0
          obtain ⟨R, hR⟩ : ∃ R, bytesS rest bad = R := ⟨_, rfl⟩
          have hR' := Lib.hid hR
          clear hR
          obtain ⟨z, rest2, bad2⟩ := R
          go_wp2_with fail
          refine (bytes_any g1 rest bad wo hcr'.out (by omega)).mono ?_
          rw [hR'.out]
          rintro e wA ⟨v, rfl, hoA, hgA, hcA⟩
          have hbA : Hid (Below w.heap.size w wA) := cur_lift hbr'.out hgA hg1
          have hrA : Hid (RCur wA g2 (.slice ab b.length cb) b rest bad) := hrr'.out.kept hgA (by omega) (hb'.out.below hbA.out)
          have hcA' := Lib.hid hcA
          have hoA' := Lib.hid hoA
          clear hgA hcA hoA
          go_wp2_with fail
          refine Txt.start ((fun w' => wA.grownBy w' (some g2))) 7 rfl (by kernel_rfl) ?_
          refine Txt.seg (A := ?As0) 4 7 (by kernel_rfl) (by exact (below_grownBy (w' := wA.drew) (Below.refl _ _).drew _)) [0, 1, 2] (by kernel_rfl) ?s0 ?_
          case s0 =>
            intro w' hB
            have s1 := str (Sl.of_own (own_grown hoA'.out hB hgs2))
            iterate 3 (first | (refine rd_skip rfl rfl ?_; simp only [Act.put, List.setIfInBounds_toArray, List.set_cons_zero, List.set_cons_succ]) | (refine rd_take (v := ?_) rfl rfl ?_ ?_; rotate_left; (focus (go_simp; try (with_reducible rfl))); simp only [Act.put, List.setIfInBounds_toArray, List.set_cons_zero, List.set_cons_succ]))
            exact rd_nil
          refine Txt.eff 3 15 rfl (by decide +kernel) (fun K hK => ?_)
          go_simp
          refine (bytesR_any g2 _ b rest bad _ (hrA.out.below (w' := wA.drew) (Below.refl _ _).drew) (by omega)).mono ?_
          rw [hR'.out]
          rintro e wB ⟨v2, rfl, hoB, hgB, hrB⟩
          have hgB2 : Hid (wA.grownBy wB (some g2)) := grownBy_trans (below_grownBy (w' := wA.drew) (Below.refl _ _).drew _) hgB
          have hbB : Hid (Below w.heap.size w wB) := cur_lift hbA.out hgB2.out (by omega)
          have hcB : Hid (Cur wB g1 rest2 bad2) := hcA'.out.kept hgB2.out hg2
          have hrB' : Hid (RCur wB g2 (.slice ab b.length cb) b rest2 bad2) := hrB
          have hoB' := Lib.hid hoB
          clear hgB hrB hoB
          refine hK (Below wB.heap.size wB) _ _ hgB2.out (fun w'' h => grownBy_trans hgB2.out (below_grownBy h _)) ?_
          clear hK
          try simp only [Act.put, List.setIfInBounds_toArray, List.set_cons_zero, List.set_cons_succ]
          refine Txt.seg (A := ?As1) 0 127 (by kernel_rfl) (by exact (Below.refl _ _)) [4, 5, 6] (by kernel_rfl) ?s1 ?_
          case s1 =>
            intro w' hB
            have s2 := str ((Sl.of_own hoB'.out).below hB)
            iterate 3 (first | (refine rd_skip rfl rfl ?_; simp only [Act.put, List.setIfInBounds_toArray, List.set_cons_zero, List.set_cons_succ]) | (refine rd_take (v := ?_) rfl rfl ?_ ?_; rotate_left; (focus (go_simp; try (with_reducible rfl))); simp only [Act.put, List.setIfInBounds_toArray, List.set_cons_zero, List.set_cons_succ]))
            exact rd_nil
          refine Txt.done (by kernel_rfl) ?_
          have hx : Hid (XOk wB wo.heap.size z.length v) := XOk.of (own_grown hoA'.out hgB2.out hgs2)
          have hlen : z.length ≤ 9223372036854775807 := by have := hx.out; obtain ⟨xs, -, h⟩ := this; rcases h.2 with ⟨-, h⟩ | ⟨_, cap, _, _, _, _, h1, h2, _⟩ <;> unfold maxLen at * <;> omega
          obtain ⟨xa, xc, rfl⟩ := hx.out.shape
          clear hoA' hoB' hgB2 hR' hcA' hrA hbA
          try clear hcell
          go_wp2_with fail
          go_loopw [13] (fun kv wr => ∃ j : Nat, j ≤ z.length ∧ kv = .int .i64 j ∧ XOk wr wo.heap.size z.length (.slice xa z.length xc) ∧ Below w.heap.size w wr ∧ Cur wr g1 rest2 bad2 ∧ RCur wr g2 (.slice ab b.length cb) b rest2 bad2) (fun kv _ => z.length - (intOf kv).toNat)
          case atStart => exact ⟨0, Nat.zero_le _, rfl, hx.out, hbB.out, hcB.out, hrB'.out⟩
          case round =>
            obtain ⟨j, hj, rfl, hxr, hbx, hcx, hrx⟩ := hrel
            obtain ⟨wT, rfl⟩ : ∃ wT : World, wT = wr := ⟨_, rfl⟩
            clear hx hbB hcB hrB'
            have hxT := Lib.hid hxr
            have hbT := Lib.hid hbx
            have hcT := Lib.hid hcx
            have hrT := Lib.hid hrx
            clear hxr hbx hcx hrx
            by_cases hjn : j < z.length
            · obtain ⟨gx, zx, rfl, hgx, hcx, hfx⟩ := hxT.out.at hjn
              have hj0 : (0 : Int) ≤ (j : Int) := by omega
              have hj1 : (j : Int) < (z.length : Int) := by omega
              have hsz : w.heap.size ≤ wo.heap.size := hbr'.out.size
              go_wp2_with fail
              have hbS : Hid (Below w.heap.size w (wT.setCell ⟨gx, j, none⟩ (.int .u8 (bits .xor .u8 zx 255)))) := hbT.out.setCell (Nat.le_trans hsz hgx) _
              have hgS : wT.grownBy (wT.setCell ⟨gx, j, none⟩ (.int .u8 (bits .xor .u8 zx 255))) (some gx) := grownBy_set (World.grownBy.refl _ _)
              exact ⟨⟨j + 1, by omega, by go_num, hxT.out.step _, hbS.out, hcT.out.kept hgS (by omega), hrT.out.kept hgS (by omega) (hb'.out.below hbS.out)⟩, by simp [intOf]; omega⟩
            · have hj' : j = z.length := by omega
              subst hj'
              clear hxT
              go_wp2_with fail
              go_meet
              case rel => exact ⟨rfl, rest2, bad2, hbT.out, hcT.out, hrT.out⟩
        · have d0 : (kind == 0) = false := by simpa using k0
          have d1 : (kind == 1) = false := by simpa using k1
          obtain ⟨nb, nf, rfl, -, -, -, hcs⟩ := (hn'.out.below hbr'.out).at (by simp; omega)
          have hncell := hcs i (.int .i64 ns[i]) (by simp [List.getElem?_eq_getElem (show i < ns.length by omega)])
          clear hcs
          have hnblk : nb < wo.heap.size := World.block_lt_of_cell? wo _ hncell
          obtain ⟨R, hR⟩ : ∃ R, rawS rest bad ns[i] = R := ⟨_, rfl⟩
          have hR' := Lib.hid hR
          clear hR
          obtain ⟨z, rest2, bad2⟩ := R
          go_wp2_with fail
          refine (raw_any g1 rest bad ns[i] wo hcr'.out (by omega)).mono ?_
          rw [hR'.out]
          rintro e wA ⟨v, rfl, hoA, hgA, hcA⟩
          have hbA : Hid (Below w.heap.size w wA) := cur_lift hbr'.out hgA hg1
          have hrA : Hid (RCur wA g2 (.slice ab b.length cb) b rest bad) := hrr'.out.kept hgA (by omega) (hb'.out.below hbA.out)
          have hcA' := Lib.hid hcA
          have hoA' := Lib.hid hoA
          have hnA : Hid (∀ w', wA.grownBy w' (some g2) → w'.cell? ⟨nb, nf + i, none⟩ = some (.int .i64 ns[i])) := fun w' hw2 => by
            have h1 := ((hn'.out.below (cur_lift hbA.out hw2 (by omega))).at (by simp; omega))
            obtain ⟨nb2, nf2, he, -, -, -, hcs⟩ := h1
            cases he
            exact hcs i (.int .i64 ns[i]) (by simp [List.getElem?_eq_getElem (show i < ns.length by omega)])
          clear hgA hcA hoA hncell
          go_wp2_with fail
          refine Txt.start ((fun w' => wA.grownBy w' (some g2))) 11 rfl (by kernel_rfl) ?_
          refine Txt.seg (A := ?Ar0) 4 127 (by kernel_rfl) (by exact (below_grownBy (w' := wA.drew) (Below.refl _ _).drew _)) [0, 1, 2, 3, 4, 5, 6] (by kernel_rfl) ?r0 ?_
          case r0 =>
            intro w' hB
            have s1 := str (Sl.of_own (own_grown hoA'.out hB hgs2))
            have s2 := hnA.out w' hB
            iterate 7 (first | (refine rd_skip rfl rfl ?_; simp only [Act.put, List.setIfInBounds_toArray, List.set_cons_zero, List.set_cons_succ]) | (refine rd_take (v := ?_) rfl rfl ?_ ?_; rotate_left; (focus (go_simp; try (with_reducible rfl))); simp only [Act.put, List.setIfInBounds_toArray, List.set_cons_zero, List.set_cons_succ]))
            exact rd_nil
          refine Txt.eff 7 255 rfl (by decide +kernel) (fun K hK => ?_)
          go_simp
          refine (rawR_any g2 _ b rest bad ns[i] _ (hrA.out.below (w' := wA.drew) (Below.refl _ _).drew) (by omega)).mono ?_
          rw [hR'.out]
          rintro e wB ⟨v2, rfl, hoB, hgB, hrB⟩
          have hgB2 : Hid (wA.grownBy wB (some g2)) := grownBy_trans (below_grownBy (w' := wA.drew) (Below.refl _ _).drew _) hgB
          have hbB : Hid (Below w.heap.size w wB) := cur_lift hbA.out hgB2.out (by omega)
          have hcB : Hid (Cur wB g1 rest2 bad2) := hcA'.out.kept hgB2.out hg2
          have hrB' : Hid (RCur wB g2 (.slice ab b.length cb) b rest2 bad2) := hrB
          have hoB' := Lib.hid hoB
          clear hgB hrB hoB
          refine hK (Below wB.heap.size wB) _ _ hgB2.out (fun w'' h => grownBy_trans hgB2.out (below_grownBy h _)) ?_
          clear hK
          try simp only [Act.put, List.setIfInBounds_toArray, List.set_cons_zero, List.set_cons_succ]
          refine Txt.seg (A := ?Ar1) 0 2047 (by kernel_rfl) (by exact (Below.refl _ _)) [8, 9, 10] (by kernel_rfl) ?r1 ?_
          case r1 =>
            intro w' hB
            have s2 := str ((Sl.of_own hoB'.out).below hB)
            iterate 3 (first | (refine rd_skip rfl rfl ?_; simp only [Act.put, List.setIfInBounds_toArray, List.set_cons_zero, List.set_cons_succ]) | (refine rd_take (v := ?_) rfl rfl ?_ ?_; rotate_left; (focus (go_simp; try (with_reducible rfl))); simp only [Act.put, List.setIfInBounds_toArray, List.set_cons_zero, List.set_cons_succ]))
            exact rd_nil
          refine Txt.done (by kernel_rfl) ?_
          have hx : Hid (XOk wB wo.heap.size z.length v) := XOk.of (own_grown hoA'.out hgB2.out hgs2)
          have hlen : z.length ≤ 9223372036854775807 := by have := hx.out; obtain ⟨xs, -, h⟩ := this; rcases h.2 with ⟨-, h⟩ | ⟨_, cap, _, _, _, _, h1, h2, _⟩ <;> unfold maxLen at * <;> omega
          obtain ⟨xa, xc, rfl⟩ := hx.out.shape
          clear hoA' hoB' hgB2 hR' hcA' hrA hbA
          try clear hcell
          go_wp2_with fail
          go_loopw [15] (fun kv wr => ∃ j : Nat, j ≤ z.length ∧ kv = .int .i64 j ∧ XOk wr wo.heap.size z.length (.slice xa z.length xc) ∧ Below w.heap.size w wr ∧ Cur wr g1 rest2 bad2 ∧ RCur wr g2 (.slice ab b.length cb) b rest2 bad2) (fun kv _ => z.length - (intOf kv).toNat)
          case atStart => exact ⟨0, Nat.zero_le _, rfl, hx.out, hbB.out, hcB.out, hrB'.out⟩
          case round =>
            obtain ⟨j, hj, rfl, hxr, hbx, hcx, hrx⟩ := hrel
            obtain ⟨wT, rfl⟩ : ∃ wT : World, wT = wr := ⟨_, rfl⟩
            clear hx hbB hcB hrB'
            have hxT := Lib.hid hxr
            have hbT := Lib.hid hbx
            have hcT := Lib.hid hcx
            have hrT := Lib.hid hrx
            clear hxr hbx hcx hrx
            by_cases hjn : j < z.length
            · obtain ⟨gx, zx, rfl, hgx, hcx, hfx⟩ := hxT.out.at hjn
              have hj0 : (0 : Int) ≤ (j : Int) := by omega
              have hj1 : (j : Int) < (z.length : Int) := by omega
              have hsz : w.heap.size ≤ wo.heap.size := hbr'.out.size
              go_wp2_with fail
              have hbS : Hid (Below w.heap.size w (wT.setCell ⟨gx, j, none⟩ (.int .u8 (bits .xor .u8 zx 255)))) := hbT.out.setCell (Nat.le_trans hsz hgx) _
              have hgS : wT.grownBy (wT.setCell ⟨gx, j, none⟩ (.int .u8 (bits .xor .u8 zx 255))) (some gx) := grownBy_set (World.grownBy.refl _ _)
              exact ⟨⟨j + 1, by omega, by go_num, hxT.out.step _, hbS.out, hcT.out.kept hgS (by omega), hrT.out.kept hgS (by omega) (hb'.out.below hbS.out)⟩, by simp [intOf]; omega⟩
            · have hj' : j = z.length := by omega
              subst hj'
              clear hxT
              go_wp2_with fail
              go_meet
              case rel => exact ⟨rfl, rest2, bad2, hbT.out, hcT.out, hrT.out⟩
      case rest =>
        obtain ⟨rfl, rest2, bad2, hbT, hcT, hrT⟩ := hcut
        obtain ⟨wT, rfl⟩ : ∃ wT : World, wT = wc := ⟨_, rfl⟩
        clear hbr' hcr' hrr' hcell hkind
        have hbT := Lib.hid hbT
        have hcT := Lib.hid hcT
        have hrT := Lib.hid hrT
        have hbp : Hid (Below wT.heap.size wT wT.drew) := (Below.refl _ _).drew
        have hcp : Hid (Cur wT.drew g1 rest2 bad2) := hcT.out.below hbp.out
        have hrp : Hid (RCur wT.drew g2 (.slice ab b.length cb) b rest2 bad2) := hrT.out.below hbp.out
        go_wp2_with fail
        refine Txt.start ((Below wT.heap.size wT)) 25 rfl (by kernel_rfl) ?_
        refine Txt.seg (A := ?Atap) 20 47 (by kernel_rfl) (by exact hbp.out) [0, 1, 2, 3, 5] (by kernel_rfl) ?tap ?_
        case tap =>
          intro w' hB
          iterate 5 (first | (refine rd_skip rfl rfl ?_; simp only [Act.put, List.setIfInBounds_toArray, List.set_cons_zero, List.set_cons_succ]) | (refine rd_take (v := ?_) rfl rfl ?_ ?_; rotate_left; (focus (go_simp; try (with_reducible rfl))); simp only [Act.put, List.setIfInBounds_toArray, List.set_cons_zero, List.set_cons_succ]))
          exact rd_nil
        refine Txt.eff 4 63 rfl (by decide +kernel) (fun K hK => ?_)
        go_simp
        refine (left_any g1 rest2 bad2 _ hcp.out).mono ?_
        rintro e wB ⟨rfl, rfl⟩
        refine hK (Below wT.heap.size wT) _ _ hbp.out (fun w'' h => h) ?_
        clear hK
        try simp only [Act.put, List.setIfInBounds_toArray, List.set_cons_zero, List.set_cons_succ]
        refine Txt.eff 6 127 rfl (by decide +kernel) (fun K hK => ?_)
        go_simp
        refine (leftR_any g2 _ b rest2 bad2 _ hrp.out).mono ?_
        rintro e wB ⟨rfl, hbB⟩
        have hbB2 : Hid (Below wT.heap.size wT wB) := hbp.out.trans (hbB.mono hbp.out.size)
        have hcB : Hid (Cur wB g1 rest2 bad2) := hcp.out.below hbB
        have hrB : Hid (RCur wB g2 (.slice ab b.length cb) b rest2 bad2) := hrp.out.below hbB
        clear hbB
        refine hK (Below wT.heap.size wT) _ _ hbB2.out (fun w'' h => h) ?_
        clear hK
        try simp only [Act.put, List.setIfInBounds_toArray, List.set_cons_zero, List.set_cons_succ]
        refine Txt.seg (A := ?Atbp) 10 63487 (by kernel_rfl) (by exact hbB2.out) [7, 8, 9, 10, 12, 13, 14, 15] (by kernel_rfl) ?tbp ?_
        case tbp =>
          intro w' hB
          have e2 : w'.cell? ⟨g2, 2, none⟩ = some (.bool bad2) := (hrT.out.below hB).badCell
          iterate 8 (first | (refine rd_skip rfl rfl ?_; simp only [Act.put, List.setIfInBounds_toArray, List.set_cons_zero, List.set_cons_succ]) | (refine rd_take (v := ?_) rfl rfl ?_ ?_; rotate_left; (focus (go_simp; try (with_reducible rfl))); simp only [Act.put, List.setIfInBounds_toArray, List.set_cons_zero, List.set_cons_succ]))
          exact rd_nil
        refine Txt.eff 11 65535 rfl (by decide +kernel) (fun K hK => ?_)
        go_simp
        refine (bad_any g1 rest2 bad2 _ hcB.out).mono ?_
        rintro e wC ⟨rfl, rfl⟩
        refine hK (Below wT.heap.size wT) _ _ hbB2.out (fun w'' h => h) ?_
        clear hK
        try simp only [Act.put, List.setIfInBounds_toArray, List.set_cons_zero, List.set_cons_succ]
        refine Txt.seg (A := ?Atcp) 4 3145727 (by kernel_rfl) (by exact hbB2.out) [16, 17, 18, 19, 21] (by kernel_rfl) ?tcp ?_
        case tcp =>
          intro w' hB
          iterate 5 (first | (refine rd_skip rfl rfl ?_; simp only [Act.put, List.setIfInBounds_toArray, List.set_cons_zero, List.set_cons_succ]) | (refine rd_take (v := ?_) rfl rfl ?_ ?_; rotate_left; (focus (go_simp; try (with_reducible rfl))); simp only [Act.put, List.setIfInBounds_toArray, List.set_cons_zero, List.set_cons_succ]))
          exact rd_nil
        refine Txt.eff 20 4194303 rfl (by decide +kernel) (fun K hK => ?_)
        go_simp
        refine (end_any g1 rest2 bad2 _ hcB.out).mono ?_
        rintro e wD ⟨rfl, rfl⟩
        refine hK (Below wT.heap.size wT) _ _ hbB2.out (fun w'' h => h) ?_
        clear hK
        try simp only [Act.put, List.setIfInBounds_toArray, List.set_cons_zero, List.set_cons_succ]
        refine Txt.eff 22 8388607 rfl (by decide +kernel) (fun K hK => ?_)
        go_simp
        refine (endR_any g2 _ b rest2 bad2 _ hrB.out).mono ?_
        rintro e wD ⟨rfl, hbD⟩
        have hbD2 : Hid (Below w.heap.size w wD) := hbT.out.trans ((hbB2.out.trans (hbD.mono hbB2.out.size)).mono hbT.out.size)
        have hcD : Hid (Cur wD g1 rest2 bad2) := hcB.out.below hbD
        have hrD : Hid (RCur wD g2 (.slice ab b.length cb) b rest2 bad2) := hrB.out.below hbD
        have hbD3 : Hid (Below wT.heap.size wT wD) := hbB2.out.trans (hbD.mono hbB2.out.size)
        clear hbD
        refine hK (Below wT.heap.size wT) _ _ hbD3.out (fun w'' h => h) ?_
        clear hK
        try simp only [Act.put, List.setIfInBounds_toArray, List.set_cons_zero, List.set_cons_succ]
        refine Txt.seg (A := ?Atdp) 0 33554431 (by kernel_rfl) (by exact hbD3.out) [23, 24] (by kernel_rfl) ?tdp ?_
        case tdp =>
          intro w' hB
          iterate 2 (first | (refine rd_skip rfl rfl ?_; simp only [Act.put, List.setIfInBounds_toArray, List.set_cons_zero, List.set_cons_succ]) | (refine rd_take (v := ?_) rfl rfl ?_ ?_; rotate_left; (focus (go_simp; try (with_reducible rfl))); simp only [Act.put, List.setIfInBounds_toArray, List.set_cons_zero, List.set_cons_succ]))
          exact rd_nil
        refine Txt.done (by kernel_rfl) ?_
        go_wp2
        go_roundw
        case rel => exact ⟨trivial, i + 1, rest2, bad2, by omega, by go_num, hbD2.out, hcD.out, hrD.out⟩
        case measure => simp [intOf]; omega
    · have hi' : i = want.length := by omega
      subst hi'
      go_wp2
      go_ret
      exact ⟨rfl, hbr'.out⟩

end Go.Proofs.Ytchfecoipclomaa
