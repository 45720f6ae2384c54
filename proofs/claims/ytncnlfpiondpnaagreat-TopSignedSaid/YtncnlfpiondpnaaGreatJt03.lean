/- TopSigned: part 3 of its proof: lemmas and contracts, each with its conditions in its own statement; the last part holds the law itself. -/
import Derived.Test.YtncnlfpiondpnaaGreatJt02
import Derived.Test.YtncnlfpiondpnaaGreatRows
import Derived.Deep.CutRange
import Derived.Deep.CutBlock
import Derived.StillTailTactics

set_option maxHeartbeats 4000000
set_option maxRecDepth 100000
namespace Go.Proofs.YtncnlfpiondpnaaGreat
open Go.RowKit
theorem Sl.mid {w : World} {a : Option Addr} {n c k m : Nat} {bs : List UInt8} (h : Sl w (.slice a n c) (u8s bs)) (hk : k + m ≤ bs.length) : Sl w (.slice (if c = k then a else a.map (·.add k)) m (c - k)) (u8s ((bs.drop k).take m)) := by
 obtain ⟨a', c', h1, h2, h3, h4, h5⟩ := h
 simp only [Value.slice.injEq] at h1
 obtain ⟨rfl, rfl, rfl⟩ := h1
 rw [u8s_len] at h2
 have hl : ((bs.drop k).take m).length = m := by simp only [List.length_take, List.length_drop]; omega
 refine ⟨_, c - k, by rw [u8s_len, hl], by rw [u8s_len, hl]; omega, by omega, fun e => ?_, fun x hx j u hu => ?_⟩
 · split at e
   · have := h4 e; omega
   · cases a with
     | none => have := h4 rfl; omega
     | some y => cases e
 · have hj : j < m := by
    have := (List.getElem?_eq_some_iff.1 hu).1
    rwa [u8s_len, hl] at this
   rw [if_neg zOm] at hx
   cases a with
   | none => cases hx
   | some y =>
    simp only [Option.map_some, Option.some.injEq] at hx
    subst hx
    rw [Addr.add_add]
    refine h5 y rfl (k + j) u ?_
    rw [← hu]
    simp [u8s, hj]
def RCur (w : World) (g : Nat) (v : Value) (bs rest : List UInt8) (bad : Bool) : Prop :=
 ∃ k : Nat, k ≤ bs.length ∧ rest = (if bad = true then [] else bs.drop k) ∧ w.cell? ⟨g, 0, none⟩ = some v ∧ w.cell? ⟨g, 1, none⟩ = some (.int .i64 k) ∧ w.cell? ⟨g, 2, none⟩ = some (.bool bad) ∧
  w.frozen? ⟨g, 1, none⟩ = false ∧ w.frozen? ⟨g, 2, none⟩ = false ∧ Sl w v (u8s bs) ∧ (0 < bs.length → ∀ a n c, v = .slice (some a) n c → a.block < g)
theorem RCur.lt {w : World} {g : Nat} {v : Value} {bs rest : List UInt8} {bad : Bool} (h : RCur w g v bs rest bad) : g < w.heap.size := by
 obtain ⟨k, -, -, h1, _⟩ := h
 exact World.block_lt_of_cell? w _ h1
theorem RCur.below {w w' : World} {g : Nat} {v : Value} {bs rest : List UInt8} {bad : Bool} (h : RCur w g v bs rest bad) (hg : Below w.heap.size w w') : RCur w' g v bs rest bad := by
 have hlt := h.lt
 obtain ⟨k, h1, h2, h3, h4, h5, h6, h7, h8, h9⟩ := h
 exact ⟨k, h1, h2, by rw [hg.cell (p := ⟨g, 0, none⟩) hlt]; exact h3, by rw [hg.cell (p := ⟨g, 1, none⟩) hlt]; exact h4, by rw [hg.cell (p := ⟨g, 2, none⟩) hlt]; exact h5,
  by rw [hg.frozen (p := ⟨g, 1, none⟩) hlt]; exact h6, by rw [hg.frozen (p := ⟨g, 2, none⟩) hlt]; exact h7, h8.below hg, h9⟩
theorem Sl.kept {w w' : World} {g : Nat} {v : Value} {xs : List Value} (h : Sl w v xs) (hg : w.grownBy w' (some g)) (hv : 0 < xs.length → ∀ a n c, v = .slice (some a) n c → a.block < g) : Sl w' v xs := by
 obtain ⟨a, c, rfl, h2, h3, h4, h5⟩ := h
 refine ⟨a, c, rfl, h2, h3, h4, fun x hx j u hu => ?_⟩
 subst hx
 have hj := (List.getElem?_eq_some_iff.1 hu).1
 have := hv zOm x _ _ rfl
 refine hg.cell (h5 x rfl j u hu) ?_
 have e : (x.add j).block = x.block := by unfold Addr.add; split <;> rfl
 simp only [ne_eq, Option.some.injEq]
 rw [e]
 omega
theorem RCur.mk_set {w : World} {g k k' : Nat} {v : Value} {bs : List UInt8} (hk : k' ≤ bs.length) (h0 : w.cell? ⟨g, 0, none⟩ = some v) (h1 : w.cell? ⟨g, 1, none⟩ = some (.int .i64 k)) (h2 : w.cell? ⟨g, 2, none⟩ = some (.bool false))
 (f1 : w.frozen? ⟨g, 1, none⟩ = false) (f2 : w.frozen? ⟨g, 2, none⟩ = false) (hs : Sl w v (u8s bs)) (hv : 0 < bs.length → ∀ a n c, v = .slice (some a) n c → a.block < g) : RCur (w.setCell ⟨g, 1, none⟩ (.int .i64 k')) g v bs (bs.drop k') false := by
 refine ⟨k', hk, rfl, ?_, ?_, ?_, ?_, ?_, hs.kept (grownBy_set (World.grownBy.refl _ _)) (by rw [u8s_len]; exact hv), hv⟩
 · rw [World.cell?_setCell_other _ _ _ _ (by simp)]; exact h0
 · rw [World.cell?_setCell_same _ _ _ h1]
 · rw [World.cell?_setCell_other _ _ _ _ (by simp)]; exact h2
 · rw [World.frozen?_setCell]; exact f1
 · rw [World.frozen?_setCell]; exact f2
theorem RCur.mk_bad {w : World} {g k : Nat} {bad : Bool} {v : Value} {bs : List UInt8} (hk : k ≤ bs.length) (h0 : w.cell? ⟨g, 0, none⟩ = some v) (h1 : w.cell? ⟨g, 1, none⟩ = some (.int .i64 k)) (h2 : w.cell? ⟨g, 2, none⟩ = some (.bool bad))
 (f1 : w.frozen? ⟨g, 1, none⟩ = false) (f2 : w.frozen? ⟨g, 2, none⟩ = false) (hs : Sl w v (u8s bs)) (hv : 0 < bs.length → ∀ a n c, v = .slice (some a) n c → a.block < g) : RCur (w.setCell ⟨g, 2, none⟩ (.bool true)) g v bs [] true := by
 refine ⟨k, hk, rfl, ?_, ?_, ?_, ?_, ?_, hs.kept (grownBy_set (World.grownBy.refl _ _)) (by rw [u8s_len]; exact hv), hv⟩
 · rw [World.cell?_setCell_other _ _ _ _ (by simp)]; exact h0
 · rw [World.cell?_setCell_other _ _ _ _ (by simp)]; exact h1
 · rw [World.cell?_setCell_same _ _ _ h2]
 · rw [World.frozen?_setCell]; exact f1
 · rw [World.frozen?_setCell]; exact f2
def RPost (w : World) (g : Nat) (vb : Value) (bs : List UInt8) (r : List UInt8 × List UInt8 × Bool) (e : Ending) (w' : World) : Prop :=
 ∃ v, e = .returned v ∧ w'.ownsRow w.heap.size 5 1 v r.1.length (u8s r.1) ∧ w.grownBy w' (some g) ∧ RCur w' g vb bs r.2.1 r.2.2
theorem ref_bad (g : Nat) (vb : Value) (bs rest : List UInt8) (n : Int) (w : World) (hc : RCur w g vb bs rest true) :
 Calls Tryz.prog 28 #[.pointer (some ⟨g, 0, none⟩), .int .i64 n] w (RPost w g vb bs ([], [], true)) := by
 obtain ⟨k, hk, -, h0, h1, h2, f1, f2, hs, hv⟩ := hc
 obtain ⟨a, c, rfl, hcap⟩ := hs.shape
 have hs' := zH hs
 have hv' := zH hv
 clear hs hv
 go_enter Tryz.func28, Tryz.ntmps28
 go_wp2_with fail
 refine Txt.start ((Below w.heap.size w)) 22 rfl zKr ?_
 refine Txt.seg (A := ?_) 0 4194303 zKr (by exact (Below.refl _ _).drew) [0, 1, 2, 3, 4, 5, 6, 7, 8, 9, 10, 11, 12, 13, 14, 15, 16, 17, 18, 19, 20, 21] zKr ?_ ?_
 rotate_left
 · intro w' hB
   have hlt := World.block_lt_of_cell? w _ h0
   have e2 : w'.cell? ⟨g, 2, none⟩ = some (.bool true) := by rw [hB.cell (p := ⟨g, 2, none⟩) hlt]; exact h2
   iterate 22 (first | (refine rd_skip rfl rfl ?_; simp only [Act.put, zSa, zSz, zSs]) | fail | (refine rd_take (v := ?_) rfl rfl ?_ ?_; rotate_left; (focus (go_simp; try (with_reducible rfl))); simp only [Act.put, zSa, zSz, zSs]))
   exact rd_nil
 refine Txt.done zKr ?_
 have h0' : w.drew.cell? ⟨g, 0, none⟩ = _ := h0
 have h1' : w.drew.cell? ⟨g, 1, none⟩ = _ := h1
 have h2' : w.drew.cell? ⟨g, 2, none⟩ = _ := h2
 have f2' : w.drew.frozen? ⟨g, 2, none⟩ = false := f2
 have f1' : w.drew.frozen? ⟨g, 1, none⟩ = false := f1
 clear h0 h1 h2 f1 f2
 go_wp2_with fail
 try rw [Exit.noGoto_ret]
 go_ret
 exact ⟨_, rfl, World.ownsRow_nil _ _ _ _, grownBy_set (below_grownBy (Below.refl _ _).drew _), RCur.mk_bad hk h0' h1' h2' f1' f2' (hs'.out.below (w' := w.drew) (Below.refl _ _).drew) hv'.out⟩
theorem ref_no (g : Nat) (vb : Value) (bs rest : List UInt8) (n : Int) (w : World) (hc : RCur w g vb bs rest false) (hn : n < 0 ∨ (rest.length : Int) < n) :
 Calls Tryz.prog 28 #[.pointer (some ⟨g, 0, none⟩), .int .i64 n] w (RPost w g vb bs ([], [], true)) := by
 obtain ⟨k, hk, hrest, h0, h1, h2, f1, f2, hs, hv⟩ := hc
 obtain ⟨a, c, rfl, hcap⟩ := hs.shape
 have hlen := hs.len
 rw [u8s_len] at hlen
 unfold maxLen at hlen
 have hs' := zH hs
 have hv' := zH hv
 clear hs hv
 have hl : rest.length = bs.length - k := by rw [hrest]; simp
 clear hrest
 have hlt := World.block_lt_of_cell? w _ h0
 have h0' : w.drew.cell? ⟨g, 0, none⟩ = _ := h0
 have h1' : w.drew.cell? ⟨g, 1, none⟩ = _ := h1
 have h2' : w.drew.cell? ⟨g, 2, none⟩ = _ := h2
 have f2' : w.drew.frozen? ⟨g, 2, none⟩ = false := f2
 have f1' : w.drew.frozen? ⟨g, 1, none⟩ = false := f1
 have ew : IntKind.i64.wrap ((bs.length : Int) - (k : Int)) = (bs.length : Int) - (k : Int) := i64_in zOm
 by_cases hneg : n < 0
 · have d1 : decide (n < 0) = true := by simp; exact hneg
   clear hn
   go_enter Tryz.func28, Tryz.ntmps28
   go_wp2_with fail
   refine Txt.start ((Below w.heap.size w)) 22 rfl zKr ?_
   refine Txt.seg (A := ?_) 0 4194303 zKr (by exact (Below.refl _ _).drew) [0, 1, 2, 3, 4, 5, 6, 7, 8, 9, 10, 11, 12, 13, 14, 15, 16, 17, 18, 19, 20, 21] zKr ?_ ?_
   rotate_left
   · intro w' hB
     have e2 : w'.cell? ⟨g, 2, none⟩ = some (.bool false) := by rw [hB.cell (p := ⟨g, 2, none⟩) hlt]; exact h2
     iterate 22 (first | (refine rd_skip rfl rfl ?_; simp only [Act.put, zSa, zSz, zSs]) | fail | (refine rd_take (v := ?_) rfl rfl ?_ ?_; rotate_left; (focus (go_simp; try (with_reducible rfl))); simp only [Act.put, zSa, zSz, zSs]))
     exact rd_nil
   refine Txt.done zKr ?_
   clear h0 h1 h2 f1 f2
   go_wp2_with fail
   try rw [Exit.noGoto_ret]
   go_ret
   exact ⟨_, rfl, World.ownsRow_nil _ _ _ _, grownBy_set (below_grownBy (Below.refl _ _).drew _), RCur.mk_bad hk h0' h1' h2' f1' f2' (hs'.out.below (w' := w.drew) (Below.refl _ _).drew) hv'.out⟩
 · have d1 : decide (n < 0) = false := by simp; omega
   have d2 : decide ((bs.length : Int) - (k : Int) < n) = true := by simp; omega
   clear hn
   go_enter Tryz.func28, Tryz.ntmps28
   go_wp2_with fail
   refine Txt.start ((Below w.heap.size w)) 22 rfl zKr ?_
   refine Txt.seg (A := ?_) 0 4194303 zKr (by exact (Below.refl _ _).drew) [0, 1, 2, 3, 4, 5, 6, 7, 8, 9, 10, 11, 12, 13, 14, 15, 16, 17, 18, 19, 20, 21] zKr ?_ ?_
   rotate_left
   · intro w' hB
     have e2 : w'.cell? ⟨g, 2, none⟩ = some (.bool false) := by rw [hB.cell (p := ⟨g, 2, none⟩) hlt]; exact h2
     have e3 : w'.cell? ⟨g, 0, none⟩ = some (.slice a bs.length c) := by rw [hB.cell (p := ⟨g, 0, none⟩) hlt]; exact h0
     have e4 : w'.cell? ⟨g, 1, none⟩ = some (.int .i64 k) := by rw [hB.cell (p := ⟨g, 1, none⟩) hlt]; exact h1
     iterate 22 (first | (refine rd_skip rfl rfl ?_; simp only [Act.put, zSa, zSz, zSs]) | fail | (refine rd_take (v := ?_) rfl rfl ?_ ?_; rotate_left; (focus (go_simp; try (with_reducible rfl))); simp only [Act.put, zSa, zSz, zSs]))
     exact rd_nil
   refine Txt.done zKr ?_
   clear h0 h1 h2 f1 f2
   go_wp2_with fail
   try rw [Exit.noGoto_ret]
   go_ret
   exact ⟨_, rfl, World.ownsRow_nil _ _ _ _, grownBy_set (below_grownBy (Below.refl _ _).drew _), RCur.mk_bad hk h0' h1' h2' f1' f2' (hs'.out.below (w' := w.drew) (Below.refl _ _).drew) hv'.out⟩
theorem ref_ok (g m : Nat) (vb : Value) (bs rest : List UInt8) (w : World) (hc : RCur w g vb bs rest false) (hm : m ≤ rest.length) (hr : bs.length ≤ 140737488355328) :
 Calls Tryz.prog 28 #[.pointer (some ⟨g, 0, none⟩), .int .i64 m] w (RPost w g vb bs (rest.take m, rest.drop m, false)) := by
 obtain ⟨i, hi, hz0, hz1, hz2⟩ := info_parts info_u8
 obtain ⟨k, hk, hrest, h0, h1, h2, f1, f2, hs, hv⟩ := hc
 obtain ⟨a, c, rfl, hcap⟩ := hs.shape
 have hlen := hs.len
 rw [u8s_len] at hlen
 unfold maxLen at hlen
 have hs' := zH hs
 have hv' := zH hv
 clear hs hv
 have hrest' : rest = bs.drop k := by simpa using hrest
 clear hrest
 have hrest := hrest'
 clear hrest'
 have hl : rest.length = bs.length - k := by rw [hrest]; simp
 have hlt := World.block_lt_of_cell? w _ h0
 have h0' : w.drew.cell? ⟨g, 0, none⟩ = _ := h0
 have h1' : w.drew.cell? ⟨g, 1, none⟩ = _ := h1
 have h2' : w.drew.cell? ⟨g, 2, none⟩ = _ := h2
 have f2' : w.drew.frozen? ⟨g, 2, none⟩ = false := f2
 have f1' : w.drew.frozen? ⟨g, 1, none⟩ = false := f1
 have ew : IntKind.i64.wrap ((bs.length : Int) - (k : Int)) = (bs.length : Int) - (k : Int) := i64_in zOm
 have d1 : decide ((m : Int) < 0) = false := by simp
 have d2 : decide ((bs.length : Int) - (k : Int) < (m : Int)) = false := by simp; omega
 go_enter Tryz.func28, Tryz.ntmps28
 go_wp2_with fail
 refine Txt.start ((Below w.heap.size w)) 22 rfl zKr ?_
 refine Txt.seg (A := ?_) 0 4194303 zKr (by exact (Below.refl _ _).drew) [0, 1, 2, 3, 4, 5, 6, 7, 8, 9, 10, 11, 12, 13, 14, 15, 16, 17, 18, 19, 20, 21] zKr ?_ ?_
 rotate_left
 · intro w' hB
   have e2 : w'.cell? ⟨g, 2, none⟩ = some (.bool false) := by rw [hB.cell (p := ⟨g, 2, none⟩) hlt]; exact h2
   have e3 : w'.cell? ⟨g, 0, none⟩ = some (.slice a bs.length c) := by rw [hB.cell (p := ⟨g, 0, none⟩) hlt]; exact h0
   have e4 : w'.cell? ⟨g, 1, none⟩ = some (.int .i64 k) := by rw [hB.cell (p := ⟨g, 1, none⟩) hlt]; exact h1
   iterate 22 (first | (refine rd_skip rfl rfl ?_; simp only [Act.put, zSa, zSz, zSs]) | fail | (refine rd_take (v := ?_) rfl rfl ?_ ?_; rotate_left; (focus (go_simp; try (with_reducible rfl))); simp only [Act.put, zSa, zSz, zSs]))
   exact rd_nil
 refine Txt.done zKr ?_
 clear d1 d2
 have j0 : (0 : Int) ≤ (k : Int) := by omega
 have j1 : (k : Int) ≤ (k : Int) + (m : Int) := by omega
 have j2 : (k : Int) + (m : Int) ≤ (c : Int) := by omega
 have ew2 : IntKind.i64.wrap ((k : Int) + (m : Int)) = (k : Int) + (m : Int) := i64_in zOm
 have ej : ((k : Int) + (m : Int)).toNat - k = m := by omega
 have hmid := zH (hs'.out.mid (k := k) (m := m) zOm)
 go_wp2_with fail
 refine Txt.start ((Below w.heap.size w)) 17 rfl zKr ?_
 refine Txt.seg (A := ?_) 2 32767 zKr (by exact (Below.refl _ _).drew.drew) [0, 1, 2, 3, 4, 5, 6, 7, 8, 9, 10, 11, 12, 13, 14] zKr ?_ ?_
 rotate_left
 · intro w' hB
   have e3 : w'.cell? ⟨g, 0, none⟩ = some (.slice a bs.length c) := by rw [hB.cell (p := ⟨g, 0, none⟩) hlt]; exact h0
   have e4 : w'.cell? ⟨g, 1, none⟩ = some (.int .i64 k) := by rw [hB.cell (p := ⟨g, 1, none⟩) hlt]; exact h1
   iterate 15 (first | (refine rd_skip rfl rfl ?_; simp only [Act.put, zSa, zSz, zSs]) | fail | (refine rd_take (v := ?_) rfl rfl ?_ ?_; rotate_left; (focus (go_simp; try (with_reducible rfl))); simp only [Act.put, zSa, zSz, zSs]))
   exact rd_nil
 refine Txt.eff 15 65535 rfl zDk (fun K hK => ?_)
 refine step_append_sl (by rfl) (.const (.slice none 0 0)) (.tmp 45) 22 (by rfl) w.heap.size 5 Tryz.underlying22 hi hz0 hz1 hz2 rfl (.slice none 0 0) 0 [] (by rfl) (World.ownsRow_nil _ _ _ _) _ (u8s ((bs.drop k).take m)) (by rfl) (hmid.out.below (w := w) (Below.refl _ _).drew.drew) (u8s_one _) ?c2 ?c3 (Nat.le_refl _) ?_
 case c2 => unfold maxLen; rw [u8s_len]; simp only [List.length_take, List.length_drop]; omega
 case c3 => rw [u8s_len]; simp only [List.length_take, List.length_drop]; omega
 intro v1 w1 hown hg
 have hl2 : ((bs.drop k).take m).length = m := by simp only [List.length_take, List.length_drop]; omega
 have hown' : Hid (w1.ownsRow w.heap.size 5 1 v1 m (u8s (rest.take m))) := by
  show w1.ownsRow _ _ _ _ _ _
  rw [hrest]
  simpa [u8s_len, hl2] using hown
 have hb1 : Below w.heap.size w w1 := ((Below.refl _ _).drew.drew).grown hg (Nat.le_refl _) (fun k hk => by simp [Value.ownBlock] at hk)
 clear hown hg
 have hrest' := zH hrest
 clear hrest
 refine hK (Below w.heap.size w) _ _ hb1 (fun w'' h => h) ?_
 clear hK
 try simp only [Act.put, zSa, zSz, zSs]
 refine Txt.seg (A := ?_) 0 131071 zKr (by exact hb1) [16] zKr ?_ ?_
 rotate_left
 · intro w' hB
   iterate 1 (first | (refine rd_skip rfl rfl ?_; simp only [Act.put, zSa, zSz, zSs]) | fail | (refine rd_take (v := ?_) rfl rfl ?_ ?_; rotate_left; (focus (go_simp; try (with_reducible rfl))); simp only [Act.put, zSa, zSz, zSs]))
   exact rd_nil
 refine Txt.done zKr ?_
 generalize (if c = k then a else Option.map (fun x => x.add k) a) = z
 have g0 : w1.cell? ⟨g, 0, none⟩ = some (.slice a bs.length c) := by rw [hb1.cell (p := ⟨g, 0, none⟩) hlt]; exact h0
 have g1 : w1.cell? ⟨g, 1, none⟩ = some (.int .i64 k) := by rw [hb1.cell (p := ⟨g, 1, none⟩) hlt]; exact h1
 have g2 : w1.cell? ⟨g, 2, none⟩ = some (.bool false) := by rw [hb1.cell (p := ⟨g, 2, none⟩) hlt]; exact h2
 have g3 : w1.frozen? ⟨g, 1, none⟩ = false := by rw [hb1.frozen (p := ⟨g, 1, none⟩) hlt]; exact f1
 have g4 : w1.frozen? ⟨g, 2, none⟩ = false := by rw [hb1.frozen (p := ⟨g, 2, none⟩) hlt]; exact f2
 clear h0 h1 h2 f1 f2 h0' h1' h2' f1' f2'
 go_wp2_with fail
 try rw [Exit.noGoto_ret]
 go_ret
 have ek : (k : Int) + (m : Int) = ((k + m : Nat) : Int) := by omega
 have er : rest.drop m = bs.drop (k + m) := by rw [hrest'.out, List.drop_drop]
 have hl3 : (rest.take m).length = m := by rw [List.length_take]; omega
 refine ⟨v1, rfl, by show World.ownsRow _ _ _ _ _ (rest.take m).length _; rw [hl3]; exact own_set hown'.out hlt, grownBy_set (below_grownBy hb1 _), ?_⟩
 show RCur _ _ _ _ (rest.drop m) false
 rw [er, ek]
 exact RCur.mk_set zOm g0 g1 g2 g3 g4 (hs'.out.below hb1) hv'.out
theorem rawR_any (g : Nat) (vb : Value) (bs rest : List UInt8) (bad : Bool) (n : Int) (w : World) (hc : RCur w g vb bs rest bad) (hr : bs.length ≤ 140737488355328) :
 Calls Tryz.prog 28 #[.pointer (some ⟨g, 0, none⟩), .int .i64 n] w (RPost w g vb bs (rawS rest bad n)) := by
 cases bad with
 | true =>
  have : rest = [] := by obtain ⟨k, -, h, _⟩ := hc; simpa using h
  subst this
  exact ref_bad g vb bs [] n w hc
 | false =>
  by_cases hn : n < 0 ∨ (rest.length : Int) < n
  · have e1 : rawS rest false n = ([], [], true) := by simp [rawS, hn]
    rw [e1]
    exact ref_no g vb bs rest n w hc hn
  · have e1 : rawS rest false n = (rest.take n.toNat, rest.drop n.toNat, false) := by simp [rawS, hn]
    rw [e1]
    obtain ⟨m, rfl⟩ : ∃ m : Nat, n = m := ⟨n.toNat, by omega⟩
    exact ref_ok g m vb bs rest w hc zOm hr
theorem i64_sgn {n : Nat} (h : n < 18446744073709551616) : IntKind.i64.wrap (n : Int) = sgn n := by
 unfold sgn
 simp [IntKind.wrap, IntKind.bits, IntKind.signed]
 split <;> split <;> omega
theorem i64_wrap64 (n : Int) : IntKind.i64.wrap n = wrap64 n := by
 unfold wrap64
 simp [IntKind.wrap, IntKind.bits, IntKind.signed]
 split <;> omega
theorem shl_or_i {u c : Nat} (hu : u < 72057594037927936) (hc : c < 256) : bits .or .i64 (wrap64 ((u : Int) * 256)) (c : Int) = sgn (u * 256 + c) := by
 rw [← i64_wrap64]
 have e1 : (BitVec.ofInt 64 (IntKind.i64.wrap ((u : Int) * 256))).toNat = u * 256 := by
  rw [BitVec.toNat_ofInt]
  have h1 : ((u : Int) * 256) = ((u * 256 : Nat) : Int) := by omega
  rw [h1, i64_sgn zOm]
  unfold sgn
  split <;> omega
 have e2 : (BitVec.ofInt 64 (c : Int)).toNat = c := by
  rw [BitVec.toNat_ofInt]; omega
 show IntKind.i64.wrap ((BitVec.ofInt 64 (IntKind.i64.wrap ((u : Int) * 256)) ||| BitVec.ofInt 64 (c : Int)).toNat : Int) = _
 rw [BitVec.toNat_or, e1, e2, nat_join 8 _ _ zOm zOm, i64_sgn zOm]
def RIntPost (w : World) (g : Nat) (vb : Value) (bs : List UInt8) (r : Int × List UInt8 × Bool) (e : Ending) (w' : World) : Prop :=
 e = .returned (.int .i64 r.1) ∧ w.grownBy w' (some g) ∧ RCur w' g vb bs r.2.1 r.2.2
theorem intR_any (g : Nat) (vb : Value) (b0 rest : List UInt8) (bad : Bool) (w : World) (hc : RCur w g vb b0 rest bad) (hr : b0.length ≤ 140737488355328) :
 Calls Tryz.prog 29 #[.pointer (some ⟨g, 0, none⟩)] w (RIntPost w g vb b0 (intS rest bad)) := by
 have hl8 := rawS_len rest bad 8
 unfold intS
 generalize hR : rawS rest bad 8 = R at *
 have hR' := zH hR
 clear hR
 obtain ⟨bs, rest', bad'⟩ := R
 simp only at hl8 ⊢
 go_enter Tryz.func29, Tryz.ntmps29
 go_wp2_with fail
 refine (rawR_any g vb b0 rest bad 8 w hc hr).mono ?_
 rintro e w1 ⟨v1, rfl, hown, hg, hcur⟩
 rw [hR'.out] at hown hcur
 simp only at hown hcur
 have hsl := zH (Sl.of_own hown)
 have hsh : ∃ a c, v1 = .slice a bs.length c := by
  obtain ⟨a, c, h, _⟩ := Sl.of_own hown
  exact ⟨a, c, by rw [h, u8s_len]⟩
 obtain ⟨a, c, rfl⟩ := hsh
 have hcur' := zH hcur
 have hg' := zH hg
 clear hown hcur hg hc hR'
 have hbl : bs.length ≤ 8 := by simpa using hl8
 clear hl8
 go_wp2_with fail
 go_loop [4, 5] (fun uv kv => ∃ k : Nat, k ≤ bs.length ∧ kv = .int .i64 k ∧ uv = .int .i64 (sgn (rdn (bs.take k)))) (fun _ kv => bs.length - (intOf kv).toNat)
 case atStart => exact ⟨0, Nat.zero_le _, rfl, rfl⟩
 case round =>
  obtain ⟨k, hk, rfl, rfl⟩ := hrel
  by_cases hlt : k < bs.length
  · obtain ⟨b, o, rfl, -, -, -, hcs⟩ := hsl.out.at (by rw [u8s_len]; omega)
    have hcell := hcs k _ (u8s_get bs k hlt)
    clear hcs
    have hlo : rdn (bs.take k) < 72057594037927936 := by
     have h1 := rdn_lt (bs.take k)
     have h2 : (bs.take k).length ≤ 7 := by rw [List.length_take]; omega
     have h3 : 256 ^ (bs.take k).length ≤ 256 ^ 7 := Nat.pow_le_pow_right zDc h2
     have h4 : (256 : Nat) ^ 7 = 72057594037927936 := by decide
     omega
    have hc256 := bs[k].toNat_lt
    have hstep : Hid (rdn (bs.take (k + 1)) = rdn (bs.take k) * 256 + bs[k].toNat) := by
     show _ = _
     rw [List.take_add_one, List.getElem?_eq_getElem hlt, Option.toList, rdn_snoc]
    have hs : sgn (rdn (bs.take k)) = (rdn (bs.take k) : Int) := by unfold sgn; rw [if_pos zOm]
    rw [hs]
    clear hs
    go_wp2_with fail
    exact ⟨⟨k + 1, by omega, by go_num, by first | rw [hstep.out, ← shl_or_i hlo hc256] | fail⟩, by simp [intOf]; omega⟩
  · have hk' : k = bs.length := by omega
    subst hk'
    rw [List.take_of_length_le (Nat.le_refl _)]
    go_wp2_with fail
    go_ret
    exact ⟨rfl, hg'.out, hcur'.out⟩
theorem endR_any (g : Nat) (vb : Value) (bs rest : List UInt8) (bad : Bool) (w : World) (hc : RCur w g vb bs rest bad) :
 Calls Tryz.prog 32 #[.pointer (some ⟨g, 0, none⟩)] w fun e w' => e = .returned (.bool (endS rest bad)) ∧ Below w.heap.size w w' := by
 obtain ⟨k, hk, hrest, h0, h1, h2, f1, f2, hs, hv⟩ := hc
 obtain ⟨a, c, rfl, hcap⟩ := hs.shape
 clear hs hv
 have hlt := World.block_lt_of_cell? w _ h0
 cases bad with
 | true =>
  clear hrest
  go_enter Tryz.func32, Tryz.ntmps32
  go_wp2_with fail
  refine Txt.start ((Below w.heap.size w)) 18 rfl zKr ?_
  refine Txt.seg (A := ?_) 0 262143 zKr (by exact (Below.refl _ _).drew) [0, 1, 2, 3, 4, 5, 6, 7, 8, 9, 10, 11, 12, 13, 14, 15, 16, 17] zKr ?_ ?_
  rotate_left
  · intro w' hB
    have e2 : w'.cell? ⟨g, 2, none⟩ = some (.bool true) := by rw [hB.cell (p := ⟨g, 2, none⟩) hlt]; exact h2
    iterate 18 (first | (refine rd_skip rfl rfl ?_; simp only [Act.put, zSa, zSz, zSs]) | fail | (refine rd_take (v := ?_) rfl rfl ?_ ?_; rotate_left; (focus (go_simp; try (with_reducible rfl))); simp only [Act.put, zSa, zSz, zSs]))
    exact rd_nil
  refine Txt.done zKr ?_
  go_wp2_with fail
  go_ret
  exact ⟨rfl, (Below.refl _ _).drew⟩
 | false =>
  have hl : rest.length = bs.length - k := by rw [hrest]; simp
  clear hrest
  go_enter Tryz.func32, Tryz.ntmps32
  go_wp2_with fail
  refine Txt.start ((Below w.heap.size w)) 18 rfl zKr ?_
  refine Txt.seg (A := ?_) 0 262143 zKr (by exact (Below.refl _ _).drew) [0, 1, 2, 3, 4, 5, 6, 7, 8, 9, 10, 11, 12, 13, 14, 15, 16, 17] zKr ?_ ?_
  rotate_left
  · intro w' hB
    have e2 : w'.cell? ⟨g, 2, none⟩ = some (.bool false) := by rw [hB.cell (p := ⟨g, 2, none⟩) hlt]; exact h2
    have e3 : w'.cell? ⟨g, 0, none⟩ = some (.slice a bs.length c) := by rw [hB.cell (p := ⟨g, 0, none⟩) hlt]; exact h0
    have e4 : w'.cell? ⟨g, 1, none⟩ = some (.int .i64 k) := by rw [hB.cell (p := ⟨g, 1, none⟩) hlt]; exact h1
    iterate 18 (first | (refine rd_skip rfl rfl ?_; simp only [Act.put, zSa, zSz, zSs]) | fail | (refine rd_take (v := ?_) rfl rfl ?_ ?_; rotate_left; (focus (go_simp; try (with_reducible rfl))); simp only [Act.put, zSa, zSz, zSs]))
    exact rd_nil
  refine Txt.done zKr ?_
  go_wp2_with fail
  go_ret
  have e : (!false && rest.length == 0) = ((k : Int) == (bs.length : Int)) := by rw [Bool.eq_iff_iff]; simp only [Bool.not_false, Bool.true_and, beq_iff_eq]; omega
  exact ⟨by rw [endS, e]; rfl, (Below.refl _ _).drew⟩
def lims (k n : Nat) : List Value := (digs 18446744073709551616 k n).map fun (x : Nat) => .int .u64 (x : Int)
def byts (n : Nat) : List Value := (digs 256 32 n).map fun (x : Nat) => .int .u8 (x : Int)
theorem lims_len (k n : Nat) : (lims k n).length = k := by simp [lims, digs_len]
theorem byts_len (n : Nat) : (byts n).length = 32 := by simp [byts, digs_len]
theorem lims_get (k n i : Nat) (h : i < k) : (lims k n)[i]? = some (.int .u64 ((n / 18446744073709551616 ^ i % 18446744073709551616 : Nat) : Int)) := by simp [lims, digs_get _ _ _ _ h]
theorem byts_get (n i : Nat) (h : i < 32) : (byts n)[i]? = some (.int .u8 ((n / 256 ^ i % 256 : Nat) : Int)) := by simp [byts, digs_get _ _ _ _ h]
theorem lims_one (k n : Nat) : ∀ v ∈ lims k n, v.oneCell' = true := by
 intro v hv
 simp only [lims, List.mem_map] at hv
 obtain ⟨x, -, rfl⟩ := hv
 rfl
theorem byts_one (n : Nat) : ∀ v ∈ byts n, v.oneCell' = true := by
 intro v hv
 simp only [byts, List.mem_map] at hv
 obtain ⟨x, -, rfl⟩ := hv
 rfl
theorem limNum_any (n : Nat) (w : World) :
 Calls Tryz.prog 82 #[.agg (lims 4 n).toArray] w fun e w' => e = .returned (.agg (byts n).toArray) ∧ Below w.heap.size w w' := by
 go_enter Tryz.func82, Tryz.ntmps82
 go_wp2_with fail
 refine wp_new3 (fun W hsz h1 h2 h3 hb => ?_)
 go_loopw [5] (fun kv wr => ∃ k : Nat, k ≤ 32 ∧ kv = .int .i64 k ∧ Arr wr w.heap.size (lims 4 n) ∧ Arr wr (w.heap.size + 1 + 1) (part k (byts n) (.int .u8 0)) ∧ Arr wr (w.heap.size + 1) (List.replicate 32 (.int .u8 0)) ∧ Below w.heap.size w wr) (fun kv _ => 32 - (intOf kv).toNat)
 case atStart => exact ⟨0, Nat.zero_le _, rfl, h1, h3, h2, hb⟩
 case round =>
  obtain ⟨k, hk, rfl, k1, k3, k2, kb⟩ := hrel
  clear h1 h2 h3 hb hsz
  by_cases hlt : k < 32
  · have hc := k1.cell (lims_get 4 n (k / 8) zOm)
    have hf := k3.frozen k
    have hd := k3.cell (j := k) (u := .int .u8 0) (by rw [part_get k k (byts n) (.int .u8 0) (by rw [byts_len]; exact hlt), if_neg zOm])
    go_wp2_with fail
    have e : (n : Int) / 18446744073709551616 ^ (k / 8) % 18446744073709551616 / 2 ^ (8 * (k % 8)) % 256 = ((n / 256 ^ k % 256 : Nat) : Int) := by
     rw [← limb_byte]; simp
    rw [e]
    refine ⟨⟨k + 1, by omega, by go_num, k1.other (by simp; omega) _, ?_, k2.other (by simp) _, kb.setCell (by simp; omega) _⟩, by simp [intOf]; omega⟩
    have := k3.set k (.int .u8 ((n / 256 ^ k % 256 : Nat) : Int))
    rwa [part_set (byts_get n k hlt)] at this
  · obtain rfl : k = 32 := by omega
    have h4 : Arr wr (w.heap.size + 1 + 1) (byts n) := by
     have e := part_all (byts n) (.int .u8 0)
     rw [byts_len] at e
     rwa [e] at k3
    have hl := byts_len n
    have hone : ∀ v ∈ byts n, v.oneCell' = true := by
     intro v hv
     simp only [byts, List.mem_map] at hv
     obtain ⟨x, -, rfl⟩ := hv
     rfl
    clear k3
    go_wp2_with (first | (refine wpList_load_arr rfl 25 _ rfl (w.heap.size + 1 + 1) rfl _ Tryz.underlying25 rfl _ h4 (by rw [hl]; kernel_rfl) ?_) | (refine wpList_store_arr rfl 25 _ _ rfl (w.heap.size + 1) (byts n) rfl rfl _ k2 (by rw [hl]; kernel_rfl) (by rw [hl]; simp) hone ?_))
    refine bodyPost_ret (v := .agg (byts n).toArray) (results_arr Tryz.results82 _ _ (w.heap.size + 1) _ rfl Tryz.underlying25 rfl _ (k2.setRow _) (by rw [hl]; kernel_rfl)) rfl ⟨rfl, below_setRow kb zOm _⟩
theorem of_step {n k l0 b0 : Nat} (hl : n % 256 ^ k / 18446744073709551616 ^ (k / 8) % 18446744073709551616 = l0) (hb : n / 256 ^ k % 256 = b0) :
 bits .or .u64 (l0 : Int) (IntKind.u64.wrap ((b0 * 2 ^ (8 * (k % 8)) : Nat) : Int)) = ((n % 256 ^ (k + 1) / 18446744073709551616 ^ (k / 8) % 18446744073709551616 : Nat) : Int) := by
 obtain ⟨h1, h2, h3⟩ := of_at n k
 have e : (2 : Nat) ^ (8 * (k % 8)) = 256 ^ (k % 8) := by rw [Nat.pow_mul]
 rw [h1, hb]
 rw [hb] at h3
 have hl2 : n % 256 ^ k / 18446744073709551616 ^ (k / 8) = l0 := by rw [← hl]; exact (Nat.mod_eq_of_lt zOm).symm
 rw [hl2] at h2 h3 ⊢
 clear hl hl2 h1 hb
 rw [e]
 generalize 256 ^ (k % 8) = P at *
 have h4 : (b0 * P) % 2 ^ (8 * (k % 8)) = 0 := by rw [e]; exact Nat.mul_mod_left _ _
 have h5 : l0 < 2 ^ (8 * (k % 8)) := by rw [e]; exact h2
 generalize b0 * P = x at *
 have hw : IntKind.u64.wrap (x : Int) = (x : Int) := by simp [IntKind.wrap, IntKind.bits, IntKind.signed]; omega
 rw [hw, u64_or_nat _ _ zOm zOm]
 congr 1
 rw [Nat.or_comm, nat_join _ _ _ h4 h5, Nat.add_comm]
theorem lims_set_of (n k : Nat) : (lims 4 (n % 256 ^ k)).set (k / 8) (.int .u64 ((n % 256 ^ (k + 1) / 18446744073709551616 ^ (k / 8) % 18446744073709551616 : Nat) : Int)) = lims 4 (n % 256 ^ (k + 1)) := by
 apply List.ext_getElem?
 intro j
 by_cases hj : j < 4
 · rw [List.getElem?_set, lims_get _ _ _ hj, lims_get _ _ _ hj, lims_len]
   by_cases h1 : k / 8 = j
   · subst h1; rw [if_pos rfl, if_pos hj]
   · rw [if_neg h1]
     rcases Nat.lt_or_ge j (k / 8) with h2 | h2
     · rw [of_low n k j h2]
     · rw [of_high n k j zOm]
 · rw [List.getElem?_eq_none (by rw [List.length_set, lims_len]; omega), List.getElem?_eq_none (by rw [lims_len]; omega)]
theorem limOf_any (n : Nat) (hn : n < 256 ^ 32) (w : World) :
 Calls Tryz.prog 78 #[.agg (byts n).toArray] w fun e w' => e = .returned (.agg (lims 4 n).toArray) ∧ Below w.heap.size w w' := by
 have hbl := byts_len n
 go_enter Tryz.func78, Tryz.ntmps78
 go_upto_region 2 with fail
 refine wp_new3 (fun W hsz h1 h2 h3 hb => ?_)
 go_wp2_with (refine wpList_load_arr rfl 25 _ rfl w.heap.size rfl _ Tryz.underlying25 rfl _ h1 (by rw [byts_len]; kernel_rfl) ?_)
 clear h1
 go_loopw [7] (fun kv wr => ∃ k : Nat, k ≤ 32 ∧ kv = .int .i64 k ∧ Arr wr (w.heap.size + 1 + 1) (lims 4 (n % 256 ^ k)) ∧ Arr wr (w.heap.size + 1) (lims 4 0) ∧ Below w.heap.size w wr) (fun kv _ => 32 - (intOf kv).toNat)
 case atStart => exact ⟨0, Nat.zero_le _, rfl, by rw [Nat.pow_zero, Nat.mod_one]; exact h3, h2, hb⟩
 case round =>
  obtain ⟨k, hk, rfl, k3, k2, kb⟩ := hrel
  clear h2 h3 hb hsz
  by_cases hlt : k < 32
  · have hc := k3.cell (lims_get 4 (n % 256 ^ k) (k / 8) zOm)
    have hf := k3.frozen (k / 8)
    have hbk := byts_get n k hlt
    obtain ⟨b0, hb0⟩ : ∃ b0, n / 256 ^ k % 256 = b0 := ⟨_, rfl⟩
    obtain ⟨l0, hl0⟩ : ∃ l0, n % 256 ^ k / 18446744073709551616 ^ (k / 8) % 18446744073709551616 = l0 := ⟨_, rfl⟩
    rw [hb0] at hbk
    rw [hl0] at hc
    have hb1 : b0 < 256 := by omega
    have hl1 : l0 < 18446744073709551616 := by omega
    have hb0' := zH hb0
    have hl0' := zH hl0
    clear hb0 hl0
    obtain ⟨i, hi, hz0, hz1, hz2⟩ := info_parts info_u8
    have hix := run_index_arr (P := Tryz.prog) wr 25 5 32 _ i Tryz.underlying25 Tryz.underlying5 rfl hi hz1 (byts n) k _ hlt hbk
    go_wp2_with fail
    have hq0 : (0 : Int) ≤ (k : Int) / 8 := by omega
    have hq1 : (k : Int) / 8 < 4 := by omega
    have ew1 : IntKind.i64.wrap ((k : Int) / 8) = (k : Int) / 8 := i64_in zOm
    have et : ((k : Int) / 8).toNat = k / 8 := by omega
    have em : ((k : Int)).tmod 8 = (k : Int) % 8 := Int.tmod_eq_emod_of_nonneg zOm
    have eb : IntKind.u64.wrap (b0 : Int) = (b0 : Int) := by simp [IntKind.wrap, IntKind.bits, IntKind.signed]; omega
    have hs0 : (0 : Int) ≤ 8 * ((k : Int) % 8) := by omega
    have ew2 : IntKind.i64.wrap ((k : Int) % 8) = (k : Int) % 8 := i64_in zOm
    have ew3 : IntKind.i64.wrap (8 * ((k : Int) % 8)) = 8 * ((k : Int) % 8) := i64_in zOm
    go_still_tail 12, zKr
    change wpList _ _ _ _ _ wr.drew
    have hc2 : wr.drew.cell? ⟨w.heap.size + 1 + 1, k / 8, none⟩ = some (.int .u64 (l0 : Int)) := hc
    have hf2 : wr.drew.frozen? ⟨w.heap.size + 1 + 1, k / 8, none⟩ = false := hf
    go_wp2_with fail
    have hexp : (8 * ((k : Int) % 8)).toNat = 8 * (k % 8) := by omega
    try rw [hexp]
    rw [show (b0 : Int) * 2 ^ (8 * (k % 8)) = ((b0 * 2 ^ (8 * (k % 8)) : Nat) : Int) by simp, of_step hl0'.out hb0'.out]
    refine ⟨⟨k + 1, by omega, by go_num, ?_, (k2.other (by simp) _), (kb.setCell (by simp; omega) _).drew⟩, by simp [intOf]; omega⟩
    have := k3.set (k / 8) (.int .u64 ((n % 256 ^ (k + 1) / 18446744073709551616 ^ (k / 8) % 18446744073709551616 : Nat) : Int))
    rw [lims_set_of] at this
    exact this
  · obtain rfl : k = 32 := by omega
    rw [Nat.mod_eq_of_lt hn] at k3
    have hl := lims_len 4 n
    have hone : ∀ v ∈ lims 4 n, v.oneCell' = true := by
     intro v hv
     simp only [lims, List.mem_map] at hv
     obtain ⟨x, -, rfl⟩ := hv
     rfl
    go_wp2_with (first | (refine wpList_load_arr rfl 89 _ rfl (w.heap.size + 1 + 1) rfl _ Tryz.underlying89 rfl _ k3 (by rw [hl]; kernel_rfl) ?_) | (refine wpList_store_arr rfl 89 _ _ rfl (w.heap.size + 1) (lims 4 n) rfl rfl _ k2 (by rw [hl]; kernel_rfl) (by rw [hl, lims_len]) hone ?_))
    refine bodyPost_ret (v := .agg (lims 4 n).toArray) (results_arr Tryz.results78 _ _ (w.heap.size + 1) _ rfl Tryz.underlying89 rfl _ (k2.setRow _) (by rw [hl]; kernel_rfl)) rfl ⟨rfl, below_setRow kb zOm _⟩
end Go.Proofs.YtncnlfpiondpnaaGreat
