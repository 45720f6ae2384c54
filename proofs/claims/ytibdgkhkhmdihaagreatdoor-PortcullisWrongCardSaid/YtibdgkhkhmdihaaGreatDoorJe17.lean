/- PortcullisWrong: part 17 of its proof: lemmas and contracts, each with its conditions in its own statement; the last part holds the law itself. -/
import Derived.Test.YtibdgkhkhmdihaaGreatDoorJe16

set_option maxHeartbeats 4000000
set_option maxRecDepth 100000
namespace Go.Proofs.YtibdgkhkhmdihaaGreatDoor
open Go.RowKit
def rdVb (x0 x1 x2 x3 x4 x5 x6 x7 k w : Nat) : List Nat :=
 [(((((x7 + shEb x4) % 18446744073709551616 + ((x4 &&& x5) ^^^ ((18446744073709551615 ^^^ x4) &&& x6))) % 18446744073709551616 + k) % 18446744073709551616 + w) % 18446744073709551616 + (shAb x0 + ((x0 &&& x1) ^^^ (x0 &&& x2) ^^^ (x1 &&& x2))) % 18446744073709551616) % 18446744073709551616, x0, x1, x2,
  (x3 + ((((x7 + shEb x4) % 18446744073709551616 + ((x4 &&& x5) ^^^ ((18446744073709551615 ^^^ x4) &&& x6))) % 18446744073709551616 + k) % 18446744073709551616 + w) % 18446744073709551616) % 18446744073709551616, x4, x5, x6]
def rdLb (v : List Nat) (k w : Nat) : List Nat := rdVb (v.getD 0 0) (v.getD 1 0) (v.getD 2 0) (v.getD 3 0) (v.getD 4 0) (v.getD 5 0) (v.getD 6 0) (v.getD 7 0) k w
def rndb (h wl : List Nat) : Nat → List Nat
 | 0 => h
 | t + 1 => rdLb (rndb h wl t) (shKb.getD t 0) (wl.getD t 0)
theorem rndb_ok {h wl : List Nat} (h0 : h.length = 8 ∧ W64 h) : ∀ t, (rndb h wl t).length = 8 ∧ W64 (rndb h wl t)
 | 0 => h0
 | t + 1 => ⟨rfl, by
  have ok := (rndb_ok (wl := wl) h0 t).2
  intro x hx
  simp only [rndb, rdLb, rdVb, List.mem_cons, List.not_mem_nil, or_false] at hx
  rcases hx with rfl | rfl | rfl | rfl | rfl | rfl | rfl | rfl <;> first | exact ok.get _ | exact Nat.mod_lt _ zDc⟩
def adSb (h v : List Nat) : Nat → List Nat
 | 0 => h
 | i + 1 => (adSb h v i).set i ((h.getD i 0 + v.getD i 0) % 18446744073709551616)
theorem adSb_ok {h v : List Nat} (h0 : h.length = 8 ∧ W64 h) : ∀ t, (adSb h v t).length = 8 ∧ W64 (adSb h v t)
 | 0 => h0
 | t + 1 => ⟨by rw [adSb, List.length_set, (adSb_ok h0 t).1], (adSb_ok h0 t).2.set _ (Nat.mod_lt _ zDc)⟩
theorem adSb_get {h v : List Nat} : ∀ t j, t ≤ j → (adSb h v t).getD j 0 = h.getD j 0
 | 0, _, _ => rfl
 | t + 1, j, hj => by
  have := adSb_get (h := h) (v := v) t j zOm
  rw [List.getD_eq_getElem?_getD] at this ⊢
  rw [adSb, List.getElem?_set_ne zOm]
  exact this
def cmpb (h : List Nat) (bs : List UInt8) : List Nat := adSb h (rndb h (schLb bs) 80) 8
theorem cmpb_ok {h : List Nat} (h0 : h.length = 8 ∧ W64 h) (bs : List UInt8) : (cmpb h bs).length = 8 ∧ W64 (cmpb h bs) := adSb_ok h0 8
theorem eightb {l : List Nat} (h : l.length = 8) : ∃ x0 x1 x2 x3 x4 x5 x6 x7, l = [x0, x1, x2, x3, x4, x5, x6, x7] := by
 match l, h with
 | [a, b, c, d, e, f, g, i], _ => exact ⟨a, b, c, d, e, f, g, i, rfl⟩
theorem wp_scope_backb {P : Program} {a : Act} {w : World} {Q : Exit → Act → World → Prop} {c X : Code} (l : Nat) (J : Act → World → Prop) (μ : Act → World → Nat) (hf : findLabel c l = some (.seq .skip X))
 (pass : ∀ a w, J a w → X.wp P (Exit.jump l (fun a' w' => J a' w' ∧ μ a' w' < μ a w) Q) a w)
 (first : (∀ a w, J a w → X.wp P (Exit.jump l J Q) a w) → c.wp P (Exit.jump l J Q) a w) : (Code.scope c).wp P Q a w := by
 refine wp_scope_jumps l J μ hf (first (fun a w hJ => Code.wp_mono ?_ (pass a w hJ))) (fun a w hJ => wp_seq (wp_skip (pass a w hJ)))
 intro e a w h
 cases e <;> first | exact h | exact ⟨h.1, h.2.1⟩
theorem gr_freshb {a b c : World} {row : Option Nat} {g : Nat} (h : a.grownBy b row) (k : b.grownBy c (some g)) (hg : a.heap.size ≤ g) : a.grownBy c row :=
 ⟨k.os.trans h.os, k.tape.trans h.tape, k.output.trans h.output, Nat.le_trans h.size k.size, fun i hi hn => (k.block i (Nat.lt_of_lt_of_le hi h.size) (by intro e; injection e with e; omega)).trans (h.block i hi hn)⟩
def sltb (T : Array Value) (i : Nat) : Value := T.getD i undef
theorem frameb (T : Array Value) (N : Nat) (h : T.size = N) : T = ((List.range N).map (sltb T)).toArray := by
 apply Array.ext
 · simp [h]
 · intro i h1 h2
   simp [sltb, Array.getD_eq_getD_getElem?, h1]
def tJb (g : Nat) (h : List Nat) (bs : List UInt8) (n lg : Nat) (L : List Nat) (w : World) (a' : Act) (w' : World) : Prop :=
 ∃ g2 g3 t : Nat, (t ≤ 80 ∧ g < g2 ∧ g2 < g3 ∧ w.heap.size ≤ g2 ∧ Arr w' g (stvb h bs n lg) ∧ Arr w' g2 (wd L) ∧ Arr w' g3 (wd (rndb h L t)) ∧ w.grownBy w' (some g)) ∧
  a'.defers = [] ∧ a'.tmps.size = 122 ∧ sltb a'.tmps 0 = .pointer (some ⟨g, 0, none⟩) ∧ sltb a'.tmps 2 = .pointer (some ⟨g2, 0, none⟩) ∧ sltb a'.tmps 3 = .pointer (some ⟨g3, 0, none⟩) ∧ sltb a'.tmps 4 = .int .i64 (t : Int)
theorem turnb_any {g : Nat} {h : List Nat} {bs : List UInt8} {n lg : Nat} (w : World) (k0 : Arr w g (stvb h bs n lg)) (h0 : h.length = 8 ∧ W64 h) (hb : bs.length = 128) :
 Calls Tryz.prog 223 #[.pointer (some ⟨g, 0, none⟩)] w fun e w' => e = .returned (.tuple #[]) ∧ Arr w' g (stvb (cmpb h bs) bs n lg) ∧ w.grownBy w' (some g) := by
 have c1 := zH (schedb_any w k0 h0.1 hb)
 have hrg : Hid (∀ w', Arr w' g (stvb h bs n lg) → w'.rangeAt g 0 (wd h)) := zH (fun w' hk => hk.range (fun j hj => stvb_h hj))
 have hwl := zH (schWb_ok bs 64)
 have hR : Hid (adSb h (rndb h (schLb bs) 80) 8 = cmpb h bs) := zH rfl
 obtain ⟨R, hRe⟩ : ∃ R, cmpb h bs = R := ⟨_, rfl⟩
 rw [hRe] at hR ⊢
 clear hRe
 obtain ⟨L, hL⟩ : ∃ L, schLb bs = L := ⟨_, rfl⟩
 have hwl : Hid (L.length = 80 ∧ W64 L) := zH (by rw [← hL]; exact hwl.out)
 rw [hL] at c1 hR
 clear hL
 have hkc : Hid (∀ w' t, t < 80 → Arr w' g (stvb h bs n lg) → w'.cell? ⟨g, 8 + t, none⟩ = some (.int .u64 ((shKb.getD t 0 : Nat) : Int))) := zH (fun w' t ht hk => hk.cell (stvb_k h0.1 ht))
 replace h0 := zH h0
 replace hb := zH hb
 go_enter Tryz.func223, Tryz.ntmps223
 refine wp_scope_backb 0 (tJb g h bs n lg L w) (fun a' _ => 80 - (intOf (a'.tmps.getD 4 undef)).toNat) rfl ?_ ?_
 rotate_left
 intro hgo
 go_wp2_with fail
 refine c1.out.mono ?_
 rintro e w1 ⟨rfl, hb1⟩
 have lt0 := k0.lt
 have kg := gr_below (row := some g) hb1
 replace k0 := k0.below hb1
 have hws := kg.size
 clear c1 hb1
 go_upto_region 1 with (refine wpl_storeG rfl _ _ _ rfl _ (wd L) rfl rfl _ (Arr.new _ _ _) (by rw [wd_len, hwl.out.1]; kernel_rfl) (by rw [wd_len, hwl.out.1]; rfl) (wd_one _) (fun w2 k2 hg hsz => ?_))
 have hb := below_gr (below_alloc w1 _) hg (Nat.le_refl _) (by simp)
 have h12 := k0.lt
 replace kg := gr_trans kg (gr_below hb)
 replace k0 := k0.below hb
 obtain ⟨g2, hg2⟩ : ∃ g, w1.heap.size = g := ⟨_, rfl⟩
 rw [hg2] at k2 h12 hws ⊢
 clear hb hsz hg2 hg
 have hr1 := hrg.out w2 k0
 go_upto_region 2 with (first | (refine wpList_load_mid2 rfl _ _ rfl _ _ rfl zKr _ hr1 (by rw [wd_len, h0.out.1]; kernel_rfl) ?_) | (refine wpl_storeG rfl _ _ _ rfl _ (wd h) rfl rfl _ (Arr.new _ _ _) (by rw [wd_len, h0.out.1]; kernel_rfl) (by rw [wd_len, h0.out.1]; rfl) (wd_one _) (fun w3 k3 hg hsz => ?_)))
 have hb := below_gr (below_alloc w2 _) hg (Nat.le_refl _) (by simp)
 have h23 := k2.lt
 replace kg := gr_trans kg (gr_below hb)
 replace k0 := k0.below hb
 replace k2 := k2.below hb
 obtain ⟨g3, hg3⟩ : ∃ g, w2.heap.size = g := ⟨_, rfl⟩
 rw [hg3] at k3 h23 ⊢
 clear hb hsz hg3 hg hr1 hrg lt0
 go_wp2_with fail
 rename_i hK
 go_step3
 exact hK _ _ (hgo _ _ ⟨g2, g3, 0, ⟨by omega, by omega, h23, hws, k0, k2, k3, kg⟩, rfl, rfl, rfl, rfl, rfl, rfl⟩)
 rintro ⟨T, D⟩ wr ⟨g2, g3, t, ⟨ht, hg2, hg3, hw2, k0, k2, k3, kg⟩, hD, hT, e0, e2, e3, e4⟩
 have hTe : T = (sltb T 0 :: sltb T 1 :: sltb T 2 :: sltb T 3 :: sltb T 4 :: sltb T 5 :: sltb T 6 :: sltb T 7 :: sltb T 8 :: sltb T 9 :: sltb T 10 :: sltb T 11 :: sltb T 12 :: sltb T 13 :: sltb T 14 :: sltb T 15 :: sltb T 16 :: sltb T 17 :: sltb T 18 :: sltb T 19 :: sltb T 20 :: sltb T 21 :: sltb T 22 :: sltb T 23 :: sltb T 24 :: sltb T 25 :: sltb T 26 :: sltb T 27 :: sltb T 28 :: sltb T 29 :: sltb T 30 :: sltb T 31 :: sltb T 32 :: sltb T 33 :: sltb T 34 :: sltb T 35 :: sltb T 36 :: sltb T 37 :: sltb T 38 :: sltb T 39 :: sltb T 40 :: sltb T 41 :: sltb T 42 :: sltb T 43 :: sltb T 44 :: sltb T 45 :: sltb T 46 :: sltb T 47 :: sltb T 48 :: sltb T 49 :: sltb T 50 :: sltb T 51 :: sltb T 52 :: sltb T 53 :: sltb T 54 :: sltb T 55 :: sltb T 56 :: sltb T 57 :: sltb T 58 :: sltb T 59 :: sltb T 60 :: sltb T 61 :: sltb T 62 :: sltb T 63 :: sltb T 64 :: sltb T 65 :: sltb T 66 :: sltb T 67 :: sltb T 68 :: sltb T 69 :: sltb T 70 :: sltb T 71 :: sltb T 72 :: sltb T 73 :: sltb T 74 :: sltb T 75 :: sltb T 76 :: sltb T 77 :: sltb T 78 :: sltb T 79 :: sltb T 80 :: sltb T 81 :: sltb T 82 :: sltb T 83 :: sltb T 84 :: sltb T 85 :: sltb T 86 :: sltb T 87 :: sltb T 88 :: sltb T 89 :: sltb T 90 :: sltb T 91 :: sltb T 92 :: sltb T 93 :: sltb T 94 :: sltb T 95 :: sltb T 96 :: sltb T 97 :: sltb T 98 :: sltb T 99 :: sltb T 100 :: sltb T 101 :: sltb T 102 :: sltb T 103 :: sltb T 104 :: sltb T 105 :: sltb T 106 :: sltb T 107 :: sltb T 108 :: sltb T 109 :: sltb T 110 :: sltb T 111 :: sltb T 112 :: sltb T 113 :: sltb T 114 :: sltb T 115 :: sltb T 116 :: sltb T 117 :: sltb T 118 :: sltb T 119 :: sltb T 120 :: sltb T 121 :: []).toArray := (frameb T 122 hT).trans zKr
 simp only at hD e0 e2 e3 e4
 subst hD
 rw [hTe]
 rw [e0, e2, e3, e4]
 clear e0 e2 e3 e4 hT hTe
 have ht0 : (0 : Int) ≤ (t : Int) := by omega
 by_cases htn : t < 80
 · have ht1 : (t : Int) < 80 := by omega
   have ok := rndb_ok (wl := L) h0.out t
   have hst0 : wd (rdLb (rndb h L t) (shKb.getD t 0) (L.getD t 0)) = wd (rndb h L (t + 1)) := rfl
   have ckk := hkc.out wr t htn k0
   obtain ⟨v, hv⟩ : ∃ v, rndb h L t = v := ⟨_, rfl⟩
   rw [hv] at ok hst0 k3
   clear hv
   obtain ⟨x0, x1, x2, x3, x4, x5, x6, x7, rfl⟩ := eightb ok.1
   have x0l : x0 < 18446744073709551616 := ok.2.get 0
   have x1l : x1 < 18446744073709551616 := ok.2.get 1
   have x2l : x2 < 18446744073709551616 := ok.2.get 2
   have x4l : x4 < 18446744073709551616 := ok.2.get 4
   have x5l : x5 < 18446744073709551616 := ok.2.get 5
   have x6l : x6 < 18446744073709551616 := ok.2.get 6
   replace hst0 : wd (rdVb x0 x1 x2 x3 x4 x5 x6 x7 (shKb.getD t 0) (L.getD t 0)) = wd (rndb h L (t + 1)) := hst0
   have cww := wd_get (l := L) (j := t) (by rw [hwl.out.1]; exact htn)
   obtain ⟨kk, hkk⟩ : ∃ kk, shKb.getD t 0 = kk := ⟨_, rfl⟩
   obtain ⟨ww, hww⟩ : ∃ ww, L.getD t 0 = ww := ⟨_, rfl⟩
   rw [hkk] at ckk hst0
   rw [hww] at cww hst0
   have ckk2 := k0.frozen (8 + t)
   replace cww := zH cww
   have hkk2 : Hid (∀ w', Arr w' g (stvb h bs n lg) → w'.cell? ⟨g, 8 + t, none⟩ = some (.int .u64 (kk : Int))) := zH (fun w' k => by rw [hkc.out w' t htn k, hkk])
   clear hkk hww ok ckk ckk2
   unfold rdVb at hst0
   obtain ⟨p1, p1e⟩ : ∃ r, rL x4 50 = r := ⟨_, rfl⟩
   have p1l : p1 < 18446744073709551616 := by rw [← p1e]; exact rL_lt x4l _
   obtain ⟨p2, p2e⟩ : ∃ r, rL x4 46 = r := ⟨_, rfl⟩
   have p2l : p2 < 18446744073709551616 := by rw [← p2e]; exact rL_lt x4l _
   obtain ⟨p3, p3e⟩ : ∃ r, rL x4 23 = r := ⟨_, rfl⟩
   have p3l : p3 < 18446744073709551616 := by rw [← p3e]; exact rL_lt x4l _
   obtain ⟨p4, p4e⟩ : ∃ r, p1 ^^^ p2 = r := ⟨_, rfl⟩
   have p4l : p4 < 18446744073709551616 := by rw [← p4e]; exact xo_ltb p1l p2l
   have p4f : bits .xor .u64 (p1 : Int) (p2 : Int) = (p4 : Int) := by rw [xor_q64 p1l p2l, p4e]
   obtain ⟨pz, pze⟩ : ∃ r, shEb x4 = r := ⟨_, rfl⟩
   have pzl : pz < 18446744073709551616 := by rw [← pze]; exact shEb_lt x4l
   have p5f : bits .xor .u64 (p4 : Int) (p3 : Int) = (pz : Int) := by rw [xor_q64 p4l p3l, ← pze, shEb, p1e, p2e, p3e, p4e]
   rw [pze] at hst0
   have p1c := zH (fun w => rotrb_14 x4l p1e w)
   have p2c := zH (fun w => rotrb_18 x4l p2e w)
   have p3c := zH (fun w => rotrb_41 x4l p3e w)
   clear p1e p2e p3e p4e pze p1l p2l p3l p4l
   obtain ⟨q1, q1e⟩ : ∃ r, rL x0 36 = r := ⟨_, rfl⟩
   have q1l : q1 < 18446744073709551616 := by rw [← q1e]; exact rL_lt x0l _
   obtain ⟨q2, q2e⟩ : ∃ r, rL x0 30 = r := ⟨_, rfl⟩
   have q2l : q2 < 18446744073709551616 := by rw [← q2e]; exact rL_lt x0l _
   obtain ⟨q3, q3e⟩ : ∃ r, rL x0 25 = r := ⟨_, rfl⟩
   have q3l : q3 < 18446744073709551616 := by rw [← q3e]; exact rL_lt x0l _
   obtain ⟨q4, q4e⟩ : ∃ r, q1 ^^^ q2 = r := ⟨_, rfl⟩
   have q4l : q4 < 18446744073709551616 := by rw [← q4e]; exact xo_ltb q1l q2l
   have q4f : bits .xor .u64 (q1 : Int) (q2 : Int) = (q4 : Int) := by rw [xor_q64 q1l q2l, q4e]
   obtain ⟨qz, qze⟩ : ∃ r, shAb x0 = r := ⟨_, rfl⟩
   have qzl : qz < 18446744073709551616 := by rw [← qze]; exact shAb_lt x0l
   have q5f : bits .xor .u64 (q4 : Int) (q3 : Int) = (qz : Int) := by rw [xor_q64 q4l q3l, ← qze, shAb, q1e, q2e, q3e, q4e]
   rw [qze] at hst0
   have q1c := zH (fun w => rotrb_28 x0l q1e w)
   have q2c := zH (fun w => rotrb_34 x0l q2e w)
   have q3c := zH (fun w => rotrb_39 x0l q3e w)
   clear q1e q2e q3e q4e qze q1l q2l q3l q4l
   obtain ⟨c1, c1e⟩ : ∃ r, x4 &&& x5 = r := ⟨_, rfl⟩
   have c1f : bits .and .u64 (x4 : Int) (x5 : Int) = (c1 : Int) := by rw [and_q64 x4l x5l, c1e]
   have c1l : c1 < 18446744073709551616 := by rw [← c1e]; exact an_ltb x4l
   rw [c1e] at hst0
   clear c1e
   obtain ⟨x4n, x4ne⟩ : ∃ r, 18446744073709551615 ^^^ x4 = r := ⟨_, rfl⟩
   have x4nl : x4n < 18446744073709551616 := by rw [← x4ne]; exact xo_ltb zDc x4l
   have x4nf : bits .xor .u64 (if IntKind.u64.signed = true then -1 else IntKind.u64.max) (x4 : Int) = (x4n : Int) := by
    show bits .xor .u64 ((18446744073709551615 : Nat) : Int) (x4 : Int) = _
    rw [xor_q64 zDc x4l, x4ne]
   rw [x4ne] at hst0
   clear x4ne
   obtain ⟨c2, c2e⟩ : ∃ r, x4n &&& x6 = r := ⟨_, rfl⟩
   have c2f : bits .and .u64 (x4n : Int) (x6 : Int) = (c2 : Int) := by rw [and_q64 x4nl x6l, c2e]
   have c2l : c2 < 18446744073709551616 := by rw [← c2e]; exact an_ltb x4nl
   rw [c2e] at hst0
   clear c2e
   obtain ⟨c3, c3e⟩ : ∃ r, c1 ^^^ c2 = r := ⟨_, rfl⟩
   have c3f : bits .xor .u64 (c1 : Int) (c2 : Int) = (c3 : Int) := by rw [xor_q64 c1l c2l, c3e]
   have c3l : c3 < 18446744073709551616 := by rw [← c3e]; exact xo_ltb c1l c2l
   rw [c3e] at hst0
   clear c3e
   obtain ⟨j1, j1e⟩ : ∃ r, x0 &&& x1 = r := ⟨_, rfl⟩
   have j1f : bits .and .u64 (x0 : Int) (x1 : Int) = (j1 : Int) := by rw [and_q64 x0l x1l, j1e]
   have j1l : j1 < 18446744073709551616 := by rw [← j1e]; exact an_ltb x0l
   rw [j1e] at hst0
   clear j1e
   obtain ⟨j2, j2e⟩ : ∃ r, x0 &&& x2 = r := ⟨_, rfl⟩
   have j2f : bits .and .u64 (x0 : Int) (x2 : Int) = (j2 : Int) := by rw [and_q64 x0l x2l, j2e]
   have j2l : j2 < 18446744073709551616 := by rw [← j2e]; exact an_ltb x0l
   rw [j2e] at hst0
   clear j2e
   obtain ⟨j3, j3e⟩ : ∃ r, j1 ^^^ j2 = r := ⟨_, rfl⟩
   have j3f : bits .xor .u64 (j1 : Int) (j2 : Int) = (j3 : Int) := by rw [xor_q64 j1l j2l, j3e]
   have j3l : j3 < 18446744073709551616 := by rw [← j3e]; exact xo_ltb j1l j2l
   rw [j3e] at hst0
   clear j3e
   obtain ⟨j4, j4e⟩ : ∃ r, x1 &&& x2 = r := ⟨_, rfl⟩
   have j4f : bits .and .u64 (x1 : Int) (x2 : Int) = (j4 : Int) := by rw [and_q64 x1l x2l, j4e]
   have j4l : j4 < 18446744073709551616 := by rw [← j4e]; exact an_ltb x1l
   rw [j4e] at hst0
   clear j4e
   obtain ⟨j5, j5e⟩ : ∃ r, j3 ^^^ j4 = r := ⟨_, rfl⟩
   have j5f : bits .xor .u64 (j3 : Int) (j4 : Int) = (j5 : Int) := by rw [xor_q64 j3l j4l, j5e]
   have j5l : j5 < 18446744073709551616 := by rw [← j5e]; exact xo_ltb j3l j4l
   rw [j5e] at hst0
   clear j5e
   obtain ⟨s1, s1e⟩ : ∃ r, (x7 + pz) % 18446744073709551616 = r := ⟨_, rfl⟩
   have s1f : IntKind.u64.wrap ((x7 : Int) + (pz : Int)) = (s1 : Int) := by rw [show ((x7 : Int) + (pz : Int)) = ((x7 + pz : Nat) : Int) by omega, q64_mod, s1e]
   rw [s1e] at hst0
   clear s1e
   obtain ⟨s2, s2e⟩ : ∃ r, (s1 + c3) % 18446744073709551616 = r := ⟨_, rfl⟩
   have s2f : IntKind.u64.wrap ((s1 : Int) + (c3 : Int)) = (s2 : Int) := by rw [show ((s1 : Int) + (c3 : Int)) = ((s1 + c3 : Nat) : Int) by omega, q64_mod, s2e]
   rw [s2e] at hst0
   clear s2e
   obtain ⟨s3, s3e⟩ : ∃ r, (s2 + kk) % 18446744073709551616 = r := ⟨_, rfl⟩
   have s3f : IntKind.u64.wrap ((s2 : Int) + (kk : Int)) = (s3 : Int) := by rw [show ((s2 : Int) + (kk : Int)) = ((s2 + kk : Nat) : Int) by omega, q64_mod, s3e]
   rw [s3e] at hst0
   clear s3e
   obtain ⟨sx, sxe⟩ : ∃ r, (s3 + ww) % 18446744073709551616 = r := ⟨_, rfl⟩
   have sxf : IntKind.u64.wrap ((s3 : Int) + (ww : Int)) = (sx : Int) := by rw [show ((s3 : Int) + (ww : Int)) = ((s3 + ww : Nat) : Int) by omega, q64_mod, sxe]
   rw [sxe] at hst0
   clear sxe
   obtain ⟨sy, sye⟩ : ∃ r, (qz + j5) % 18446744073709551616 = r := ⟨_, rfl⟩
   have syf : IntKind.u64.wrap ((qz : Int) + (j5 : Int)) = (sy : Int) := by rw [show ((qz : Int) + (j5 : Int)) = ((qz + j5 : Nat) : Int) by omega, q64_mod, sye]
   rw [sye] at hst0
   clear sye
   obtain ⟨sa, sae⟩ : ∃ r, (sx + sy) % 18446744073709551616 = r := ⟨_, rfl⟩
   have saf : IntKind.u64.wrap ((sx : Int) + (sy : Int)) = (sa : Int) := by rw [show ((sx : Int) + (sy : Int)) = ((sx + sy : Nat) : Int) by omega, q64_mod, sae]
   rw [sae] at hst0
   clear sae
   obtain ⟨se, see⟩ : ∃ r, (x3 + sx) % 18446744073709551616 = r := ⟨_, rfl⟩
   have sef : IntKind.u64.wrap ((x3 : Int) + (sx : Int)) = (se : Int) := by rw [show ((x3 : Int) + (sx : Int)) = ((x3 + sx : Nat) : Int) by omega, q64_mod, see]
   rw [see] at hst0
   clear see
   have hst : Hid (wd [sa, x0, x1, x2, se, x4, x5, x6] = wd (rndb h L (t + 1))) := zH hst0
   clear hst0 x0l x1l x2l x4l x5l x6l
   have d0 : Hid (∀ w', Arr w' g3 (wd [x0, x1, x2, x3, x4, x5, x6, x7]) → w'.cell? ⟨g3, 0, none⟩ = some (.int .u64 (x0 : Int)) ∧ w'.cell? ⟨g3, 1, none⟩ = some (.int .u64 (x1 : Int)) ∧ w'.cell? ⟨g3, 2, none⟩ = some (.int .u64 (x2 : Int)) ∧ w'.cell? ⟨g3, 3, none⟩ = some (.int .u64 (x3 : Int)) ∧ w'.cell? ⟨g3, 4, none⟩ = some (.int .u64 (x4 : Int)) ∧ w'.cell? ⟨g3, 5, none⟩ = some (.int .u64 (x5 : Int)) ∧ w'.cell? ⟨g3, 6, none⟩ = some (.int .u64 (x6 : Int)) ∧ w'.cell? ⟨g3, 7, none⟩ = some (.int .u64 (x7 : Int))) :=
    zH (fun w' k => ⟨k.cell (j := 0) rfl, k.cell (j := 1) rfl, k.cell (j := 2) rfl, k.cell (j := 3) rfl, k.cell (j := 4) rfl, k.cell (j := 5) rfl, k.cell (j := 6) rfl, k.cell (j := 7) rfl⟩)
   have kgs := kg.size
   go_upto_region 4 with fail
   obtain ⟨wq, rfl⟩ : ∃ wq : World, wq = wr := ⟨_, rfl⟩
   refine Tx.start (fun w' => Below (wq).heap.size (wq) w') 9999 6 rfl zKr ?_
   have hS_1 : Below (wq).heap.size (wq) (World.drew wq) := (Below.refl _ _).drew
   refine Tx.seg (A := ?_) 0 63 zKr (by exact hS_1) [0, 1, 2, 3, 4, 5] zKr ?_ ?_
   rotate_left
   · intro w' hB
     obtain ⟨f0, -, -, -, f4, -, -, -⟩ := d0.out w' (k3.below hB)
     exact zRd
   refine Tx.done zKr ?_
   replace k0 := k0.below hS_1
   replace k2 := k2.below hS_1
   replace k3 := k3.below hS_1
   replace kg := gr_trans kg (gr_below hS_1)
   clear hS_1
   go_wp2_with fail
   refine (p1c.out _).mono ?_
   rintro e w_p1c ⟨rfl, hb⟩
   replace k0 := k0.below hb
   replace k2 := k2.below hb
   replace k3 := k3.below hb
   replace kg := gr_trans kg (gr_below hb)
   clear hb
   go_wp2_with fail
   refine (p2c.out _).mono ?_
   rintro e w_p2c ⟨rfl, hb⟩
   replace k0 := k0.below hb
   replace k2 := k2.below hb
   replace k3 := k3.below hb
   replace kg := gr_trans kg (gr_below hb)
   clear hb
   go_wp2_with fail
   refine (p3c.out _).mono ?_
   rintro e w_p3c ⟨rfl, hb⟩
   replace k0 := k0.below hb
   replace k2 := k2.below hb
   replace k3 := k3.below hb
   replace kg := gr_trans kg (gr_below hb)
   clear hb
   go_wp2_with fail
   refine (q1c.out _).mono ?_
   rintro e w_q1c ⟨rfl, hb⟩
   replace k0 := k0.below hb
   replace k2 := k2.below hb
   replace k3 := k3.below hb
   replace kg := gr_trans kg (gr_below hb)
   clear hb
   go_wp2_with fail
   refine (q2c.out _).mono ?_
   rintro e w_q2c ⟨rfl, hb⟩
   replace k0 := k0.below hb
   replace k2 := k2.below hb
   replace k3 := k3.below hb
   replace kg := gr_trans kg (gr_below hb)
   clear hb
   go_wp2_with fail
   refine (q3c.out _).mono ?_
   rintro e w_q3c ⟨rfl, hb⟩
   replace k0 := k0.below hb
   replace k2 := k2.below hb
   replace k3 := k3.below hb
   replace kg := gr_trans kg (gr_below hb)
   clear hb
   clear p1c p2c p3c q1c q2c q3c
   go_upto_region 7 with fail
   obtain ⟨wq, hwq⟩ : ∃ wq : World, w_q3c = wq := ⟨_, rfl⟩
   rw [hwq] at k0 k2 k3 kg ⊢
   clear hwq
   refine Tx.start (fun w' => Below (wq).heap.size (wq) w') 9999 27 rfl zKr ?_
   have hS_2 : Below (wq).heap.size (wq) (World.drew wq) := (Below.refl _ _).drew
   refine Tx.seg (A := ?_) 0 134217727 zKr (by exact hS_2) [0, 1, 2, 3, 4, 5, 6, 7, 8, 9, 10, 11, 12, 13, 14, 15, 16, 17, 18, 19, 20, 21, 22, 23, 24, 25, 26] zKr ?_ ?_
   rotate_left
   · intro w' hB
     obtain ⟨-, -, -, -, -, f5, f6, f7⟩ := d0.out w' (k3.below hB)
     have fk := hkk2.out w' (k0.below hB)
     have fw := (k2.below hB).cell cww.out
     exact zRd
   refine Tx.done zKr ?_
   replace k0 := k0.below hS_2
   replace k2 := k2.below hS_2
   replace k3 := k3.below hS_2
   replace kg := gr_trans kg (gr_below hS_2)
   clear hS_2
   obtain ⟨w8, hw8⟩ : ∃ w8 : World, wq.drew = w8 := ⟨_, rfl⟩
   rw [hw8] at k0 k2 k3 kg ⊢
   clear hw8
   obtain ⟨f0, f1, f2, f3, f4, f5, f6, f7⟩ := d0.out _ k3
   clear p4f p5f q4f q5f c1f c2f c3f x4nf s1f s2f s3f sxf c1l c2l c3l x4nl j1l j2l j3l j4l j5l pzl qzl kgs ht0 ht1
   obtain ⟨z0, z1, z2, z3, z4, z5, z6, z7⟩ : w8.frozen? ⟨g3, 0, none⟩ = false ∧ w8.frozen? ⟨g3, 1, none⟩ = false ∧ w8.frozen? ⟨g3, 2, none⟩ = false ∧ w8.frozen? ⟨g3, 3, none⟩ = false ∧ w8.frozen? ⟨g3, 4, none⟩ = false ∧ w8.frozen? ⟨g3, 5, none⟩ = false ∧ w8.frozen? ⟨g3, 6, none⟩ = false ∧ w8.frozen? ⟨g3, 7, none⟩ = false := ⟨k3.frozen _, k3.frozen _, k3.frozen _, k3.frozen _, k3.frozen _, k3.frozen _, k3.frozen _, k3.frozen _⟩
   go_wp2_with fail
   go_step3
   clear f0 f1 f2 f3 f4 f5 f6 f7 z0 z1 z2 z3 z4 z5 z6 z7
   replace k3 := (((((((k3.set 0 (.int .u64 (sa : Int))).set 1 (.int .u64 (x0 : Int))).set 2 (.int .u64 (x1 : Int))).set 3 (.int .u64 (x2 : Int))).set 4 (.int .u64 (se : Int))).set 5 (.int .u64 (x4 : Int))).set 6 (.int .u64 (x5 : Int))).set 7 (.int .u64 (x6 : Int))
   have hg := gr_trans (gr_trans (gr_trans (gr_trans (gr_trans (gr_trans (gr_trans (gr_cell w8 g3 0 (.int .u64 (sa : Int))) (gr_cell _ g3 1 (.int .u64 (x0 : Int)))) (gr_cell _ g3 2 (.int .u64 (x1 : Int)))) (gr_cell _ g3 3 (.int .u64 (x2 : Int)))) (gr_cell _ g3 4 (.int .u64 (se : Int)))) (gr_cell _ g3 5 (.int .u64 (x4 : Int)))) (gr_cell _ g3 6 (.int .u64 (x5 : Int)))) (gr_cell _ g3 7 (.int .u64 (x6 : Int)))
   replace k0 := k0.kept hg zOm
   replace k2 := k2.kept hg zOm
   replace kg := gr_freshb kg hg zOm
   replace k3 := (congrArg (Arr _ g3) hst.out).mp k3
   refine ⟨rfl, ⟨g2, g3, t + 1, ⟨by omega, hg2, hg3, hw2, k0, k2, k3, kg⟩, rfl, rfl, rfl, rfl, rfl, rfl⟩, ?_⟩
   simp [intOf]
   omega
 · have dj : decide ((t : Int) < 80) = false := decide_eq_false zOm
   have hie : Hid (t = 80) := zH zOm
   rw [hie.out] at k3
   have hvv := zH (rndb_ok (wl := L) h0.out 80)
   obtain ⟨v, hv⟩ : ∃ v, rndb h L 80 = v := ⟨_, rfl⟩
   rw [hv] at k3 hvv
   have hR2 : Hid (adSb h v 8 = R) := zH (by rw [← hv]; exact hR.out)
   clear hv hR hkc hie ht0 ht htn k2
   obtain ⟨ic, hic⟩ : ∃ ic : Int, (t : Int) = ic := ⟨_, rfl⟩
   rw [hic] at dj ⊢
   clear hic
   go_wp2_with fail
   clear dj
   go_loopw [105] (fun iv wr => ∃ i : Nat, i ≤ 8 ∧ iv = .int .i64 i ∧ Arr wr g (stvb (adSb h v i) bs n lg) ∧ Arr wr g3 (wd v) ∧ w.grownBy wr (some g)) (fun iv _ => 8 - (intOf iv).toNat)
   case atStart => exact ⟨0, by omega, rfl, k0, k3, kg⟩
   case round =>
   clear k0 k3 kg
   obtain ⟨i, hi, rfl, k0, k3, kg⟩ := hrel
   have hi0 : (0 : Int) ≤ (i : Int) := by omega
   by_cases hin : i < 8
   · have hi1 : (i : Int) < 8 := by omega
     have ok := adSb_ok (v := v) h0.out i
     have cx := zH (stvb_hj (bs := bs) (n := n) (lg := lg) ok.1 hin)
     have hset := zH (stvb_set_h (bs := bs) (n := n) (lg := lg) (j := i) (x := (h.getD i 0 + v.getD i 0) % 18446744073709551616) ok.1 hin)
     have hlen := zH (stvb_len (n := n) (lg := lg) ok.1 hb.out)
     have had := adSb_get (h := h) (v := v) i i (Nat.le_refl _)
     have hst : Hid ((adSb h v i).set i ((h.getD i 0 + v.getD i 0) % 18446744073709551616) = adSb h v (i + 1)) := zH rfl
     have cy := zH (wd_get (l := v) (j := i) (by rw [hvv.out.1]; exact hin))
     rw [had] at cx
     obtain ⟨l, hl⟩ : ∃ l, adSb h v i = l := ⟨_, rfl⟩
     rw [hl] at k0 cx hset hst hlen
     obtain ⟨x, hx⟩ : ∃ x, h.getD i 0 = x := ⟨_, rfl⟩
     obtain ⟨y, hy⟩ : ∃ x, v.getD i 0 = x := ⟨_, rfl⟩
     rw [hx] at cx
     rw [hy] at cy
     rw [hx, hy] at hset hst
     obtain ⟨z, hz⟩ : ∃ z, (x + y) % 18446744073709551616 = z := ⟨_, rfl⟩
     have fz : IntKind.u64.wrap ((x : Int) + (y : Int)) = (z : Int) := by rw [show ((x : Int) + (y : Int)) = ((x + y : Nat) : Int) by omega, q64_mod, hz]
     rw [hz] at hset hst
     clear ok had hl hx hy hz
     go_upto_region 14 with fail
     obtain ⟨wq, rfl⟩ : ∃ wq : World, wq = wr := ⟨_, rfl⟩
     refine Tx.start (fun w' => Below (wq).heap.size (wq) w') 13 14 rfl zKr ?_
     have hS_3 : Below (wq).heap.size (wq) (World.drew wq) := (Below.refl _ _).drew
     refine Tx.seg2 (A := ?_) 1 8191 zKr (by exact hS_3) [0, 1, 2, 3, 4, 5, 6, 7, 8, 9, 10, 11, 12] zKr ?_ ?_
     rotate_left
     · intro w' hB
       have f1 := (k0.below hB).cell cx.out
       have f2 := (k3.below hB).cell cy.out
       exact zRd
     refine Tx.bar 16383 rfl zDk (fun K hK => ?_)
     replace k0 := k0.below hS_3
     replace k3 := k3.below hS_3
     replace kg := gr_trans kg (gr_below hS_3)
     clear hS_3
     refine step_cellG rfl _ _ _ rfl g i (.int .u64 (z : Int)) rfl rfl _ k0 zKr (by rw [hlen.out]; omega) rfl (fun w5 k0 hg hsz => ?_)
     rw [hset.out, hst.out] at k0
     replace k3 := k3.kept hg zOm
     replace kg := gr_trans kg hg
     refine hK (fun _ => True) 9999 _ _ ?_
     clear hK K
     try simp only [Act.put]
     try simp only [zSa, zSz, zSs]
     refine Tx.done zKr ?_
     go_wp2_with fail
     exact ⟨⟨i + 1, by omega, by go_num, k0, k3, kg⟩, by simp [intOf]; omega⟩
   · have dj : decide ((i : Int) < 8) = false := decide_eq_false zOm
     have hie : Hid (i = 8) := zH zOm
     rw [hie.out, hR2.out] at k0
     go_wp2_with fail
     simp only [Exit.jump]
     go_end0
     exact ⟨rfl, k0, kg⟩
theorem wpList_builtb {P : Program} {ops : Array Oper} {rest : List Oper} {o : Oper} {a : Act} {w : World} {Q : Exit → Act → World → Prop} (hg : o.guard = none) (t : TypeId) (parts : Array (Nat × Operand)) (ho : o.op = .build t parts)
 (cells : Array Value) (hc : P.built t (parts.map fun (i, x) => (i, a.eval x)).toList = some cells) (h : wpList P ops Q rest (a.put o.dst (.agg cells)) w) : wpList P ops Q (o :: rest) a w :=
 wpList_build hg t parts ho (by rw [hc]; rfl) (by rw [hc]; exact h)
theorem constsb_any (w : World) : Calls Tryz.prog 222 #[] w fun e w' => e = .returned (.agg (wd shKb).toArray) ∧ Below w.heap.size w w' := by
 have hl := zH (show (wd shKb).length = 80 by rw [wd_len]; exact shKb_ok.1)
 obtain ⟨X, hX⟩ : ∃ X, wd shKb = X := ⟨_, rfl⟩
 have h1 := zH (wd_one shKb)
 rw [hX] at hl h1 ⊢
 replace hX := zH hX
 go_enter Tryz.func222, Tryz.ntmps222
 go_upto_region 1 with fail
 refine wp_new1 (fun W hsz k0 kb => ?_)
 replace k0 : Arr W w.heap.size (wd (List.replicate 80 0)) := k0
 clear hsz
 go_wp2_with (first | (refine wpList_builtb rfl _ _ rfl (wd shKb).toArray zKr ?_; rw [hX.out]) | (refine wpl_storeG rfl _ _ _ rfl _ X rfl rfl _ k0 (by rw [hl.out]; kernel_rfl) (by rw [hl.out, wd_len]; rfl) h1.out (fun w2 k0 hg hsz => ?_)))
 have qb := below_gr kb hg zOm kb.size
 exact bodyPost_ret (results_arr2 Tryz.results222 _ _ _ rfl zKr _ k0 (by rw [hl.out]; kernel_rfl)) rfl ⟨rfl, qb⟩
theorem beginb_any (w : World) : Calls Tryz.prog 175 #[] w fun e w' => ∃ g, e = .returned (.pointer (some ⟨g, 0, none⟩)) ∧ w.heap.size ≤ g ∧ Arr w' g (stvb shIb (List.replicate 128 0) 0 0) ∧ Below w.heap.size w w' := by
 obtain ⟨X, hX⟩ : ∃ X, wd shIb = X := ⟨_, rfl⟩
 obtain ⟨Y, hY⟩ : ∃ X, stvb shIb (List.replicate 128 0) 0 0 = X := ⟨_, rfl⟩
 replace hX := zH hX
 rw [hY]
 replace hY := zH hY
 go_enter Tryz.func175, Tryz.ntmps175
 go_wp2_with (refine wpList_builtb rfl _ _ rfl (wd shIb).toArray zKr ?_; rw [hX.out])
 refine (constsb_any _).mono ?_
 rintro e w1 ⟨rfl, kb⟩
 rw [← hX.out]
 go_wp2_with (refine wpList_builtb rfl _ _ rfl (stvb shIb (List.replicate 128 0) 0 0).toArray zKr ?_; rw [hY.out])
 go_ret
 exact ⟨_, rfl, kb.size, Arr.new _ _ _, bel kb (below_alloc _ _)⟩
theorem takeb_any (g n lg : Nat) (h : List Nat) (bs : List UInt8) (x : UInt8) (w : World) (k0 : Arr w g (stvb h bs n lg)) (h0 : h.length = 8 ∧ W64 h) (hb : bs.length = 128) (hn : n < 128) :
 Calls Tryz.prog 176 #[.pointer (some ⟨g, 0, none⟩), .int .u8 (x.toNat : Int)] w fun e w' =>
  e = .returned (.tuple #[]) ∧ Arr w' g (if n = 127 then stvb (cmpb h (bs.set n x)) (bs.set n x) 0 lg else stvb h (bs.set n x) (n + 1) lg) ∧ w.grownBy w' (some g) := by
 have hcn := stvb_n (n := n) (lg := lg) h0.1 hb
 have hcb := stvb_b (n := n) (lg := lg) (bs := bs) (j := n) h0.1 zOm
 rw [u8s_get bs n zOm] at hcb
 have hset := stvb_set_b (n := n) (lg := lg) (bs := bs) (j := n) (x := x) h0.1 zOm
 have hb2 : (bs.set n x).length = 128 := by rw [List.length_set]; exact hb
 obtain ⟨cs, hcs⟩ : ∃ cs, bs.set n x = cs := ⟨_, rfl⟩
 rw [hcs] at hset hb2 ⊢
 have hcn2 := stvb_n (n := n) (lg := lg) h0.1 hb2
 have hset2 := stvb_set_n (n := n) (m := n + 1) (lg := lg) h0.1 hb2
 have hcn3 := stvb_n (n := n + 1) (lg := lg) h0.1 hb2
 have c1 := fun w k => turnb_any (g := g) (n := n + 1) (lg := lg) w k h0 hb2
 have hq := cmpb_ok h0 cs
 have hcn4 := stvb_n (n := n + 1) (lg := lg) hq.1 hb2
 have hset4 := stvb_set_n (n := n + 1) (m := 0) (lg := lg) hq.1 hb2
 obtain ⟨Y, hY⟩ : ∃ Y, (if n = 127 then stvb (cmpb h cs) cs 0 lg else stvb h cs (n + 1) lg) = Y := ⟨_, rfl⟩
 rw [hY]
 replace hY := zH hY
 have hbl : (bs[n]'zOm).toNat < 256 := (bs[n]'zOm).toNat_lt
 generalize (bs[n]'zOm).toNat = y at hcb hbl
 have n16 : (n : Int) < 128 := by omega
 clear hb hcs h0 hq
 replace hcn := zH hcn
 replace hcb := zH hcb
 replace hset := zH hset
 replace hb2 := zH hb2
 replace hcn2 := zH hcn2
 replace hset2 := zH hset2
 replace hcn3 := zH hcn3
 replace hcn4 := zH hcn4
 replace hset4 := zH hset4
 replace c1 := zH c1
 go_enter Tryz.func176, Tryz.ntmps176
 go_upto_region 0 with fail
 refine Tx.start (fun w' => Below (w).heap.size (w) w') 9 10 rfl zKr ?_
 have hS_1 : Below (w).heap.size (w) (World.drew w) := (Below.refl _ _).drew
 refine Tx.seg2 (A := ?_) 1 511 zKr (by exact hS_1) [0, 1, 2, 3, 4, 5, 6, 7, 8] zKr ?_ ?_
 rotate_left
 · intro w' hB
   have e1 := (k0.below hB).cell hcn.out
   exact zRd
 have k0' := k0.below hS_1
 have hcel := k0'.cell hcb.out
 have hfro := k0'.frozen (88 + n)
 refine Tx.bar 1023 rfl zDk (fun K hK => ?_)
 go_simp
 refine hK (fun _ => True) 9999 _ _ ?_
 clear hK K
 try simp only [Act.put]
 try simp only [zSa, zSz, zSs]
 refine Tx.done zKr ?_
 clear hcel hfro k0'
 have kg := grownBy_drew (gr_cell w g (88 + n) (.int .u8 (x.toNat : Int)))
 have k1 : Arr (w.setCell ⟨g, 88 + n, none⟩ (.int .u8 (x.toNat : Int))).drew g (stvb h cs n lg) := by
  have := k0.set (88 + n) (.int .u8 (x.toNat : Int))
  rw [hset.out] at this
  exact this
 generalize (w.setCell ⟨g, 88 + n, none⟩ (.int .u8 (x.toNat : Int))).drew = w2 at *
 have hcel := k1.cell hcn2.out
 have hfro := k1.frozen 216
 go_upto_region 2 with fail
 clear hcel hfro
 have kg := gr_trans kg (gr_cell w2 g 216 (.int .i64 ((n : Int) + 1)))
 have k2 : Arr (w2.setCell ⟨g, 216, none⟩ (.int .i64 ((n : Int) + 1))) g (stvb h cs (n + 1) lg) := by
  have := k1.set 216 (.int .i64 ((n + 1 : Nat) : Int))
  rw [hset2.out] at this
  exact this
 generalize w2.setCell ⟨g, 216, none⟩ (.int .i64 ((n : Int) + 1)) = w3 at *
 have hcel := k2.cell hcn3.out
 by_cases h15 : n = 127
 · have c2 := zH (c1.out w3 k2)
   clear c1
   subst h15
   go_wp2_with fail
   refine c2.out.mono ?_
   rintro e w4 ⟨rfl, k3, hg3⟩
   have kg := gr_trans kg hg3
   clear hg3 hcel
   have hcel := k3.cell hcn4.out
   have hfro := k3.frozen 216
   go_wp2_with fail
   go_end0
   replace k3 := k3.set 216 (.int .i64 ((0 : Nat) : Int))
   rw [hset4.out] at k3
   exact ⟨rfl, by have := hY.out; simp only [if_true] at this; rw [← this]; exact k3, gr_trans kg (gr_cell _ _ _ _)⟩
 · have hne : ((n + 1 : Nat) : Int) ≠ 128 := by omega
   go_wp2_with fail
   go_end0
   exact ⟨rfl, by rw [← hY.out, if_neg h15]; exact k2, kg⟩
def shHb (L : List UInt8) : Nat → List Nat
 | 0 => shIb
 | i + 1 => cmpb (shHb L i) ((L.drop (128 * i)).take 128)
theorem shHb_ok (L : List UInt8) : ∀ i, (shHb L i).length = 8 ∧ W64 (shHb L i)
 | 0 => shIb_ok
 | i + 1 => cmpb_ok (shHb_ok L i) _
theorem shHb_app (L M : List UInt8) : ∀ i, 128 * i ≤ L.length → shHb (L ++ M) i = shHb L i
 | 0, _ => rfl
 | i + 1, h => by
  rw [shHb, shHb, shHb_app L M i zOm, List.drop_append_of_le_length zOm, List.take_append_of_le_length (by rw [List.length_drop]; omega)]
def SStb (w : World) (g lg : Nat) (L : List UInt8) : Prop := ∃ bs, bs.length = 128 ∧ bs.take (L.length % 128) = L.drop (128 * (L.length / 128)) ∧ Arr w g (stvb (shHb L (L.length / 128)) bs (L.length % 128) lg)
theorem SStb.below {w w' : World} {g lg : Nat} {L : List UInt8} (h : SStb w g lg L) (hb : Below w.heap.size w w') : SStb w' g lg L := by
 obtain ⟨bs, h1, h2, h3⟩ := h
 exact ⟨bs, h1, h2, h3.below hb⟩
theorem SStb.lt {w : World} {g lg : Nat} {L : List UInt8} (h : SStb w g lg L) : g < w.heap.size := by
 obtain ⟨bs, -, -, h3⟩ := h
 exact h3.lt
theorem SStb.start {w : World} {g : Nat} (h : Arr w g (stvb shIb (List.replicate 128 0) 0 0)) : SStb w g 0 [] := ⟨_, by simp, rfl, h⟩
theorem SStb.n {w : World} {g lg : Nat} {L : List UInt8} (h : SStb w g lg L) : w.cell? ⟨g, 216, none⟩ = some (.int .i64 ((L.length % 128 : Nat) : Int)) := by
 obtain ⟨bs, h1, -, h3⟩ := h
 exact h3.cell (stvb_n (shHb_ok L _).1 h1)
theorem SStb.l {w : World} {g lg : Nat} {L : List UInt8} (h : SStb w g lg L) : w.cell? ⟨g, 217, none⟩ = some (.int .u64 (lg : Int)) ∧ w.frozen? ⟨g, 217, none⟩ = false := by
 obtain ⟨bs, h1, -, h3⟩ := h
 exact ⟨h3.cell (stvb_l (shHb_ok L _).1 h1), h3.frozen _⟩
theorem SStb.set {w : World} {g lg m : Nat} {L : List UInt8} (h : SStb w g lg L) : SStb (w.setCell ⟨g, 217, none⟩ (.int .u64 (m : Int))) g m L := by
 obtain ⟨bs, h1, h2, h3⟩ := h
 refine ⟨bs, h1, h2, ?_⟩
 have := h3.set 217 (.int .u64 (m : Int))
 rwa [stvb_set_l (shHb_ok L _).1 h1] at this
theorem takeb_st (g lg : Nat) (L : List UInt8) (x : UInt8) (w : World) (k0 : SStb w g lg L) :
 Calls Tryz.prog 176 #[.pointer (some ⟨g, 0, none⟩), .int .u8 (x.toNat : Int)] w fun e w' => e = .returned (.tuple #[]) ∧ SStb w' g lg (L ++ [x]) ∧ w.grownBy w' (some g) := by
 obtain ⟨bs, h1, h2, h3⟩ := k0
 refine (takeb_any g (L.length % 128) lg _ bs x w h3 (shHb_ok L _) h1 (Nat.mod_lt _ zDc)).mono ?_
 rintro e w' ⟨rfl, k1, kg⟩
 refine ⟨rfl, ?_, kg⟩
 have hl : (L ++ [x]).length = L.length + 1 := by simp
 have e2 : (bs.set (L.length % 128) x).take (L.length % 128 + 1) = L.drop (128 * (L.length / 128)) ++ [x] := by
  rw [List.take_succ_eq_append_getElem (by simp; omega), List.take_set_of_le (Nat.le_refl _), h2]; simp
 have e4 : (L ++ [x]).drop (128 * (L.length / 128)) = L.drop (128 * (L.length / 128)) ++ [x] := List.drop_append_of_le_length zOm
 by_cases h15 : L.length % 128 = 127
 · rw [if_pos h15] at k1
   have e3 : bs.set (L.length % 128) x = L.drop (128 * (L.length / 128)) ++ [x] := by
    rw [← e2, List.take_of_length_le (by rw [List.length_set]; omega)]
   have hl3 : (L.drop (128 * (L.length / 128)) ++ [x]).length = 128 := by simp; omega
   rw [e3] at k1
   refine ⟨_, hl3, ?_, ?_⟩
   · rw [hl, show (L.length + 1) % 128 = 0 by omega, List.take_zero, show 128 * ((L.length + 1) / 128) = L.length + 1 by omega, List.drop_of_length_le zOm]
   · rw [hl, show (L.length + 1) % 128 = 0 by omega, show (L.length + 1) / 128 = L.length / 128 + 1 by omega, shHb, shHb_app _ _ _ zOm, e4, List.take_of_length_le zOm]
     exact k1
 · rw [if_neg h15] at k1
   refine ⟨bs.set (L.length % 128) x, by rw [List.length_set]; exact h1, ?_, ?_⟩
   · rw [hl, show (L.length + 1) % 128 = L.length % 128 + 1 by omega, show (L.length + 1) / 128 = L.length / 128 by omega, e2, e4]
   · rw [hl, show (L.length + 1) % 128 = L.length % 128 + 1 by omega, show (L.length + 1) / 128 = L.length / 128 by omega, shHb_app _ _ _ zOm]
     exact k1
def shZb (n : Nat) : Nat := (239 - n % 128) % 128
def shXb (L : List UInt8) : List UInt8 := L ++ [128] ++ List.replicate (shZb L.length) 0 ++ List.replicate 8 0
def shMb (L : List UInt8) : List UInt8 := shXb L ++ be8 (8 * L.length : Int)
def shBb (h : List Nat) (i : Nat) : Nat := h.getD (i / 8) 0 / 2 ^ (56 - 8 * (i % 8)) % 256
def shOb (h : List Nat) : Nat → Nat
 | 0 => 0
 | i + 1 => shOb h i + 256 ^ i * shBb h i
theorem shOb_lt (h : List Nat) : ∀ i, shOb h i < 256 ^ i
 | 0 => by rw [shOb]; decide
 | i + 1 => by
  have h1 := shOb_lt h i
  have h2 : shBb h i < 256 := Nat.mod_lt _ zDc
  have h3 : 256 ^ i * shBb h i ≤ 256 ^ i * 255 := Nat.mul_le_mul_left _ zOm
  rw [shOb, Nat.pow_succ]
  omega
def shab (L : List UInt8) : Nat := shOb (shHb (shMb L) ((shMb L).length / 128)) 64
theorem shab_lt (L : List UInt8) : shab L < 256 ^ 64 := shOb_lt _ _
theorem shsumb_any (d : Option Addr) (cap : Nat) (ls : List (List UInt8)) (w : World) (hs : Sls w (.slice d ls.length cap) ls) :
 Calls Tryz.prog 117 #[.slice d ls.length cap] w fun e w' => e = .returned (.agg (bytn 64 (shab ls.flatten)).toArray) ∧ Below w.heap.size w w' := by
 have hlen := hs.len
 obtain ⟨-, hlc, hcm⟩ := hlen
 unfold maxLen at hcm
 obtain ⟨X, hX⟩ : ∃ X, Ending.returned (.agg (bytn 64 (shab ls.flatten)).toArray) = X := ⟨_, rfl⟩
 rw [hX]
 replace hX := zH hX
 replace hs := zH hs
 go_enter Tryz.func117, Tryz.ntmps117
 go_upto_region 1 with fail
 refine wp_new1 (fun W hsz k2 kb => ?_)
 replace k2 : Arr W w.heap.size (bytn 64 0) := k2
 clear hsz
 go_wp2_with fail
 refine (beginb_any _).mono ?_
 rintro e w1 ⟨g, rfl, hg, k0, hb⟩
 have k0 := SStb.start k0
 have lt2 := k2.lt
 replace k2 := k2.below hb
 replace kb := bel kb hb
 obtain ⟨g2, hg2⟩ : ∃ g2, w.heap.size = g2 := ⟨_, rfl⟩
 rw [hg2] at k2 lt2 ⊢
 have h2g : g2 < g := by omega
 have hw2 : w.heap.size ≤ g2 := by omega
 clear hb hg lt2 hg2
 have ib : (ls.length : Int) ≤ 9223372036854775807 := by omega
 go_wp2_with fail
 go_loopw [14] (fun iv wr => ∃ i : Nat, i ≤ ls.length ∧ iv = .int .i64 i ∧ Arr wr g2 (bytn 64 0) ∧ SStb wr g ((ls.take i).flatten.length % 18446744073709551616) (ls.take i).flatten ∧ Below w.heap.size w wr) (fun iv _ => ls.length - (intOf iv).toNat)
 case atStart => exact ⟨0, Nat.zero_le _, rfl, k2, k0, kb⟩
 case round =>
  clear k2 k0 kb
  obtain ⟨i, hi, rfl, k2, k0, kb⟩ := hrel
  by_cases hlt : i < ls.length
  · obtain ⟨b, o, x, c, rfl, hcel0, hsl⟩ := hs.out.at hlt
    have hcel : wr.cell? ⟨b, o + i, none⟩ = some (.slice x ls[i].length c) := by rw [kb.cell (World.block_lt_of_cell? w _ hcel0)]; exact hcel0
    have hsucc := flat_take_succ hlt
    obtain ⟨l, hl⟩ : ∃ l, ls[i] = l := ⟨_, rfl⟩
    rw [hl] at hsucc hcel hsl
    obtain ⟨pre, hpre⟩ : ∃ pre, (ls.take i).flatten = pre := ⟨_, rfl⟩
    rw [hpre] at k0 hsucc
    have hll := hsl.len
    rw [u8s_len] at hll
    obtain ⟨-, hlc2, hcm2⟩ := hll
    unfold maxLen at hcm2
    clear hpre hl hcel0
    replace hsucc := zH hsucc
    replace hsl := zH hsl
    have ilt : (i : Int) < (ls.length : Int) := by omega
    obtain ⟨lg, hlg⟩ : ∃ lg, pre.length % 18446744073709551616 = lg := ⟨_, rfl⟩
    rw [hlg] at k0
    have lgl : lg < 18446744073709551616 := by omega
    have hlg2 : Hid ((pre ++ l).length % 18446744073709551616 = (lg + l.length) % 18446744073709551616) := zH (by rw [List.length_append]; omega)
    clear hlg
    go_wp2_with fail
    clear hcel
    go_loopw [20] (fun jv wr => ∃ j : Nat, j ≤ l.length ∧ jv = .int .i64 j ∧ Arr wr g2 (bytn 64 0) ∧ SStb wr g lg (pre ++ l.take j) ∧ Below w.heap.size w wr) (fun jv _ => l.length - (intOf jv).toNat)
    case atStart => exact ⟨0, Nat.zero_le _, rfl, k2, by rw [List.take_zero, List.append_nil]; exact k0, kb⟩
    case round =>
     clear k2 k0 kb
     obtain ⟨j, hj, rfl, k2, k0, kb⟩ := hrel
     by_cases hltj : j < l.length
     · obtain ⟨b2, o2, rfl, -, -, -, hcc⟩ := hsl.out.at (by rw [u8s_len]; omega)
       have hcel := hcc j _ (u8s_get l j hltj)
       have hcel2 : wr.cell? ⟨b2, o2 + j, none⟩ = some (.int .u8 (l[j].toNat : Int)) := by rw [kb.cell (World.block_lt_of_cell? w _ hcel)]; exact hcel
       have hts : pre ++ l.take (j + 1) = pre ++ l.take j ++ [l[j]] := by rw [List.take_succ_eq_append_getElem hltj, List.append_assoc]
       have hyl : l[j].toNat < 256 := l[j].toNat_lt
       have c3 := zH (takeb_st g lg (pre ++ l.take j) l[j] wr k0)
       generalize l[j] = y at *
       rw [← hts] at c3
       clear hcc hcel hts
       have jlt : (j : Int) < (l.length : Int) := by omega
       go_wp2_with fail
       clear hcel2
       refine c3.out.mono ?_
       rintro e w4 ⟨rfl, k0', hg⟩
       have k2 := k2.kept hg zOm
       have kb := below_gr kb hg zOm kb.size
       clear c3 hg k0
       go_wp2_with fail
       exact ⟨⟨j + 1, by omega, by go_num, k2, k0', kb⟩, by simp [intOf]; omega⟩
     · obtain rfl : j = l.length := by omega
       rw [List.take_of_length_le (Nat.le_refl _), ← hsucc.out] at k0
       obtain ⟨lg2, hl2⟩ : ∃ n, (lg + l.length) % 18446744073709551616 = n := ⟨_, rfl⟩
       have fl : IntKind.u64.wrap ((lg : Int) + (l.length : Int)) = (lg2 : Int) := by rw [wrap_u64_mod]; omega
       have hl3 : Hid (((ls.take (i + 1)).flatten).length % 18446744073709551616 = lg2) := zH (by rw [hsucc.out, hlg2.out, hl2])
       have ll0 : (0 : Int) ≤ (l.length : Int) := by omega
       have ll1 : (l.length : Int) ≤ 9223372036854775807 := by omega
       have fu : IntKind.u64.wrap (l.length : Int) = (l.length : Int) := by rw [wrap_u64_mod]; omega
       obtain ⟨hce, hfr⟩ := k0.l
       clear hl2
       go_wp2_with fail
       replace k2 := k2.other (a := ⟨g, 217, none⟩) (by simp; omega) (.int .u64 (lg2 : Int))
       replace k0 := k0.set (m := lg2)
       exact ⟨⟨i + 1, by omega, by go_num, k2, by rw [hl3.out]; exact k0, kb.setCell (by simp; omega) _⟩, by simp [intOf]; omega⟩
  · obtain rfl : i = ls.length := by omega
    rw [List.take_of_length_le (Nat.le_refl _)] at k0
    obtain ⟨L, hL⟩ : ∃ L, ls.flatten = L := ⟨_, rfl⟩
    have hX2 := hX.out
    rw [hL] at hX2 k0
    replace hX := zH hX2
    obtain ⟨N, hN⟩ : ∃ N, L.length = N := ⟨_, rfl⟩
    obtain ⟨lg, hlg⟩ : ∃ lg, N % 18446744073709551616 = lg := ⟨_, rfl⟩
    rw [hN, hlg] at k0
    have c1 : Hid (Calls Tryz.prog 176 #[.pointer (some ⟨g, 0, none⟩), .int .u8 128] wr fun e w' => e = .returned (.tuple #[]) ∧ SStb w' g lg (L ++ [128]) ∧ wr.grownBy w' (some g)) := zH (takeb_st g lg L 128 wr k0)
    have c2 : Hid (∀ wr M, SStb wr g lg M → Calls Tryz.prog 176 #[.pointer (some ⟨g, 0, none⟩), .int .u8 0] wr fun e w' => e = .returned (.tuple #[]) ∧ SStb w' g lg (M ++ [0]) ∧ wr.grownBy w' (some g)) := zH (fun wr M k => takeb_st g lg M 0 wr k)
    replace hN := zH hN
    have hlg2 := zH hlg
    clear hL hX2 hs hlg
    go_wp2_with fail
    refine c1.out.mono ?_
    rintro e w4 ⟨rfl, k0', hg⟩
    replace k2 := k2.kept hg zOm
    replace kb := below_gr kb hg zOm kb.size
    replace k0 : SStb w4 g lg (L ++ [128] ++ List.replicate 0 0) := by rw [List.replicate_zero, List.append_nil]; exact k0'
    clear c1 hg k0'
    go_wp2_with fail
    go_loopw [44] (fun _ wr => ∃ z : Nat, z ≤ shZb N ∧ Arr wr g2 (bytn 64 0) ∧ SStb wr g lg (L ++ [128] ++ List.replicate z 0) ∧ Below w.heap.size w wr) (fun _ wr => ((112 + 128 - (intOf ((wr.cell? ⟨g, 216, none⟩).getD undef)).toNat) % 128))
    case atStart => exact ⟨0, Nat.zero_le _, k2, k0, kb⟩
    case round =>
    clear k2 k0 kb
    obtain ⟨z, hz, k2, k0, kb⟩ := hrel
    have hce := k0.n
    obtain ⟨m, hm⟩ : ∃ m, (L ++ [128] ++ List.replicate z 0).length % 128 = m := ⟨_, rfl⟩
    rw [hm] at hce
    have hm2 : m = (N + 1 + z) % 128 := by
     rw [← hm, ← hN.out]
     simp
     omega
    have hzz : shZb N = (239 - N % 128) % 128 := rfl
    by_cases hmn : m = 112
    · have dn : ((m : Int) != 112) = false := by rw [hmn]; rfl
      have hze : Hid (z = shZb N) := zH (by rw [hzz] at hz ⊢; omega)
      rw [hze.out] at k0
      have hXe : Hid (L ++ [128] ++ List.replicate (shZb N) 0 ++ List.replicate 8 0 = shXb L) := zH (by rw [← hN.out]; rfl)
      clear hm hm2 hzz hz hze hmn
      obtain ⟨Q, hQ⟩ : ∃ Q, L ++ [128] ++ List.replicate (shZb N) 0 = Q := ⟨_, rfl⟩
      rw [hQ] at k0
      replace hXe : Hid (Q ++ List.replicate 8 0 = shXb L) := zH (by rw [← hQ]; exact hXe.out)
      replace hQ := zH hQ
      go_wp2_with fail
      clear dn hce
      go_loopw [48] (fun jv wr => ∃ j : Nat, j ≤ 8 ∧ jv = .int .i64 j ∧ Arr wr g2 (bytn 64 0) ∧ SStb wr g lg (Q ++ List.replicate j 0) ∧ Below w.heap.size w wr) (fun jv _ => 8 - (intOf jv).toNat)
      case atStart => exact ⟨0, by omega, rfl, k2, by rw [List.replicate_zero, List.append_nil]; exact k0, kb⟩
      case round =>
      clear k2 k0 kb
      obtain ⟨j, hj, rfl, k2, k0, kb⟩ := hrel
      have j0 : (0 : Int) ≤ (j : Int) := by omega
      by_cases hj8 : j < 8
      · have j1 : (j : Int) < 8 := by omega
        have c3 := zH (c2.out wr _ k0)
        have hes : Q ++ List.replicate j 0 ++ [0] = Q ++ List.replicate (j + 1) 0 := by rw [List.replicate_succ', List.append_assoc]
        rw [hes] at c3
        clear hes
        go_wp2_with fail
        refine c3.out.mono ?_
        rintro e w5 ⟨rfl, k0', hg⟩
        replace k2 := k2.kept hg zOm
        replace kb := below_gr kb hg zOm kb.size
        clear c3 hg k0
        go_wp2_with fail
        exact ⟨⟨j + 1, by omega, by go_num, k2, k0', kb⟩, by simp [intOf]; omega⟩
      have hj8e : Hid (j = 8) := zH zOm
      have dj : decide ((j : Int) < 8) = false := decide_eq_false zOm
      rw [hj8e.out] at k0
      obtain ⟨jc, hjc⟩ : ∃ jc : Int, (j : Int) = jc := ⟨_, rfl⟩
      rw [hjc] at dj ⊢
      clear hjc hj8 hj j0 hj8e
      rw [hXe.out] at k0
      clear c2
      obtain ⟨P, hP⟩ : ∃ P, shXb L = P := ⟨_, rfl⟩
      rw [hP] at k0
      replace hP := zH hP
      clear hXe
      have hn8 : Hid (IntKind.u64.wrap ((lg : Int) * 8) = IntKind.u64.wrap (8 * L.length : Int)) := zH (by rw [wrap_u64_mod, wrap_u64_mod, ← hlg2.out, ← hN.out]; omega)
      obtain ⟨E, hE⟩ : ∃ E, be8 (8 * L.length : Int) = E := ⟨_, rfl⟩
      have hat : Hid (∀ k, k < 8 → ∃ c : UInt8, E.take (k + 1) = E.take k ++ [c] ∧ IntKind.u64.wrap ((lg : Int) * 8) / 2 ^ (8 * (7 - k)) % 256 = (c.toNat : Int)) := zH (fun k hk => by rw [hn8.out, ← hE]; exact be8_at _ k hk)
      have hEl : Hid (E.length = 8) := zH (by rw [← hE, be8_len])
      replace hE := zH hE
      clear hn8
      go_wp2_with fail
      clear dj
      go_loopw [8] (fun kv wr => ∃ k : Nat, k ≤ 8 ∧ kv = .int .i64 (7 - (k : Int)) ∧ Arr wr g2 (bytn 64 0) ∧ SStb wr g lg (P ++ E.take k) ∧ Below w.heap.size w wr) (fun kv _ => (intOf kv + 1).toNat)
      case atStart => exact ⟨0, Nat.zero_le _, rfl, k2, by rw [List.take_zero, List.append_nil]; exact k0, kb⟩
      case round =>
      clear k2 k0 kb
      obtain ⟨k, hk, rfl, k2, k0, kb⟩ := hrel
      by_cases hkn : k < 8
      · obtain ⟨c, hc1, hc2⟩ := hat.out k hkn
        have c3 := zH (takeb_st g lg (P ++ E.take k) c wr k0)
        have hes : P ++ E.take (k + 1) = P ++ E.take k ++ [c] := by rw [hc1, List.append_assoc]
        rw [← hes] at c3
        obtain ⟨q, hq⟩ : ∃ q, 7 - k = q := ⟨_, rfl⟩
        have hq7 : 7 - (k : Int) = (q : Int) := by omega
        have hq0 : (0 : Int) ≤ (q : Int) := by omega
        have hq1 : (q : Int) ≤ 7 := by omega
        obtain ⟨s, hs⟩ : ∃ s, 8 * q = s := ⟨_, rfl⟩
        have hs8 : 8 * (q : Int) = (s : Int) := by omega
        have hs0 : (0 : Int) ≤ (s : Int) := by omega
        have hs1 : (s : Int) < 64 := by omega
        rw [hq, hs] at hc2
        obtain ⟨y, hy⟩ : ∃ y, c.toNat = y := ⟨_, rfl⟩
        rw [hy] at hc2 c3
        have ly : y < 256 := by rw [← hy]; exact c.toNat_lt
        obtain ⟨hce, -⟩ := k0.l
        clear hc1 hes hy
        replace hq := zH hq
        replace hs := zH hs
        go_wp2_with fail
        refine c3.out.mono ?_
        rintro e w5 ⟨rfl, k0', hg⟩
        replace k2 := k2.kept hg zOm
        replace kb := below_gr kb hg zOm kb.size
        clear c3 hg k0 hc2 hce
        go_wp2_with fail
        exact ⟨⟨k + 1, by omega, by congr 1; omega, k2, k0', kb⟩, by simp [intOf]; omega⟩
      · have hk8 : Hid (k = 8) := zH zOm
        have hM : Hid (P ++ E.take 8 = shMb L) := zH (by rw [List.take_of_length_le (by rw [hEl.out]; exact Nat.le_refl _), ← hP.out, ← hE.out]; rfl)
        rw [hk8.out, hM.out] at k0
        have dk : decide ((0 : Int) ≤ 7 - (k : Int)) = false := decide_eq_false zOm
        have dk2 : ¬ (0 : Int) ≤ 7 - (k : Int) := by omega
        obtain ⟨kc, hkc⟩ : ∃ kc, 7 - (k : Int) = kc := ⟨_, rfl⟩
        rw [hkc] at dk dk2 ⊢
        clear hkc hk hkn hat hM hEl
        obtain ⟨h, hh⟩ : ∃ h, shHb (shMb L) ((shMb L).length / 128) = h := ⟨_, rfl⟩
        have ok := shHb_ok (shMb L) ((shMb L).length / 128)
        obtain ⟨bs, -, -, k0⟩ := k0
        rw [hh] at k0 ok
        have hX2 := hX.out
        rw [shab, hh] at hX2
        replace hX := zH hX2
        obtain ⟨nn, hnn⟩ : ∃ nn, (shMb L).length % 128 = nn := ⟨_, rfl⟩
        rw [hnn] at k0
        replace ok := zH ok
        clear hnn hh hX2
        go_upto_region 24 with fail
        refine wp_new1 (fun w8 hsz k9 hb8 => ?_)
        replace k9 : Arr w8 wr.heap.size (bytn 64 (shOb h 0)) := by rw [shOb]; exact k9
        have h09 := k0.lt
        replace k0 := k0.below hb8
        replace k2 := k2.below hb8
        replace kb := bel kb hb8
        obtain ⟨g9, hg9⟩ : ∃ g, wr.heap.size = g := ⟨_, rfl⟩
        rw [hg9] at k9 h09 ⊢
        clear hb8 hsz hg9 dk dk2
        go_wp2_with fail
        go_loopw [68] (fun iv wr => ∃ i : Nat, i ≤ 64 ∧ iv = .int .i64 i ∧ Arr wr g2 (bytn 64 0) ∧ Arr wr g (stvb h bs nn lg) ∧ Arr wr g9 (bytn 64 (shOb h i)) ∧ Below w.heap.size w wr) (fun iv _ => 64 - (intOf iv).toNat)
        case atStart => exact ⟨0, Nat.zero_le _, rfl, k2, k0, k9, kb⟩
        case round =>
        clear k2 k0 k9 kb
        obtain ⟨i, hi, rfl, k2, k0, k9, kb⟩ := hrel
        have hi0 : (0 : Int) ≤ (i : Int) := by omega
        by_cases hin : i < 64
        · have hi1 : (i : Int) < 64 := by omega
          obtain ⟨q, hq⟩ : ∃ q, i / 8 = q := ⟨_, rfl⟩
          have hq8 : q < 8 := by omega
          have cq := stvb_hj (bs := bs) (n := nn) (lg := lg) ok.out.1 hq8
          have cq := k0.cell cq
          have fq : (i : Int) / 8 = (q : Int) := by omega
          have hq0 : (0 : Int) ≤ (q : Int) := by omega
          have hq1 : (q : Int) < 8 := by omega
          have fw : IntKind.i64.wrap (q : Int) = (q : Int) := i64_in zOm
          obtain ⟨r, hr⟩ : ∃ r, i % 8 = r := ⟨_, rfl⟩
          have fr : (i : Int) % 8 = (r : Int) := by omega
          have fr2 : Int.tmod (i : Int) 8 = (r : Int) := by rw [Int.tmod_eq_emod_of_nonneg hi0]; omega
          have hr0 : (0 : Int) ≤ (r : Int) := by omega
          have hr1 : (r : Int) < 8 := by omega
          obtain ⟨s, hs⟩ : ∃ s, 56 - 8 * r = s := ⟨_, rfl⟩
          have f8 : IntKind.i64.wrap (8 * (r : Int)) = 8 * (r : Int) := i64_in zOm
          have fs : IntKind.i64.wrap (56 - 8 * (r : Int)) = (s : Int) := by rw [i64_in zOm]; omega
          have fs2 : 56 - 8 * (r : Int) = (s : Int) := by omega
          have hs0 : (0 : Int) ≤ (s : Int) := by omega
          have hs1 : (s : Int) < 64 := by omega
          obtain ⟨x, hx⟩ : ∃ x, h.getD q 0 = x := ⟨_, rfl⟩
          rw [hx] at cq
          have hB : Hid (shBb h i = x / 2 ^ s % 256) := zH (by rw [shBb, hq, hr, hs, hx])
          have hset : Hid ((bytn 64 (shOb h i)).set i (.int .u8 ((x / 2 ^ s % 256 : Nat) : Int)) = bytn 64 (shOb h (i + 1))) := zH (by rw [bytn_snoc (shOb_lt h i) (Nat.mod_lt _ zDc), shOb, hB.out])
          have hlen9 : Hid ((bytn 64 (shOb h i)).length = 64) := zH (bytn_len _ _)
          have c9 := k9.cell (bytn_get 64 (shOb h i) i hin)
          have z9 := k9.frozen i
          generalize shOb h i / 256 ^ i % 256 = y at c9
          replace hq := zH hq
          replace hr := zH hr
          replace hs := zH hs
          clear hx hB
          go_wp2_with fail
          have e8 : ((x / 2 ^ s % 256 : Nat) : Int) = (x : Int) / 2 ^ s % 256 := by simp
          rw [← e8]
          replace k2 := k2.other (a := ⟨g9, i, none⟩) (by simp; omega) (.int .u8 ((x / 2 ^ s % 256 : Nat) : Int))
          replace k0 := k0.other (a := ⟨g9, i, none⟩) (by simp; omega) (.int .u8 ((x / 2 ^ s % 256 : Nat) : Int))
          replace k9 := k9.set i (.int .u8 ((x / 2 ^ s % 256 : Nat) : Int))
          rw [hset.out] at k9
          exact ⟨⟨i + 1, by omega, by go_num, k2, k0, k9, kb.setCell (by simp; omega) _⟩, by simp [intOf]; omega⟩
        · have dj : decide ((i : Int) < 64) = false := decide_eq_false zOm
          have hie : Hid (i = 64) := zH zOm
          rw [hie.out] at k9
          go_wp2_with (first | (refine wpList_load_arr2 rfl _ _ rfl _ rfl zDk _ k9 (by rw [bytn_len]; kernel_rfl) ?_) | (refine wpl_storeG rfl _ _ _ rfl _ (bytn 64 (shOb h 64)) rfl rfl _ k2 (by rw [bytn_len]; kernel_rfl) (by rw [bytn_len, bytn_len]) (bytn_one _ _) (fun w9 k2 hg hsz => ?_)))
          have qb := below_gr kb hg zOm kb.size
          exact bodyPost_ret (results_arr2 Tryz.results117 _ _ _ rfl zKr _ k2 (by rw [bytn_len]; kernel_rfl)) rfl ⟨hX.out, qb⟩
    · have dn : ((m : Int) == 112) = false := by simp; omega
      have hz2 : z + 1 ≤ shZb N := by rw [hzz] at hz ⊢; omega
      have c3 := zH (c2.out wr _ k0)
      have hes : L ++ [128] ++ List.replicate z 0 ++ [0] = L ++ [128] ++ List.replicate (z + 1) 0 := by rw [List.replicate_succ', List.append_assoc]
      rw [hes] at c3
      clear hes hm hzz
      replace hm2 := zH hm2
      have hmne : (m : Int) ≠ 112 := by omega
      go_wp2_with fail
      refine c3.out.mono ?_
      rintro e w5 ⟨rfl, k0', hg⟩
      replace k2 := k2.kept hg zOm
      replace kb := below_gr kb hg zOm kb.size
      clear c3 hg k0
      have hce2 := k0'.n
      obtain ⟨m', hm'⟩ : ∃ m, (L ++ [128] ++ List.replicate (z + 1) 0).length % 128 = m := ⟨_, rfl⟩
      rw [hm'] at hce2
      have hm3 : m' = (m + 1) % 128 := by
       rw [← hm', hm2.out, ← hN.out]
       simp
       omega
      have hml : m < 128 := by rw [hm2.out]; exact Nat.mod_lt _ zDc
      replace hce := zH hce
      replace hce2 := zH hce2
      clear hm'
      replace hm3 := zH hm3
      go_wp2_with fail
      refine ⟨⟨z + 1, hz2, k2, k0', kb⟩, ?_⟩
      rw [hce.out, hce2.out]
      simp only [Option.getD_some, intOf, Int.toNat_natCast]
      have := hm3.out
      omega
end Go.Proofs.YtibdgkhkhmdihaaGreatDoor
