/- PortcullisWrong: part 21 of its proof: lemmas and contracts, each with its conditions in its own statement; the last part holds the law itself. -/
import Derived.Test.YtibdgkhkhmdihaaGreatDoorJe20
import Derived.RangeFuncBox
import Derived.RangeFuncLeaves
import Derived.RangeFuncCalls
import Derived.Shelf.Abstract
import Derived.WalkKit
import Derived.OwnWalkIn
import Derived.TacticsInMore
import Derived.LoopNIn
import Derived.LoopIn
import Derived.Maps.AppendAt

set_option maxHeartbeats 4000000
set_option maxRecDepth 100000
namespace Go.Proofs.YtibdgkhkhmdihaaGreatDoor
open Go.RowKit
def dvv (p c : Nat) (dead : Bool) : List Value := [.pointer (some ⟨p, 0, none⟩), .pointer (some ⟨c, 0, none⟩), .bool dead]
def DvNew (p q g r s m : Nat) (F : Fl) (w : World) (e : Ending) (w' : World) : Prop := ∃ d c k F', e = .returned (.tuple #[.pointer (some ⟨d, 0, none⟩), .int .i64 0]) ∧ w.heap.size ≤ d ∧ w.heap.size ≤ c ∧ d ≠ c ∧
 F'.dead = false ∧ F'.op = -1 ∧ F'.b = wrB F.b 0 (recL s 1 []) ∧ Arr w' d (dvv p c false) ∧ Arr w' c (coZ k r s (-1)) ∧ Arr w' q (otv (some ⟨p, 0, none⟩) r s 1 (m : Int)) ∧ FlAt w' p g F' ∧ Ch [p, g, q] w w'
theorem dopen_fresh (p q g r s m : Nat) (F : Fl) (w : World) (ko : Arr w q (otv (some ⟨p, 0, none⟩) r s 0 (m : Int))) (kf : FlAt w p g F) (hqp : q ≠ p) (hqg : q ≠ g) (hlen : 32768 ≤ F.b.length) (hop : F.op = -1) (hd : F.dead = false) (hm0 : 0 < m) (hm : m ≤ 1000000) (hf : Unmarked F) :
 Calls Tryz.prog 79 #[.pointer (some ⟨p, 0, none⟩), .pointer (some ⟨q, 0, none⟩)] w (DvNew p q g r s m F w) := by
 have hpl := kf.lt
 have hql := ko.lt
 obtain ⟨L, hL⟩ : ∃ L, F.b.length / 256 = L := ⟨_, rfl⟩
 have hL64 : (128 : Int) ≤ (L : Int) := by omega
 have cS := zH (fsize_any p g F w kf)
 rw [hL] at cS
 have cB := zH (bopen_fresh p q g r s m F w ko kf hqp hqg zOm hop hd hm0 hm hf)
 replace hlen := zH hlen
 clear ko kf hqp hqg hop hd hm0 hm hf hL
 go_enter Tryz.func79, Tryz.ntmps79
 go_wp2_with fail
 refine cS.out.mono ?_
 rintro e w1 ⟨rfl, hw⟩
 obtain rfl : w = w1 := hw.symm
 clear cS
 go_wp2_with fail
 refine cB.out.mono ?_
 rintro e w1 ⟨b, F', rfl, hb0, hFb, hop', hd', kk, hc⟩
 have hlen' : 32768 ≤ F'.b.length := by rw [hFb, wrB_len]; exact hlen.out
 clear cB hlen hL64
 replace hFb := zH hFb
 replace hop' := zH hop'
 replace hd' := zH hd'
 have hcs := hc.size
 replace hc := zH hc
 have cL := zH (bload_nil b p q g r s 1 (m : Int) 0 false F' w1 kk)
 have cV := zH (fun i (hi : i < 2) w' (hb : Below w1.heap.size w1 w') => vnew_any p g i F' w' (kk.fl.below hb) hlen' hi)
 have cR := zH (fun w' (hb : Below w1.heap.size w1 w') => oroot_any q (some ⟨p, 0, none⟩) r s 1 (m : Int) w' (kk.ot.below hb))
 have cT := zH (fun w' (hb : Below w1.heap.size w1 w') => osecret_any q (some ⟨p, 0, none⟩) r s 1 (m : Int) w' (kk.ot.below hb))
 replace kk := zH kk
 clear hlen'
 go_wp2_with fail
 refine cL.out.mono ?_
 rintro e w2 ⟨rfl, hw⟩
 obtain rfl : w1 = w2 := hw.symm
 clear cL
 go_wp2_with fail
 refine (dstate_nil _).mono ?_
 rintro e w2 ⟨rfl, kb⟩
 go_upto_region 9 with (refine wpl_storeG rfl _ _ _ rfl _ stZ rfl rfl _ (Arr.new _ _ _) zKr (by rfl) stZ_one (fun w4 k6 hg hsz => ?_))
 replace kb := bel kb (below_fresh hg)
 have hw2 : w1.heap.size ≤ w4.heap.size := kb.size
 have h8 := k6.lt
 obtain ⟨g8, hg8⟩ : ∃ g, w2.heap.size = g := ⟨_, rfl⟩
 rw [hg8] at k6 h8 ⊢
 clear hg hsz hg8
 go_upto_region 10 with fail
 have kb2 := below_alloc w4 (.cells #[.pointer (some ⟨q, 0, none⟩), .pointer (some ⟨b, 0, none⟩), .pointer none, .pointer none] 195)
 have k9 : Arr (w4.alloc (.cells #[.pointer (some ⟨q, 0, none⟩), .pointer (some ⟨b, 0, none⟩), .pointer none, .pointer none] 195)) w4.heap.size [.pointer (some ⟨q, 0, none⟩), .pointer (some ⟨b, 0, none⟩), .pointer none, .pointer none] := Arr.new _ _ _
 replace k6 := k6.below kb2
 replace kb := bel kb kb2
 obtain ⟨W, hW⟩ : ∃ W, w4.alloc (.cells #[.pointer (some ⟨q, 0, none⟩), .pointer (some ⟨b, 0, none⟩), .pointer none, .pointer none] 195) = W := ⟨_, rfl⟩
 obtain ⟨g9, hg9⟩ : ∃ g, w4.heap.size = g := ⟨_, rfl⟩
 rw [hW] at k6 k9 kb ⊢
 rw [hg9] at k9 h8 hw2 ⊢
 clear hW hg9 kb2
 go_wp2_with fail
 go_loopw [44] (fun iv wr => ∃ (i : Nat) (xs : List Value), i ≤ 2 ∧ iv = .int .i64 i ∧ xs.length = 4 ∧ Arr wr g9 xs ∧ Arr wr g8 stZ ∧ Below w1.heap.size w1 wr) (fun iv _ => 2 - (intOf iv).toNat)
 case atStart => exact ⟨0, _, by omega, rfl, rfl, k9, k6, kb⟩
 case round =>
 clear k6 k9 kb
 obtain ⟨i, xs, hi, rfl, hxl, k9, k8, kb⟩ := hrel
 have hi0 : (0 : Int) ≤ (i : Int) := by omega
 by_cases hin : i < 2
 · have hi1 : (i : Int) < 2 := by omega
   have cVi := zH (cV.out i hin)
   go_upto_region 13 with fail
   obtain ⟨wq, rfl⟩ : ∃ wq : World, wq = wr := ⟨_, rfl⟩
   refine Tx.start (fun w' => Below (wq).heap.size (wq) w') 11 12 rfl zKr ?_
   have hS_1 : Below (wq).heap.size (wq) (World.drew wq) := (Below.refl _ _).drew
   refine Tx.seg2 (A := ?_) 6 783 zKr (by exact hS_1) [0, 1, 2, 3, 8, 9] zKr ?_ ?_
   rotate_left
   · intro w' hB
     exact zRd
   refine Tx.eff 4 799 rfl zDk (fun K hK => ?_)
   go_simp
   refine (cVi.out _ (bel kb hS_1)).mono ?_
   rintro e w_2 ⟨a, rfl, hb_2⟩
   have hS_2 := ext_trans hS_1 (Nat.le_refl _) hb_2
   refine hK (fun w' => Below (wq).heap.size (wq) w') _ _ hS_2 (fun _ h => h) ?_
   clear hK K hS_1
   try simp only [Act.put, zSa, zSz, zSs]
   refine Tx.seg2 (A := ?_) 4 831 zKr (by exact hS_2) [5] zKr ?_ ?_
   rotate_left
   · intro w' hB
     exact zRd
   refine Tx.pure (A := ?_) 3 959 zKr (by exact hS_2) [7] zKr ?_ ?_
   rotate_left
   · intro w'
     iterate 1 (first | (refine rd_skip rfl rfl ?_; simp only [Act.put, zSa, zSz, zSs]) | (refine rd_take (v := ?_) rfl rfl ?_ ?_; rotate_left; (focus (go_simp; try (with_reducible rfl))); simp only [Act.put, zSa, zSz, zSs]))
     exact rd_nil
   refine Tx.seg2 (A := ?_) 1 2047 zKr (by exact hS_2) [6, 10] zKr ?_ ?_
   rotate_left
   · intro w' hB
     exact zRd
   have k9 := k9.below hS_2
   have k8 := k8.below hS_2
   replace kb := bel kb hS_2
   obtain ⟨u, hu⟩ : ∃ u, xs[2 + i]? = some u := ⟨xs[2 + i]'zOm, List.getElem?_eq_getElem zOm⟩
   have hcel := k9.cell hu
   have hfro := k9.frozen (2 + i)
   refine Tx.bar 4095 rfl zDk (fun K hK => ?_)
   go_simp
   refine hK (fun _ => True) 9999 _ _ ?_
   clear hK K
   try simp only [Act.put]
   try simp only [zSa, zSz, zSs]
   refine Tx.done zKr ?_
   clear hcel hfro
   have kg := gr_cell w_2 g9 (2 + i) (.pointer (some ⟨a, 0, none⟩))
   have k9 : Arr (w_2.setCell ⟨g9, 2 + i, none⟩ (.pointer (some ⟨a, 0, none⟩))) g9 (xs.set (2 + i) (.pointer (some ⟨a, 0, none⟩))) := k9.set (2 + i) (.pointer (some ⟨a, 0, none⟩))
   generalize (w_2.setCell ⟨g9, 2 + i, none⟩ (.pointer (some ⟨a, 0, none⟩))) = w5 at *
   have k8 := k8.kept kg zOm
   have kb := below_gr kb kg hw2 kb.size
   go_wp2_with fail
   exact ⟨⟨i + 1, _, by omega, by go_num, by rw [List.length_set]; exact hxl, k9, k8, kb⟩, by simp [intOf]; omega⟩
 · have dj : decide ((i : Int) < 2) = false := decide_eq_false zOm
   have cC := zH (fun w' => cnew_any g9 r s w')
   clear cV hi hi0 hin hxl hb0
   go_upto_region 15 with fail
   obtain ⟨wq, rfl⟩ : ∃ wq : World, wq = wr := ⟨_, rfl⟩
   refine Tx.start (fun w' => Below (wq).heap.size (wq) w') 9999 13 rfl zKr ?_
   have hS_3 : Below (wq).heap.size (wq) (World.drew wq) := (Below.refl _ _).drew
   refine Tx.seg (A := ?_) 7 175 zKr (by exact hS_3) [0, 1, 2, 3, 5, 7] zKr ?_ ?_
   rotate_left
   · intro w' hB
     have y8 := k8.below hB
     exact zRd
   refine Tx.eff 4 191 rfl zDk (fun K hK => ?_)
   go_simp
   refine (cR.out _ (bel kb hS_3)).mono ?_
   rintro e w_4 ⟨rfl, hb_4⟩
   have hS_4 := ext_trans hS_3 (Nat.le_refl _) hb_4
   refine hK (fun w' => Below (wq).heap.size (wq) w') _ _ hS_4 (fun _ h => h) ?_
   clear hK K hb_4 hS_3
   try simp only [Act.put, zSa, zSz, zSs]
   refine Tx.eff 6 255 rfl zDk (fun K hK => ?_)
   go_simp
   refine (cT.out _ (bel kb hS_4)).mono ?_
   rintro e w_5 ⟨rfl, hb_5⟩
   have hS_5 := ext_trans hS_4 (Nat.le_refl _) hb_5
   refine hK (fun w' => Below (wq).heap.size (wq) w') _ _ hS_5 (fun _ h => h) ?_
   clear hK K hb_5 hS_4
   try simp only [Act.put, zSa, zSz, zSs]
   have hs5 := (hS_5).size
   have hsq := kb.size
   refine Tx.eff 8 511 rfl zDk (fun K hK => ?_)
   go_simp
   refine (cC.out _).mono ?_
   rintro e w_6 ⟨c, rfl, hcg, kc, hb_6⟩
   have hS_6 := ext_trans hS_5 (Nat.le_refl _) hb_6
   refine hK (fun w' => Below (wq).heap.size (wq) w') _ _ hS_6 (fun _ h => h) ?_
   clear hK K hS_5
   try simp only [Act.put, zSa, zSz, zSs]
   refine Tx.seg (A := ?_) 3 1023 zKr (by exact hS_6) [9] zKr ?_ ?_
   rotate_left
   · intro w' hB
     exact zRd
   refine Tx.eff 10 2047 rfl zDk (fun K hK => ?_)
   go_simp
   have kd : Arr (w_6.alloc (.cells #[.pointer (some ⟨p, 0, none⟩), .pointer (some ⟨c, 0, none⟩), .bool false] 151)) w_6.heap.size (dvv p c false) := Arr.new _ _ _
   have kb6 := below_alloc w_6 (.cells #[.pointer (some ⟨p, 0, none⟩), .pointer (some ⟨c, 0, none⟩), .bool false] 151)
   have hlt6 := kc.lt
   replace kc := kc.below kb6
   have hS7 := bel hS_6 kb6
   have hw6 := (hS_6).size
   refine hK (fun w' => Below wq.heap.size wq w') _ _ hS7 (fun _ h => h) ?_
   clear hK K
   try simp only [Act.put, zSa, zSz, zSs]
   refine Tx.seg (A := ?_) 0 8191 zKr (by exact hS7) [11, 12] zKr ?_ ?_
   rotate_left
   · intro w' hB
     exact zRd
   refine Tx.done zKr ?_
   have kb := bel kb hS7
   have hcg2 : w.heap.size ≤ c := by omega
   have hd2 : w.heap.size ≤ w_6.heap.size := by omega
   obtain ⟨W7, hW7⟩ : ∃ W, w_6.alloc (.cells #[.pointer (some ⟨p, 0, none⟩), .pointer (some ⟨c, 0, none⟩), .bool false] 151) = W := ⟨_, rfl⟩
   rw [hW7] at kb kc kd ⊢
   go_wp2_with fail
   go_ret2
   exact ⟨_, c, g9, F', rfl, hd2, hcg2, by omega, hd'.out, hop'.out, hFb.out, kd, kc, kk.out.ot.below kb, kk.out.fl.below kb, hc.out.trans (Ch.of_below kb)⟩
theorem ddo4 (d p g c k r s : Nat) (F : Fl) (bv : Value) (n : Int) (w : World) (kd : Arr w d (dvv p c false)) (k0 : Arr w c (coZ k r s (-1))) (kf : FlAt w p g F) (hd : F.dead = false) (hdc : d ≠ c) :
 Calls Tryz.prog 87 #[.pointer (some ⟨d, 0, none⟩), .agg #[.int .i64 4, bv, .int .i64 n]] w fun e w' => e = .returned (.tuple #[.slice none 0 0, .int .i64 18]) ∧ Arr w' c (coZ k r s (-1)) ∧ Ch [c] w w' := by
 have cD := zH (fun w' (hb : Below w.heap.size w w') => fdead_any p g F w' (kf.below hb))
 rw [hd] at cD
 have cC := zH (fun w' (hb : Below w.heap.size w w') => do4 c k r s (-1) bv n w' (k0.below hb))
 replace kd := zH kd
 have hcl := k0.lt
 clear k0 kf hd
 go_enter Tryz.func87, Tryz.ntmps87
 go_upto_region 1 with fail
 have kb := below_alloc w (.cells #[.int .i64 4, bv, .int .i64 n] 90)
 have k1 : Arr (w.alloc (.cells #[.int .i64 4, bv, .int .i64 n] 90)) w.heap.size [.int .i64 4, bv, .int .i64 n] := Arr.new _ _ _
 obtain ⟨W, hW⟩ : ∃ W, w.alloc (.cells #[.int .i64 4, bv, .int .i64 n] 90) = W := ⟨_, rfl⟩
 obtain ⟨g1, hg⟩ : ∃ g, w.heap.size = g := ⟨_, rfl⟩
 rw [hW] at kb k1 ⊢
 rw [hg] at k1 ⊢
 have hg1 : g1 ≠ c := by have := hcl; omega
 clear hW hg
 have kd1 := kd.out.below kb
 have x0 := kd1.cell (j := 0) rfl
 have x2 := kd1.cell (j := 2) rfl
 go_wp2_with fail
 refine (cD.out _ kb).mono ?_
 rintro e w1 ⟨rfl, hw⟩
 obtain rfl : W = w1 := hw.symm
 clear cD x0 x2
 go_upto_region 3 with fail
 refine Tx.start (fun w' => Ch [c] W w') 9999 11 rfl zKr ?_
 have hS0 : Ch [c] W W.drew := Ch.of_below (Below.refl _ _).drew
 refine Tx.seg (A := ?_) 6 31 zKr (by exact hS0) [0, 1, 2, 3, 4] zKr ?_ ?_
 rotate_left
 · intro w' hB
   have x1 := (kd1.ch hB (by simpa using hdc)).cell (j := 1) rfl
   have y1 := k1.ch hB (by simpa using hg1)
   exact zRd
 refine Tx.eff 5 63 rfl zDk (fun K hK => ?_)
 go_simp
 refine (cC.out _ kb.drew).mono ?_
 rintro e w2 ⟨rfl, k2, hc⟩
 have hS1 : Ch [c] W w2 := hS0.trans hc
 refine hK (fun w' => Ch [c] W w') _ _ hS1 (fun _ h => h) ?_
 clear hK K hS0
 try simp only [Act.put, zSa, zSz, zSs]
 refine Tx.seg (A := ?_) 0 2047 zKr (by exact hS1) [6, 7, 8, 9, 10] zKr ?_ ?_
 rotate_left
 · intro w' hB
   exact zRd
 refine Tx.done zKr ?_
 have hq := (Ch.of_below (M := [c]) kb).trans hS1
 clear hS1 cC kb hc
 go_wp2_with fail
 go_ret2
 exact ⟨rfl, k2, hq⟩
theorem unmarked_new (n : Nat) (hn : 64 ≤ n) : Unmarked (Fl.new n) := by
 intro k hk
 show ((List.replicate (n * 256) (255 : UInt8)).drop (8192 * k)).take 4 = _
 rw [List.drop_replicate, List.take_replicate, show min 4 (n * 256 - 8192 * k) = 4 by omega]
 rfl
theorem Sl.head {w : World} {b o c m : Nat} {bs : List UInt8} (h : Sl w (.slice (some ⟨b, o, none⟩) bs.length c) (u8s bs)) (hm : m ≤ bs.length) : Sl w (.slice (some ⟨b, o, none⟩) m c) (u8s (bs.take m)) := by
 obtain ⟨a', c', h1, h2, h3, h4, h5⟩ := h
 simp only [Value.slice.injEq] at h1
 obtain ⟨rfl, -, rfl⟩ := h1
 rw [u8s_len] at h2
 have hl : (bs.take m).length = m := by rw [List.length_take]; omega
 refine ⟨_, c, by rw [u8s_len, hl], by rw [u8s_len, hl]; omega, h3, h4, fun x hx j u hu => h5 x hx j u ?_⟩
 have hj : j < m := by
  have := (List.getElem?_eq_some_iff.1 hu).1
  rwa [u8s_len, hl] at this
 rw [← hu]
 simp [u8s, hj]
def tagB (k n : Nat) (bs side : List UInt8) : List UInt8 := (digs 256 16 (tagN k n bs side)).map UInt8.ofNat
def leafN (L : List UInt8) : Nat := shaa (0 :: L)
def nodeN (a b : Nat) : Nat := shaa (1 :: (nb 32 a ++ nb 32 b))
theorem leaf_any (a : Option Addr) (n c : Nat) (L : List UInt8) (w : World) (h : Sl w (.slice a n c) (u8s L)) :
 Calls Tryz.prog 145 #[.slice a n c] w fun e w' => e = .returned (.agg (bytn 32 (leafN L)).toArray) ∧ Below w.heap.size w w' := by
 have cS := zH (fun (w : World) g (h : Sls w (.slice (some ⟨g, 0, none⟩) 2 2) [[0], L]) => show Calls Tryz.prog 20 #[.slice (some ⟨g, 0, none⟩) 2 2] w fun e w' => e = .returned (.agg (bytn 32 (leafN L)).toArray) ∧ Below w.heap.size w w' from by
  have q := shsuma_any (some ⟨g, 0, none⟩) 2 [[0], L] w h
  rw [show [[0], L].flatten = 0 :: L by simp] at q
  exact q)
 obtain ⟨N, hN⟩ : ∃ N, leafN L = N := ⟨_, rfl⟩
 rw [hN] at cS ⊢
 replace h := zH h
 clear hN
 go_enter Tryz.func145, Tryz.ntmps145
 go_upto_region 1 with fail
 refine wp_new1 (fun W hsz k2 kb => ?_)
 replace k2 : Arr W w.heap.size (bytn 32 0) := k2
 clear hsz
 have kb1 := below_alloc W (.cells #[.int .u8 0] 5)
 have h1 : Sl (W.alloc (.cells #[.int .u8 0] 5)) (.slice (some ⟨W.heap.size, 0, none⟩) 1 1) (u8s [0]) := Sl.new1 W (.int .u8 0) 5
 have h2 := h.out.below (bel kb kb1)
 have h3 := Sls.new2 h1 h2 26
 have kb2 := bel kb1 (below_alloc (W.alloc (.cells #[.int .u8 0] 5)) (.cells #[.slice (some ⟨W.heap.size, 0, none⟩) 1 1, .slice a n c] 26))
 rw [show (W.alloc (.cells #[.int .u8 0] 5)).heap.size = W.heap.size + 1 by simp] at h3
 replace h3 := zH h3
 clear h1 h2 kb1
 go_wp2_with fail
 refine (cS.out _ _ h3.out).mono ?_
 rintro e w1 ⟨rfl, hb⟩
 replace hb := bel kb2 hb
 replace k2 := k2.below hb
 replace kb := bel kb hb
 clear hb kb2 h3 cS
 go_wp2_with (refine zSt ?_)
 exact bodyPost_ret (results_arr2 Tryz.results145 _ _ _ rfl zKr _ (by first | assumption | exact Arr.setRow zAm _) zLn) rfl ⟨rfl, below_setRow kb (Nat.le_refl _) _⟩
theorem node_any (a b : Nat) (w : World) :
 Calls Tryz.prog 147 #[.agg (bytn 32 a).toArray, .agg (bytn 32 b).toArray] w fun e w' => e = .returned (.agg (bytn 32 (nodeN a b)).toArray) ∧ Below w.heap.size w w' := by
 have cS := zH (fun (w : World) g (h : Sls w (.slice (some ⟨g, 0, none⟩) 3 3) [[1], nb 32 a, nb 32 b]) => show Calls Tryz.prog 20 #[.slice (some ⟨g, 0, none⟩) 3 3] w fun e w' => e = .returned (.agg (bytn 32 (nodeN a b)).toArray) ∧ Below w.heap.size w w' from by
  have q := shsuma_any (some ⟨g, 0, none⟩) 3 [[1], nb 32 a, nb 32 b] w h
  rw [show [[1], nb 32 a, nb 32 b].flatten = 1 :: (nb 32 a ++ nb 32 b) by simp] at q
  exact q)
 obtain ⟨N, hN⟩ : ∃ N, nodeN a b = N := ⟨_, rfl⟩
 rw [hN] at cS ⊢
 clear hN
 go_enter Tryz.func147, Tryz.ntmps147
 go_upto_region 1 with fail
 refine wp_new3 (fun W hsz k2 k3 k4 kb => ?_)
 replace k4 : Arr W (w.heap.size + 1 + 1) (bytn 32 0) := k4
 clear hsz
 have sA := zH (show Sl W (.slice (some ⟨w.heap.size, 0, none⟩) 32 32) (u8s (nb 32 a)) from Sl.ofArrN (by rw [← nb_u8s]; exact k2) (nb_len _ _) zDc)
 have sB := zH (show Sl W (.slice (some ⟨w.heap.size + 1, 0, none⟩) 32 32) (u8s (nb 32 b)) from Sl.ofArrN (by rw [← nb_u8s]; exact k3) (nb_len _ _) zDc)
 clear k2 k3
 refine Tx.start (fun w' => Below (W).heap.size (W) w') 5 6 rfl zKr ?_
 have hS_1 : Below (W).heap.size (W) (World.drew W) := (Below.refl _ _).drew
 refine Tx.seg (A := ?_) 4 6 zKr (by exact hS_1) [1, 2] zKr ?_ ?_
 rotate_left
 · intro w' hB
   exact zRd
 refine Tx.eff 0 7 rfl zDk (fun K hK => ?_)
 go_simp
 refine hK (fun w' => Below (W).heap.size (W) w') _ _ (ext_trans hS_1 (Nat.le_refl _) (below_alloc _ _)) (fun _ h => h) ?_
 clear hK K
 try simp only [Act.put, zSa, zSz, zSs]
 refine Tx.newF (F := fun w' => Sl w' (.slice (some ⟨(W).heap.size, 0, none⟩) 1 1) (u8s [1])) (w0 := W) (Sl.new1 _ (.int .u8 1) _) (fun w1 h => h.below (Below.refl _ _).drew) (by first | exact .inl rfl | exact .inr rfl) (fun w_2 h0 hb_2 => ?_)
 have hS_2 : Below (W).heap.size (W) w_2 := by first | exact hb_2 | exact ext_trans hS_1 (Nat.le_refl _) hb_2
 clear hS_1
 refine Tx.eff 3 15 rfl zDk (fun K hK => ?_)
 go_simp
 refine hK (fun w' => Below (W).heap.size (W) w') _ _ (ext_trans hS_2 (Nat.le_refl _) (below_alloc _ _)) (fun _ h => h) ?_
 clear hK K
 try simp only [Act.put, zSa, zSz, zSs]
 refine Tx.newF (F := fun w' => Sls w' (.slice (some ⟨(w_2).heap.size, 0, none⟩) 3 3) [[1], nb 32 a, nb 32 b]) (w0 := w_2) (Sls.new3 h0 (sA.out.below hS_2) (sB.out.below hS_2) _) (fun w1 h => h.below (Below.refl _ _).drew) (by first | exact .inl rfl | exact .inr rfl) (fun w_3 h3 hb_3 => ?_)
 have hS_3 : Below (W).heap.size (W) w_3 := by first | exact hb_3 | exact ext_trans hS_2 (Nat.le_refl _) hb_3
 clear hS_2
 refine Tx.eff 4 31 rfl zDk (fun K hK => ?_)
 go_simp
 refine (cS.out _ _ h3).mono ?_
 rintro e w_4 ⟨rfl, hb_4⟩
 have hS_4 := ext_trans hS_3 (Nat.le_refl _) hb_4
 refine hK (fun w' => Below (W).heap.size (W) w') _ _ hS_4 (fun _ h => h) ?_
 clear hK K hb_4 hS_3
 try simp only [Act.put, zSa, zSz, zSs]
 have k4 := k4.below hS_4
 have kb := bel kb hS_4
 refine Tx.bar 63 rfl zDk (fun K hK => ?_)
 refine step_store_arr rfl _ _ _ rfl _ _ rfl rfl _ zAm zLn zLm zOn ?_
 refine hK (fun _ => True) 9999 _ _ ?_
 clear hK K
 try simp only [Act.put]
 try simp only [zSa, zSz, zSs]
 refine Tx.done zKr ?_
 refine then_row k4 (fun w_5 k4 hoth hbel => ?_)
 have kb := hbel _ _ zOm kb
 clear hoth hbel
 go_wp2_with fail
 exact bodyPost_ret (results_arr2 Tryz.results147 _ _ _ rfl zKr _ (by first | assumption | exact Arr.setRow zAm _) zLn) rfl ⟨rfl, kb⟩
def cutF : Nat → Nat → Nat → Nat
 | 0, _, k => k
 | f + 1, n, k => if k < n - k then cutF f n (k * 2) else k
def cutN (n : Nat) : Nat := cutF 20 n 1
theorem cutF_lt : ∀ f n k, 0 < k → k < n → 0 < cutF f n k ∧ cutF f n k < n
 | 0, _, _, h0, h => ⟨h0, h⟩
 | f + 1, n, k, h0, h => by
  unfold cutF
  split
  · exact cutF_lt f n (k * 2) zOm zOm
  · exact ⟨h0, h⟩
theorem cutN_lt {n : Nat} (h : 2 ≤ n) : 0 < cutN n ∧ cutN n < n := cutF_lt 20 n 1 zOm zOm
theorem cut_any (n : Nat) (h2 : 2 ≤ n) (hn : n ≤ 1000000) (w : World) :
 Calls Tryz.prog 146 #[.int .i64 (n : Int)] w fun e w' => e = .returned (.int .i64 (cutN n : Int)) ∧ Below w.heap.size w w' := by
 obtain ⟨N, hN⟩ : ∃ N, cutN n = N := ⟨_, rfl⟩
 rw [hN]
 replace hN := zH hN
 replace h2 := zH h2
 go_enter Tryz.func146, Tryz.ntmps146
 go_wp2_with fail
 go_loopw [3] (fun kv wr => ∃ f j k : Nat, kv = .int .i64 (k : Int) ∧ 0 < k ∧ k < n ∧ k = 2 ^ j ∧ f + j = 20 ∧ cutF f n k = cutN n ∧ Below w.heap.size w wr) (fun kv _ => n - (intOf kv).toNat)
 case atStart => exact ⟨20, 0, 1, rfl, by decide, by have := h2.out; omega, rfl, rfl, rfl, Below.refl _ _⟩
 case round =>
 obtain ⟨f, j, k, rfl, hk0, hkn, hkj, hfj, hc, hb⟩ := hrel
 obtain ⟨m, hm⟩ : ∃ m, n - k = m := ⟨_, rfl⟩
 have hw : (n : Int) - (k : Int) = (m : Int) := by omega
 have e1 : IntKind.i64.wrap (m : Int) = (m : Int) := i64_in (by constructor <;> omega)
 have e2 : IntKind.i64.wrap ((k : Int) * 2) = (k : Int) * 2 := i64_in (by constructor <;> omega)
 by_cases hlt : k < m
 · have hltI : (k : Int) < (m : Int) := by omega
   have hf : f ≠ 0 := by
    rintro rfl
    have : j = 20 := by omega
    subst this
    omega
   obtain ⟨f', rfl⟩ : ∃ f', f = f' + 1 := ⟨f - 1, by omega⟩
   have hc2 : Hid (cutF f' n (k * 2) = cutN n) := zH (by rw [← hc, cutF, hm, if_pos hlt])
   have hk2 : Hid (k * 2 = 2 ^ (j + 1)) := zH (by rw [Nat.pow_succ, hkj])
   replace hm := zH hm
   clear hc hkj hf
   go_wp2_with fail
   exact ⟨⟨f', j + 1, k * 2, by simp, by omega, by have := hm.out; omega, hk2.out, by omega, hc2.out, hb⟩, by have := hm.out; simp [intOf]; omega⟩
 · have hltI : ¬ (k : Int) < (m : Int) := by omega
   have hkN : Hid (k = N) := zH (by
    rw [← hN.out, ← hc]
    cases f with
    | zero => rfl
    | succ f => rw [cutF, hm, if_neg hlt])
   clear hc hkj hm
   go_wp2_with fail
   go_ret
   exact ⟨by rw [hkN.out]; rfl, hb⟩
theorem Sl.headG {w : World} {b o n c m : Nat} {vs : List Value} (h : Sl w (.slice (some ⟨b, o, none⟩) n c) vs) (hm : m ≤ vs.length) : Sl w (.slice (some ⟨b, o, none⟩) m c) (vs.take m) := by
 obtain ⟨a', c', h1, h2, h3, h4, h5⟩ := h
 simp only [Value.slice.injEq] at h1
 obtain ⟨rfl, -, rfl⟩ := h1
 have hl : (vs.take m).length = m := by rw [List.length_take]; omega
 refine ⟨_, c, by rw [hl], by rw [hl]; omega, h3, h4, fun x hx j u hu => h5 x hx j u ?_⟩
 have hj : j < m := by
  have := (List.getElem?_eq_some_iff.1 hu).1
  rwa [hl] at this
 rw [← hu]
 simp [hj]
theorem Sl.tailG {w : World} {b o n c m : Nat} {vs : List Value} (h : Sl w (.slice (some ⟨b, o, none⟩) n c) vs) (hm : m ≤ vs.length) : Sl w (.slice (some ⟨b, o + m, none⟩) (n - m) (c - m)) (vs.drop m) := by
 obtain ⟨a', c', h1, h2, h3, h4, h5⟩ := h
 simp only [Value.slice.injEq] at h1
 obtain ⟨rfl, rfl, rfl⟩ := h1
 have hl : (vs.drop m).length = vs.length - m := List.length_drop
 refine ⟨_, c - m, by rw [hl], by rw [hl]; omega, by omega, fun h => (by cases h), fun x hx j u hu => ?_⟩
 cases hx
 have := h5 _ rfl (m + j) u (by rw [← hu]; simp)
 rw [Addr.add_lit] at this ⊢
 rw [Nat.add_assoc]
 exact this
theorem Sls.take {w : World} {b o n c m : Nat} {ls : List (List UInt8)} (h : Sls w (.slice (some ⟨b, o, none⟩) n c) ls) (hm : m ≤ ls.length) : Sls w (.slice (some ⟨b, o, none⟩) m c) (ls.take m) := by
 obtain ⟨vs, h1, h2, h3⟩ := h
 refine ⟨vs.take m, h1.headG zOm, by simp [h2], fun j a b ha hb => ?_⟩
 rw [List.getElem?_take] at ha hb
 split at ha
 · rename_i hj
   rw [if_pos hj] at hb
   exact h3 j a b ha hb
 · cases ha
theorem Sls.drop {w : World} {b o n c m : Nat} {ls : List (List UInt8)} (h : Sls w (.slice (some ⟨b, o, none⟩) n c) ls) (hm : m ≤ ls.length) : Sls w (.slice (some ⟨b, o + m, none⟩) (n - m) (c - m)) (ls.drop m) := by
 obtain ⟨vs, h1, h2, h3⟩ := h
 refine ⟨vs.drop m, h1.tailG zOm, by simp [h2], fun j a b ha hb => ?_⟩
 rw [List.getElem?_drop] at ha hb
 exact h3 _ a b ha hb
def rootF : Nat → List (List UInt8) → Nat
 | _, [] => shaa []
 | _, [b] => leafN b
 | 0, _ => 0
 | f + 1, b1 :: b2 :: ls => nodeN (rootF f ((b1 :: b2 :: ls).take (cutN (b1 :: b2 :: ls).length))) (rootF f ((b1 :: b2 :: ls).drop (cutN (b1 :: b2 :: ls).length)))
theorem rootF_nil (f : Nat) : rootF f [] = shaa [] := by cases f <;> rfl
theorem rootF_one (f : Nat) (b : List UInt8) : rootF f [b] = leafN b := by cases f <;> rfl
theorem rootF_step (f : Nat) (b1 b2 : List UInt8) (ls : List (List UInt8)) : rootF (f + 1) (b1 :: b2 :: ls) = nodeN (rootF f ((b1 :: b2 :: ls).take (cutN (b1 :: b2 :: ls).length))) (rootF f ((b1 :: b2 :: ls).drop (cutN (b1 :: b2 :: ls).length))) := rfl
def rootN (ls : List (List UInt8)) : Nat := rootF ls.length ls
theorem root0_any (d : Option Addr) (c : Nat) (w : World) :
 Calls Tryz.prog 85 #[.slice d 0 c] w fun e w' => e = .returned (.agg (bytn 32 (shaa [])).toArray) ∧ Below w.heap.size w w' := by
 have cS := zH (fun (w : World) => show Calls Tryz.prog 20 #[.slice none 0 0] w fun e w' => e = .returned (.agg (bytn 32 (shaa [])).toArray) ∧ Below w.heap.size w w' from shsuma_any none 0 [] w ⟨[], Sl.nil _, rfl, fun j a b ha => by cases ha⟩)
 obtain ⟨N, hN⟩ : ∃ N, shaa [] = N := ⟨_, rfl⟩
 rw [hN] at cS ⊢
 clear hN
 go_enter Tryz.func85, Tryz.ntmps85
 go_upto_region 1 with fail
 refine wp_new1 (fun W hsz k2 kb => ?_)
 replace k2 : Arr W w.heap.size (bytn 32 0) := k2
 clear hsz
 go_wp2_with fail
 refine (cS.out _).mono ?_
 rintro e w_6 ⟨rfl, hb_6⟩
 have k2 := k2.below hb_6
 have kb := bel kb hb_6
 clear hb_6
 go_wp2_with (refine zSt ?_)
 exact bodyPost_ret (results_arr2 Tryz.results85 _ _ _ rfl zKr _ (by first | assumption | exact Arr.setRow zAm _) zLn) rfl ⟨rfl, below_setRow kb (Nat.le_refl _) _⟩
theorem root1_any (d : Option Addr) (c : Nat) (L : List UInt8) (w : World) (h : Sls w (.slice d 1 c) [L]) :
 Calls Tryz.prog 85 #[.slice d 1 c] w fun e w' => e = .returned (.agg (bytn 32 (leafN L)).toArray) ∧ Below w.heap.size w w' := by
 obtain ⟨b, o, x, cx, rfl, -, -⟩ := h.at (j := 0) (by simp)
 have cL := zH (fun (w : World) x cx (h : Sl w (.slice x L.length cx) (u8s L)) => leaf_any x L.length cx L w h)
 obtain ⟨N, hN⟩ : ∃ N, leafN L = N := ⟨_, rfl⟩
 obtain ⟨n, hn⟩ : ∃ N, L.length = N := ⟨_, rfl⟩
 rw [hN, hn] at cL
 rw [hN]
 replace h := zH h
 replace hn := zH hn
 clear hN
 go_enter Tryz.func85, Tryz.ntmps85
 go_upto_region 1 with fail
 refine wp_new1 (fun W hsz k2 kb => ?_)
 replace k2 : Arr W w.heap.size (bytn 32 0) := k2
 clear hsz
 obtain ⟨b', o', x', cx', hE, hcell, hL⟩ := (h.out.below kb).at (j := 0) (by simp)
 cases hE
 replace hcell : W.cell? ⟨b, o, none⟩ = some (.slice x' n cx') := by rw [← hn.out]; exact hcell
 replace hL : Hid (Sl W (.slice x' n cx') (u8s L)) := zH (by rw [← hn.out]; exact hL)
 go_wp2_with fail
 refine (cL.out _ _ _ hL.out).mono ?_
 rintro e w_7 ⟨rfl, hb_7⟩
 have k2 := k2.below hb_7
 have kb := bel kb hb_7
 clear hb_7
 go_wp2_with (refine zSt ?_)
 exact bodyPost_ret (results_arr2 Tryz.results85 _ _ _ rfl zKr _ (by first | assumption | exact Arr.setRow zAm _) zLn) rfl ⟨rfl, below_setRow kb (Nat.le_refl _) _⟩
theorem root2_any (b o n c k x y : Nat) (ls : List (List UInt8)) (hn : ls.length = n) (hn2 : 2 ≤ n) (hn3 : n ≤ 100000) (hk : cutN n = k) (w : World) (h : Sls w (.slice (some ⟨b, o, none⟩) n c) ls)
 (cA : ∀ w', Sls w' (.slice (some ⟨b, o, none⟩) k c) (ls.take k) → Calls Tryz.prog 85 #[.slice (some ⟨b, o, none⟩) k c] w' fun e w'' => e = .returned (.agg (bytn 32 x).toArray) ∧ Below w'.heap.size w' w'')
 (cB : ∀ w', Sls w' (.slice (some ⟨b, o + k, none⟩) (n - k) (c - k)) (ls.drop k) → Calls Tryz.prog 85 #[.slice (some ⟨b, o + k, none⟩) (n - k) (c - k)] w' fun e w'' => e = .returned (.agg (bytn 32 y).toArray) ∧ Below w'.heap.size w' w'') :
 Calls Tryz.prog 85 #[.slice (some ⟨b, o, none⟩) n c] w fun e w' => e = .returned (.agg (bytn 32 (nodeN x y)).toArray) ∧ Below w.heap.size w w' := by
 have hkn := cutN_lt hn2
 rw [hk] at hkn
 have cC := zH (fun w => show Calls Tryz.prog 146 #[.int .i64 (n : Int)] w fun e w' => e = .returned (.int .i64 (k : Int)) ∧ Below w.heap.size w w' from by rw [← hk]; exact cut_any n hn2 zOm w)
 have cN := zH (fun w => node_any x y w)
 obtain ⟨-, hnc, hcm⟩ := h.len
 obtain ⟨z, hz⟩ : ∃ z, nodeN x y = z := ⟨_, rfl⟩
 rw [hz] at cN ⊢
 have hA := zH (fun w' (hb : Below w.heap.size w w') => (h.below hb).take (m := k) zOm)
 have hB2 := zH (fun w' (hb : Below w.heap.size w w') => (h.below hb).drop (m := k) zOm)
 replace cA := zH cA
 replace cB := zH cB
 have m0 : (0 : Int) ≤ (k : Int) := by omega
 have m1 : ¬ (k : Int) < 0 := by omega
 have m2 : (k : Int) ≤ (c : Int) := by omega
 have m3 : (k : Int) ≤ (n : Int) := by omega
 have m4 : ¬ c = k := by omega
 have q0 : ¬ (n : Int) = 0 := by omega
 have q1 : ¬ (n : Int) = 1 := by omega
 clear hz hk h hn hn2 hn3 hkn hnc hcm
 go_enter Tryz.func85, Tryz.ntmps85
 go_upto_region 1 with fail
 refine wp_new1 (fun W hsz k2 kb => ?_)
 replace k2 : Arr W w.heap.size (bytn 32 0) := k2
 clear hsz
 go_wp2_with fail
 refine (cC.out _).mono ?_
 rintro e w_8 ⟨rfl, hb_8⟩
 have k2 := k2.below hb_8
 have kb := bel kb hb_8
 clear hb_8
 go_upto_region 7 with fail
 refine Tx.start (fun w' => Below (w_8).heap.size (w_8) w') 9 10 rfl zKr ?_
 have hS_9 : Below (w_8).heap.size (w_8) (World.drew w_8) := (Below.refl _ _).drew
 refine Tx.seg (A := ?_) 4 119 zKr (by exact hS_9) [0, 1, 2, 4, 5, 6] zKr ?_ ?_
 rotate_left
 · intro w' hB
   exact zRd
 refine Tx.eff 3 127 rfl zDk (fun K hK => ?_)
 go_simp
 refine (cA.out _ (hA.out _ (bel kb hS_9))).mono ?_
 rintro e w_10 ⟨rfl, hb_10⟩
 have hS_10 := ext_trans hS_9 (Nat.le_refl _) hb_10
 refine hK (fun w' => Below (w_8).heap.size (w_8) w') _ _ hS_10 (fun _ h => h) ?_
 clear hK K hb_10 hS_9
 try simp only [Act.put, zSa, zSz, zSs]
 refine Tx.eff 7 255 rfl zDk (fun K hK => ?_)
 go_simp
 refine (cB.out _ (hB2.out _ (bel kb hS_10))).mono ?_
 rintro e w_11 ⟨rfl, hb_11⟩
 have hS_11 := ext_trans hS_10 (Nat.le_refl _) hb_11
 refine hK (fun w' => Below (w_8).heap.size (w_8) w') _ _ hS_11 (fun _ h => h) ?_
 clear hK K hb_11 hS_10
 try simp only [Act.put, zSa, zSz, zSs]
 refine Tx.eff 8 511 rfl zDk (fun K hK => ?_)
 go_simp
 refine (cN.out _).mono ?_
 rintro e w_12 ⟨rfl, hb_12⟩
 have hS_12 := ext_trans hS_11 (Nat.le_refl _) hb_12
 refine hK (fun w' => Below (w_8).heap.size (w_8) w') _ _ hS_12 (fun _ h => h) ?_
 clear hK K hb_12 hS_11
 try simp only [Act.put, zSa, zSz, zSs]
 have k2 := k2.below hS_12
 have kb := bel kb hS_12
 refine Tx.bar 1023 rfl zDk (fun K hK => ?_)
 refine step_store_arr rfl _ _ _ rfl _ _ rfl rfl _ zAm zLn zLm zOn ?_
 refine hK (fun _ => True) 9999 _ _ ?_
 clear hK K
 try simp only [Act.put]
 try simp only [zSa, zSz, zSs]
 refine Tx.done zKr ?_
 refine then_row k2 (fun w_13 k2 hoth hbel => ?_)
 have kb := hbel _ _ zOm kb
 clear hoth hbel
 go_wp2_with fail
 exact bodyPost_ret (results_arr2 Tryz.results85 _ _ _ rfl zKr _ (by first | assumption | exact Arr.setRow zAm _) zLn) rfl ⟨rfl, kb⟩
theorem rootF_any : ∀ (f : Nat) (ls : List (List UInt8)), ls.length ≤ f → ls.length ≤ 100000 → ∀ (d : Option Addr) (c : Nat) (w : World), Sls w (.slice d ls.length c) ls →
 Calls Tryz.prog 85 #[.slice d ls.length c] w fun e w' => e = .returned (.agg (bytn 32 (rootF f ls)).toArray) ∧ Below w.heap.size w w'
 | f, [], _, _, d, c, w, _ => by
  rw [rootF_nil]
  exact root0_any d c w
 | f, [b], _, _, d, c, w, h => by
  rw [rootF_one]
  exact root1_any d c b w h
 | 0, b1 :: b2 :: ls, h0, _, _, _, _, _ => by simp at h0
 | f + 1, b1 :: b2 :: ls, h0, h1, d, c, w, h => by
  obtain ⟨L, hL⟩ : ∃ L, b1 :: b2 :: ls = L := ⟨_, rfl⟩
  have hl2 : 2 ≤ L.length := by rw [← hL]; simp
  have hr : rootF (f + 1) (b1 :: b2 :: ls) = nodeN (rootF f (L.take (cutN L.length))) (rootF f (L.drop (cutN L.length))) := by subst hL; exact rootF_step f b1 b2 ls
  rw [hr]
  rw [hL] at h h0 h1 ⊢
  obtain ⟨b, o, x, cx, rfl, -, -⟩ := h.at (j := 0) zOm
  have hc := cutN_lt hl2
  have e1 : (L.take (cutN L.length)).length = cutN L.length := by rw [List.length_take]; omega
  have e2 : (L.drop (cutN L.length)).length = L.length - cutN L.length := List.length_drop
  refine root2_any b o L.length c (cutN L.length) _ _ L rfl hl2 h1 rfl w h (fun w' h' => ?_) (fun w' h' => ?_)
  · have q := rootF_any f (L.take (cutN L.length)) zOm zOm (some ⟨b, o, none⟩) c w' (by rw [e1]; exact h')
    rwa [e1] at q
  · have q := rootF_any f (L.drop (cutN L.length)) zOm zOm (some ⟨b, o + cutN L.length, none⟩) (c - cutN L.length) w' (by rw [e2]; exact h')
    rwa [e2] at q
theorem root_any (ls : List (List UInt8)) (hl : ls.length ≤ 100000) (d : Option Addr) (c : Nat) (w : World) (h : Sls w (.slice d ls.length c) ls) :
 Calls Tryz.prog 85 #[.slice d ls.length c] w fun e w' => e = .returned (.agg (bytn 32 (rootN ls)).toArray) ∧ Below w.heap.size w w' := rootF_any _ ls (Nat.le_refl _) hl d c w h
open Go.RowKit Go.Shelf
attribute [local go_sem] Oper.semAt_some
def pieceN (L k : Nat) : Nat := min 64 (L - 64 * k)
def piecesN (L : Nat) : Nat := (L + 63) / 64
def KpC (n₁ Bs Bn : Nat) (W W' : World) : Prop := Below n₁ W W' ∧ W'.heap[Bs]? = W.heap[Bs]? ∧ W'.heap[Bn]? = W.heap[Bn]?
theorem KpC.refl (n₁ Bs Bn : Nat) (W : World) : KpC n₁ Bs Bn W W := ⟨Below.refl _ _, rfl, rfl⟩
theorem KpC.trans {n₁ Bs Bn : Nat} {A B C : World} (h : KpC n₁ Bs Bn A B) (k : KpC n₁ Bs Bn B C) : KpC n₁ Bs Bn A C := ⟨h.1.trans k.1, k.2.1.trans h.2.1, k.2.2.trans h.2.2⟩
theorem KpC.drew {n₁ Bs Bn : Nat} {A B : World} (h : KpC n₁ Bs Bn A B) : KpC n₁ Bs Bn A B.drew := ⟨h.1.drew, h.2.1, h.2.2⟩
theorem KpC.s {n₁ Bs Bn : Nat} {A B : World} (h : KpC n₁ Bs Bn A B) : B.cell? ⟨Bs, 0, none⟩ = A.cell? ⟨Bs, 0, none⟩ := World.cell?_of_block h.2.1
theorem KpC.n {n₁ Bs Bn : Nat} {A B : World} (h : KpC n₁ Bs Bn A B) : B.cell? ⟨Bn, 0, none⟩ = A.cell? ⟨Bn, 0, none⟩ := World.cell?_of_block h.2.2
theorem chunk1_in (n : Nat) (hn : 1 ≤ n) (l Bs Bn n₀ b off L cap : Nat) (hL : L ≤ 100000) (hLc : L ≤ cap) (J Jx : List Nat → World → Prop) (A : Nat) (hJ : AbidesFrom A J)
 (hY : ∀ pre x W, J pre W → pre.length < piecesN L → YieldAt Fence.wide (n - 1) Tryz.prog l #[.slice (some ⟨b, off + 64 * x, none⟩) (pieceN L x) (pieceN L x)] W fun e W' =>
  (e = .returned (.bool true) ∧ J (pre ++ [x]) W' ∧ KpC n₀ Bs Bn W W') ∨ (e = .returned (.bool false) ∧ Jx (pre ++ [x]) W'))
 (W : World) (hBs : W.cell? ⟨Bs, 0, none⟩ = some (.slice (some ⟨b, off, none⟩) L cap)) (hBn : W.cell? ⟨Bn, 0, none⟩ = some (.int .i64 64)) (h0 : J [] W) :
 CallsIn Fence.wide n Tryz.prog 237 #[.func (.yield l) #[] #[], .pointer (some ⟨Bs, 0, none⟩), .pointer (some ⟨Bn, 0, none⟩)] W fun e W' => (∃ v, e = .returned v) ∧
  ((∃ ys, ys = List.range (piecesN L) ∧ J ys W') ∨ (∃ pre, (∃ k, k ≤ piecesN L ∧ pre = List.range k) ∧ Jx pre W')) := by
 refine callsIn_of_wp Tryz.func237 rfl trivial ?_ rfl
 simp only [Tryz.ntmps237, List.size_toArray, List.length_cons, List.length_nil, Nat.reduceAdd, Nat.reduceSub, Array.replicate_succ, Array.replicate_zero, List.push_toArray, List.append_toArray, List.nil_append, List.cons_append]
 gi_wp2
 gi_loopw [4] (fun i wr => ∃ k : Nat, k ≤ piecesN L ∧ i = .int .i64 ((64 * k : Nat) : Int) ∧ J (List.range k) wr ∧ KpC n₀ Bs Bn W wr)
  (fun i _ => piecesN L - (intOf i).toNat / 64)
 case atStart => exact ⟨0, Nat.zero_le _, rfl, h0, KpC.refl _ _ _ _⟩
 case round =>
  obtain ⟨k, hk, rfl, hJs, hnx⟩ := hrel
  have hcs : wr.cell? ⟨Bs, 0, none⟩ = some (.slice (some ⟨b, off, none⟩) L cap) := hnx.s.trans hBs
  have hcn : wr.cell? ⟨Bn, 0, none⟩ = some (.int .i64 64) := hnx.n.trans hBn
  have hKL : Hid (piecesN L = (L + 63) / 64) := zH rfl
  obtain ⟨K, hK⟩ : ∃ K, piecesN L = K := ⟨_, rfl⟩
  obtain ⟨m, hm⟩ : ∃ m, pieceN L k = m := ⟨_, rfl⟩
  have hmm : Hid (m = min 64 (L - 64 * k)) := zH hm.symm
  have hY' := hY (List.range k) k wr.drew (hJ _ _ _ none hJs (grownBy_drew (World.grownBy.refl wr _)) (fun r h => by cases h))
  rw [List.length_range, hm] at hY'
  obtain ⟨q, hq⟩ : ∃ q, 64 * k = q := ⟨_, rfl⟩
  have hqk : Hid (64 * k = q) := zH hq
  rw [hq] at hY' ⊢
  rw [hK] at hk hY' hKL ⊢
  by_cases hlt : q < L
  · have hltI : (q : Int) < (L : Int) := by omega
    obtain ⟨fn, tmps, assign, body, hy, hR⟩ := hY' (by have := hKL.out; omega)
    have hnd := hnx.drew
    have hcsd : wr.drew.cell? ⟨Bs, 0, none⟩ = some (.slice (some ⟨b, off, none⟩) L cap) := hnd.s.trans hBs
    obtain ⟨x, hx⟩ : ∃ x, q + m = x := ⟨_, rfl⟩
    have hxI : (q : Int) + (m : Int) = (x : Int) := by omega
    have x0 : ¬ (x : Int) < 0 := by omega
    have x1 : (0 : Int) ≤ (x : Int) := by omega
    have x2 : (q : Int) ≤ (x : Int) := by omega
    have x3 : (x : Int) ≤ (cap : Int) := by have := hmm.out; have := hqk.out; omega
    have x4 : x - q = m := by omega
    have x5 : ¬ x = q := by have := hmm.out; have := hqk.out; omega
    have x6 : x ≤ 100000 := by have := hmm.out; omega
    have ew : IntKind.i64.wrap (x : Int) = (x : Int) := i64_in (by constructor <;> omega)
    have q0 : (0 : Int) ≤ (q : Int) := by omega
    have q1 : ¬ (q : Int) < 0 := by omega
    have q2 : (q : Int) ≤ (L : Int) := by omega
    obtain ⟨r, hr⟩ : ∃ r, L - q = r := ⟨_, rfl⟩
    have hrI : (L : Int) - (q : Int) = (r : Int) := by omega
    have hKP := zH hK
    clear hY' hY hK hm hq hx hLc
    have c1 : (q : Int) ≤ (cap : Int) := by omega
    have c2 : ¬ cap = q := by omega
    have hrm : (if (r : Int) < 64 then (r : Int) else 64) = (m : Int) := by have := hmm.out; have := hqk.out; split <;> omega
    gi_wp2
    refine wpIn_wide.2 ?_
    refine Tx.start (fun w' => w' = wr.drew) 9999 7 rfl zKr ?_
    refine Tx.seg (A := ?_) 0 127 zKr (by exact rfl) [0, 1, 2, 3, 4, 5, 6] zKr ?_ ?_
    rotate_left
    · intro w' hB
      have y1 : w'.cell? ⟨Bs, 0, none⟩ = some (.slice (some ⟨b, off, none⟩) L cap) := by rw [hB]; exact hcsd
      have y2 : w'.cell? ⟨Bn, 0, none⟩ = some (.int .i64 64) := by rw [hB]; exact hnd.n.trans hBn
      exact zRd
    refine Tx.done zKr ?_
    clear hcs hcn hnx hJs hrm hltI hrI c1 c2
    gi_wp2
    refine hR.mono ?_
    clear hy hR ew x0 x1 x2 x3 x4 x5 x6 hxI
    rintro e W3 (⟨rfl, hJ3, hk3⟩ | ⟨rfl, hJx3⟩)
    · have hcn3 : W3.cell? ⟨Bn, 0, none⟩ = some (.int .i64 64) := hk3.n.trans (hnd.n.trans hBn)
      have hlt3 : Hid (q < L) := zH hlt
      obtain ⟨y, hy⟩ : ∃ y, q + 64 = y := ⟨_, rfl⟩
      have hyI : (q : Int) + 64 = (y : Int) := by omega
      have ey : IntKind.i64.wrap (y : Int) = (y : Int) := i64_in (by constructor <;> omega)
      replace hy := zH hy
      clear hlt hcsd
      gi_wp2
      go_roundw
      case rel => exact ⟨k + 1, by have := hKL.out; have := hqk.out; have := hlt3.out; omega, by have := hqk.out; have := hy.out; congr 1; omega, by rw [List.range_succ]; exact hJ3, hnd.trans hk3⟩
      case measure => have := hKL.out; have := hqk.out; have := hlt3.out; have := hy.out; simp [intOf]; omega
    · gi_wp2
      refine bodyPost_ret (results_none rfl _ _ _) rfl ?_
      exact ⟨⟨_, rfl⟩, .inr ⟨_, ⟨k + 1, by have := hKL.out; have := hqk.out; rw [hKP.out]; omega, (List.range_succ).symm⟩, hJx3⟩⟩
  · have hkK : Hid (k = K) := zH (by have := hKL.out; have := hqk.out; omega)
    have hltI : ¬ (q : Int) < (L : Int) := by omega
    clear hY' hY
    gi_wp2
    go_end0
    exact ⟨⟨_, rfl⟩, .inl (by rw [hkK.out] at hJs; exact hJs)⟩
theorem chunk_in (n : Nat) (a : Option Addr) (L c : Nat) (w : World) :
 CallsIn Fence.wide n Tryz.prog 189 #[.slice a L c, .int .i64 64] w fun e w' => e = .returned (.func (.func 237) #[] #[.pointer (some ⟨w.heap.size, 0, none⟩), .pointer (some ⟨w.heap.size + 1, 0, none⟩)]) ∧ w' = (w.alloc (.cells #[.slice a L c] 26)).alloc (.cells #[.int .i64 64] 3) := by
 refine callsIn_of_wp Tryz.func189 rfl trivial ?_ rfl
 simp only [Tryz.ntmps189, List.size_toArray, List.length_cons, List.length_nil, Nat.reduceAdd, Nat.reduceSub, Array.replicate_succ, Array.replicate_zero, List.push_toArray, List.append_toArray, List.nil_append, List.cons_append]
 gi_wp2
 go_ret
 exact ⟨rfl, rfl⟩
theorem chunk_stops (n : Nat) (hn : 1 ≤ n) (Bs Bn n₀ b off L cap : Nat) (hL : L ≤ 100000) (hLc : L ≤ cap) (w : World) (hBs : Bs < w.heap.size) (hBn : Bn < w.heap.size)
 (hs : w.cell? ⟨Bs, 0, none⟩ = some (.slice (some ⟨b, off, none⟩) L cap)) (hn2 : w.cell? ⟨Bn, 0, none⟩ = some (.int .i64 64)) :
 SeqStopsK Fence.wide n Tryz.prog 237 #[.pointer (some ⟨Bs, 0, none⟩), .pointer (some ⟨Bn, 0, none⟩)] (fun x : Nat => #[.slice (some ⟨b, off + 64 * x, none⟩) (pieceN L x) (pieceN L x)]) (KpC n₀ Bs Bn)
  (fun ys => ys = List.range (piecesN L)) (fun pre => ∃ k, k ≤ piecesN L ∧ pre = List.range k) (piecesN L) w := fun l J Jx W hW hJ _ hY h0 =>
 chunk1_in n hn l Bs Bn n₀ b off L cap hL hLc J Jx _ hJ hY W ((hW.cell (p := ⟨Bs, 0, none⟩) hBs).trans hs) ((hW.cell (p := ⟨Bn, 0, none⟩) hBn).trans hn2) h0
theorem tagB_u8s (k n : Nat) (bs side : List UInt8) : bytn 16 (tagN k n bs side) = u8s (tagB k n bs side) := bytn_u8s _ _
theorem tagB_len (k n : Nat) (bs side : List UInt8) : (tagB k n bs side).length = 16 := by simp [tagB, digs_len]
def SRet (S : List UInt8) (w : World) (e : Ending) (w' : World) : Prop := ∃ g c, e = .returned (.slice (some ⟨g, 0, none⟩) S.length c) ∧ Sl w' (.slice (some ⟨g, 0, none⟩) S.length c) (u8s S) ∧ Below w.heap.size w w'
end Go.Proofs.YtibdgkhkhmdihaaGreatDoor
