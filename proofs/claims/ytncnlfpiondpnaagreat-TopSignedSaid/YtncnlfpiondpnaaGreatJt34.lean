/- TopSigned: part 34 of its proof: lemmas and contracts, each with its conditions in its own statement; the last part holds the law itself. -/
import Derived.Test.YtncnlfpiondpnaaGreatJt33
import Derived.Deep.RegionHeld3
import Derived.Deep.CutRange
import Derived.Deep.CutBlock
import Derived.StillTailTactics

set_option maxHeartbeats 4000000
set_option maxRecDepth 100000
namespace Go.Proofs.YtncnlfpiondpnaaGreat
open Go.RowKit
def erS (b : List UInt8) (o : Nat) : Nat → List UInt8
 | 0 => b
 | j + 1 => erB (erS b o j) (o + 256 * j) 256
theorem erS_len (b : List UInt8) (o : Nat) : ∀ j, (erS b o j).length = b.length
 | 0 => rfl
 | j + 1 => by rw [erS, erB_len, erS_len b o j]
def wrB (b : List UInt8) (o : Nat) (xs : List UInt8) : List UInt8 := prB (erS b o ((xs.length + 255) / 256)) o xs xs.length
theorem wrB_len (b : List UInt8) (o : Nat) (xs : List UInt8) : (wrB b o xs).length = b.length := by rw [wrB, prB_len, erS_len]
theorem same_below {P : Program} {f : FuncId} {args : Array Value} {E : Ending} {w : World} (h : Calls P f args w fun e w' => e = E ∧ w' = w) : Calls P f args w fun e w' => e = E ∧ Below w.heap.size w w' :=
 h.mono fun _ _ h => ⟨h.1, by rw [h.2]; exact Below.refl _ _⟩
structure BkAt (w : World) (b p q g r s : Nat) (c m : Int) (kept : Value) (half : Nat) (dead : Bool) (F : Fl) : Prop where
 bk : Arr w b (bkv p q kept half dead)
 ot : Arr w q (otv (some ⟨p, 0, none⟩) r s c m)
 fl : FlAt w p g F
 bp : b ≠ p
 bq : b ≠ q
 bg : b ≠ g
 qp : q ≠ p
 qg : q ≠ g
 h2 : half < 2
 len : 16384 ≤ F.b.length
theorem BkAt.below {w w' : World} {b p q g r s : Nat} {c m : Int} {kept : Value} {half : Nat} {dead : Bool} {F : Fl} (h : BkAt w b p q g r s c m kept half dead F) (hb : Below w.heap.size w w') : BkAt w' b p q g r s c m kept half dead F :=
 ⟨h.bk.below hb, h.ot.below hb, h.fl.below hb, h.bp, h.bq, h.bg, h.qp, h.qg, h.h2, h.len⟩
theorem bwrite_never (b p q g r s c m h : Nat) (kept : Value) (dead : Bool) (F : Fl) (a : Option Addr) (ca : Nat) (x : List UInt8) (w : World) (k0 : BkAt w b p q g r s (c : Int) (m : Int) kept h dead F) (hop : F.op = -1) (hd : F.dead = false) (hcm : c < m) (hm : m ≤ 1000000) (hx : x.length ≤ 4096) (hs : Sl w (.slice a x.length ca) (u8s x)) (hav : ∀ y, a = some y → y.block ∉ [p, g, q, b]) :
 Calls Tryz.prog 131 #[.pointer (some ⟨b, 0, none⟩), .slice a x.length ca] w fun e w' => e = .returned (.int .i64 0) ∧
  (∃ v F', (v = .slice none 0 0 ↔ a = none) ∧ Sl w' v (u8s x) ∧ F'.b = wrB F.b (8192 * (1 - h)) (recL s ((c + 1 : Nat) : Int) x) ∧ F'.op = -1 ∧ F'.dead = false ∧ BkAt w' b p q g r s ((c + 1 : Nat) : Int) (m : Int) v (1 - h) dead F') ∧ Ch [p, g, q, b] w w' := by
 have h2 := k0.h2
 have hlen := k0.len
 have hpl := k0.fl.lt
 have cS := zH (fun w' (hb : Below w.heap.size w w') => osecret_any q (some ⟨p, 0, none⟩) r s c m w' (k0.ot.below hb))
 have cC := zH (fun w' (hb : Below w.heap.size w w') => same_below (ocount_any q (some ⟨p, 0, none⟩) r s c m w' (k0.ot.below hb)))
 have cR := zH (fun w' (hb : Below w.heap.size w w') => record_any s (c + 1) a ca x zOm hx w' (hs.below hb))
 obtain ⟨R, hR⟩ : ∃ R, recL s ((c + 1 : Nat) : Int) x = R := ⟨_, rfl⟩
 have hRl : Hid (R.length = 52 + x.length) := zH (by rw [← hR, recL_len])
 rw [hR] at cR ⊢
 obtain ⟨L, hL⟩ : ∃ L, x.length = L := ⟨_, rfl⟩
 rw [hL] at cR hs hx hRl ⊢
 have c0 : Hid (∀ w', Below w.heap.size w w' → w'.cell? ⟨b, 1, none⟩ = some (.pointer (some ⟨q, 0, none⟩))) := zH (fun w' hb => (k0.bk.below hb).cell (j := 1) rfl)
 have cc1 : IntKind.i64.wrap ((c : Int) + 1) = ((c + 1 : Nat) : Int) := by rw [i64_in zOm]; omega
 replace hL := zH hL
 replace hR := zH hR
 replace hs := zH hs
 replace hav := zH hav
 replace k0 := zH k0
 replace hop := zH hop
 replace hd := zH hd
 replace hcm := zH hcm
 replace hm := zH hm
 replace hx := zH hx
 replace hlen := zH hlen
 go_enter Tryz.func131, Tryz.ntmps131
 go_upto_region 1 with fail
 refine Tx.start (fun w' => Below (w).heap.size (w) w') 9999 18 rfl zKr ?_
 have hS_1 : Below (w).heap.size (w) (World.drew w) := (Below.refl _ _).drew
 refine Tx.seg (A := ?_) 9 2543 zKr (by exact hS_1) [0, 1, 2, 3, 5, 6, 7, 8, 11] zKr ?_ ?_
 rotate_left
 · intro w' hB
   have f1 := c0.out w' hB
   exact zRd
 refine Tx.eff 4 2559 rfl zDk (fun K hK => ?_)
 go_simp
 refine (cS.out _ hS_1).mono ?_
 rintro e w_2 ⟨rfl, hb_2⟩
 have hS_2 := ext_trans hS_1 (Nat.le_refl _) hb_2
 refine hK (fun w' => Below (w).heap.size (w) w') _ _ hS_2 (fun _ h => h) ?_
 clear hK K hb_2 hS_1
 try simp only [Act.put, zSa, zSz, zSs]
 refine Tx.eff 9 3071 rfl zDk (fun K hK => ?_)
 go_simp
 refine (cC.out _ hS_2).mono ?_
 rintro e w_3 ⟨rfl, hb_3⟩
 have hS_3 := ext_trans hS_2 (Nat.le_refl _) hb_3
 refine hK (fun w' => Below (w).heap.size (w) w') _ _ hS_3 (fun _ h => h) ?_
 clear hK K hb_3 hS_2
 try simp only [Act.put, zSa, zSz, zSs]
 refine Tx.seg (A := ?_) 6 4095 zKr (by exact hS_3) [10] zKr ?_ ?_
 rotate_left
 · intro w' hB
   exact zRd
 have hs3 := (hS_3).size
 refine Tx.eff 12 8191 rfl zDk (fun K hK => ?_)
 go_simp
 refine (cR.out _ hS_3).mono ?_
 rintro e w_4 ⟨v, rfl, ov, hb_4⟩
 have hS_4 := ext_trans hS_3 (Nat.le_refl _) hb_4
 refine hK (fun w' => Below (w).heap.size (w) w') _ _ hS_4 (fun _ h => h) ?_
 clear hK K hS_3
 try simp only [Act.put, zSa, zSz, zSs]
 refine Tx.seg (A := ?_) 0 262143 zKr (by exact hS_4) [13, 14, 15, 16, 17] zKr ?_ ?_
 rotate_left
 · intro w' hB
   exact zRd
 refine Tx.done zKr ?_
 have kb := hS_4
 have ov2 := own_mono ov hs3
 obtain ⟨gv, cv, rfl, hgv, hcv1, hcv2, -⟩ := own_range ov2 (by rw [hRl.out]; omega)
 have hSv := zH (Sl.of_own ov2)
 obtain ⟨n, hn⟩ : ∃ n, R.length = n := ⟨_, rfl⟩
 rw [hn] at hSv ⊢
 have hcv3 : (n : Int) ≤ (cv : Int) := by omega
 have hnn : Hid (n = 52 + L) := zH (by rw [← hn, hRl.out])
 have hn0 : (0 : Int) < (n : Int) := by rw [hnn.out]; omega
 have hn1 : (n : Int) ≤ 4148 := by have := hx.out; rw [hnn.out]; omega
 replace hn := zH hn
 have k1 := zH (k0.out.below kb)
 have hsW := zH (hs.out.below kb)
 have hpl1 : p < gv ∧ g < gv := by have := hpl; omega
 unfold maxLen at hcv2
 have hs0 := hs
 clear ov ov2 hcv1 hs3 hb_4 hS_4 c0 cS cC cR hs
 obtain ⟨w1, hw1⟩ : ∃ w1 : World, w_4 = w1 := ⟨_, rfl⟩
 rw [hw1] at hSv k1 hsW kb ⊢
 have hc1 := zH (Ch.of_below (M := [p, g, q, b]) kb)
 clear hw1
 obtain ⟨h1, hh1⟩ : ∃ h1, 1 - h = h1 := ⟨_, rfl⟩
 have hhI : (1 : Int) - (h : Int) = (h1 : Int) := by omega
 obtain ⟨o, ho⟩ : ∃ o, 8192 * h1 = o := ⟨_, rfl⟩
 have hoI : (h1 : Int) * 32 * 256 = (o : Int) := by omega
 have ho1 : (o : Int) ≤ 8192 := by omega
 have ho0 : (0 : Int) ≤ (o : Int) := by omega
 have hh0 : (0 : Int) ≤ (h1 : Int) := by omega
 have hh2 : (h1 : Int) ≤ 1 := by omega
 have hb3 := k1.out.bk.cell (j := 3) rfl
 have hhh := zH hh1
 have hoo := zH ho
 clear hh1 ho h2
 go_wp2_with fail
 clear hb3 hhI hoI
 have kf := k1.out.fl
 have hcf := Ch.refl [p, g] w1
 have eF : F = { F with b := erS F.b o 0 } := rfl
 rw [eF] at kf
 replace eF := zH eF
 go_loopw [9] (fun iv wr => ∃ (j : Nat) (er : Int), 256 * j ≤ n + 255 ∧ iv = .int .i64 ((256 * j : Nat) : Int) ∧ FlAt wr p g { F with b := erS F.b o j, er := er } ∧ Ch [p, g] w1 wr) (fun iv _ => n + 256 - (intOf iv).toNat)
 case atStart => exact ⟨0, F.er, by omega, rfl, kf, hcf⟩
 case round =>
 clear kf hcf eF
 obtain ⟨j, er, hj, rfl, kf, hcf⟩ := hrel
 obtain ⟨mj, hmj⟩ : ∃ m, 256 * j = m := ⟨_, rfl⟩
 rw [hmj] at hj ⊢
 have hmj0 : (0 : Int) ≤ (mj : Int) := by omega
 by_cases hin : mj < n
 · have hi1 : (mj : Int) < (n : Int) := by omega
   obtain ⟨sj, hsj⟩ : ∃ s, 32 * h1 + j = s := ⟨_, rfl⟩
   obtain ⟨om, hom⟩ : ∃ m, o + mj = m := ⟨_, rfl⟩
   have f1 : (o : Int) + (mj : Int) = (om : Int) := by omega
   have hom0 : (0 : Int) ≤ (om : Int) := by omega
   have f2 : (om : Int) / 256 = (sj : Int) := by have := hoo.out; omega
   have hom1 : (om : Int) ≤ 13000 := by omega
   have cE := zH (ferase_never p g sj { F with b := erS F.b o j, er := er } wr kf hop.out hd.out (by show 256 * sj + 256 ≤ (erS F.b o j).length; rw [erS_len]; have := hlen.out; have := hoo.out; omega))
   have hb0 : wr.cell? ⟨b, 0, none⟩ = some (.pointer (some ⟨p, 0, none⟩)) := (k1.out.bk.ch hcf (by simp; exact ⟨k1.out.bp, k1.out.bg⟩)).cell (j := 0) rfl
   have hsj2 : Hid (256 * sj = o + 256 * j) := zH (by have := hoo.out; omega)
   replace hmj := zH hmj
   clear hsj hom
   go_wp2_with fail
   refine cE.out.mono ?_
   rintro e w2 ⟨rfl, ⟨er2, kf2⟩, hc2⟩
   clear hb0 cE f1 f2
   go_wp2_with fail
   refine ⟨⟨j + 1, er2, by have := hmj.out; omega, by have := hmj.out; congr 1; omega, ?_, hcf.trans hc2⟩, by simp [intOf]; omega⟩
   rw [show erS F.b o (j + 1) = erB (erS F.b o j) (256 * sj) 256 by rw [erS, hsj2.out]]
   exact kf2
 · have dj : decide ((mj : Int) < (n : Int)) = false := decide_eq_false zOm
   have hjK : j = (n + 255) / 256 := by omega
   obtain ⟨F1, hF1⟩ : ∃ F1 : Fl, ({ F with b := erS F.b o j, er := er } : Fl) = F1 := ⟨_, rfl⟩
   rw [hF1] at kf
   have hF1b : Hid (F1.b = erS F.b o ((R.length + 255) / 256)) := zH (by rw [← hF1, hn.out, ← hjK])
   have hF1o : Hid (F1.op = -1 ∧ F1.dead = false) := zH (by rw [← hF1]; exact ⟨hop.out, hd.out⟩)
   have hF1l : Hid (F1.b.length = F.b.length) := zH (by rw [← hF1]; exact erS_len _ _ _)
   have hSv2 := hSv.out.ch hcf (fun y m cc e => by
    simp only [Value.slice.injEq, Option.some.injEq] at e
    obtain ⟨rfl, -⟩ := e
    simp
    omega)
   have cP := fprogram_never p g o F1 (some ⟨gv, 0, none⟩) cv R wr kf hF1o.out.1 hF1o.out.2 (by rw [hF1l.out, hn.out]; have := hlen.out; omega) (by rw [hn.out]; omega) (by rw [hn.out]; exact hSv2) (fun y e => by simp only [Option.some.injEq] at e; subst e; simp; omega)
   rw [hn.out] at cP
   replace cP := zH cP
   have k2b := k1.out.bk.ch hcf (by simp; exact ⟨k1.out.bp, k1.out.bg⟩)
   have k2o := k1.out.ot.ch hcf (by simp; exact ⟨k1.out.qp, k1.out.qg⟩)
   have hc2 := hc1.out.trans (hcf.mono (by simp))
   replace hmj := zH hmj
   clear hF1 hSv2 hcf kf hj hin hmj0 hjK
   obtain ⟨ic, hic⟩ : ∃ ic : Int, (mj : Int) = ic := ⟨_, rfl⟩
   rw [hic] at dj ⊢
   clear hic hmj
   have hb0 := k2b.cell (j := 0) rfl
   go_wp2_with fail
   refine cP.out.mono ?_
   rintro e w3 ⟨rfl, ⟨pr, kf3⟩, hc3⟩
   obtain ⟨F2, hF2⟩ : ∃ F2 : Fl, ({ F1 with b := prB F1.b o R n, pr := pr } : Fl) = F2 := ⟨_, rfl⟩
   rw [hF2] at kf3
   have hF2b : Hid (F2.b = wrB F.b o R) := zH (by rw [← hF2, wrB, ← hF1b.out, hn.out])
   have hF2o : Hid (F2.op = -1 ∧ F2.dead = false) := zH (by rw [← hF2]; exact hF1o.out)
   replace k2b := k2b.ch hc3 (by simp; exact ⟨k1.out.bp, k1.out.bg⟩)
   replace k2o := k2o.ch hc3 (by simp; exact ⟨k1.out.qp, k1.out.qg⟩)
   replace hc2 := hc2.trans (hc3.mono (by simp))
   clear hF2 hc3 hb0 cP dj
   have cT := zH (ostep_never q p g r s c m F2 w3 k2o kf3 hF2o.out.1 hF2o.out.2 hcm.out hm.out k1.out.qp k1.out.qg)
   have hb1 := k2b.cell (j := 1) rfl
   go_wp2_with fail
   refine cT.out.mono ?_
   rintro e w4 ⟨rfl, k4o, kf4, hc4⟩
   replace k2b := k2b.ch hc4 (by simp; exact ⟨k1.out.bp, k1.out.bq⟩)
   replace hc2 := hc2.trans (hc4.mono (by simp))
   have hs4 : Sl w4 (.slice a L ca) (u8s x) := hs0.out.ch hc2 (fun y m cc e => by
    simp only [Value.slice.injEq] at e
    exact hav.out y e.1)
   have cC := zH (clone_any _ x w4 hs4 (by rw [hL.out]; have := hx.out; omega))
   clear cT hc4 hb1 kf3 k2o
   go_wp2_with fail
   refine cC.out.mono ?_
   rintro e w5 ⟨v5, rfl, o5, hb5, hnil⟩
   obtain ⟨a5, c5, he5, -⟩ := Sl.of_own o5
   rw [u8s_len, hL.out] at he5
   subst he5
   have hnl : (Value.slice a5 L c5 = .slice none 0 0 ↔ a = none) := by
    rw [hnil]
    constructor
    · intro e
      simp only [Value.slice.injEq] at e
      exact e.1
    · intro e
      subst e
      obtain ⟨a', c', h1', h2', -, h4', -⟩ := hs0.out
      simp only [Value.slice.injEq] at h1'
      obtain ⟨e1, e2, e3⟩ := h1'
      have := h4' e1.symm
      rw [u8s_len] at h2' e2
      simp only [Value.slice.injEq, true_and]
      omega
   have hnlH := zH hnl
   have hbw5 := k2b.lt
   replace k2b := k2b.below hb5
   replace k4o := k4o.below hb5
   replace kf4 := kf4.below hb5
   have hc5 : Ch [p, g, q, b] w w5 := hc2.trans (Ch.of_below hb5)
   have ho5 := zH (own_mono (base' := b + 1) o5 zOm)
   have hb2 := k2b.cell (j := 2) rfl
   have hb3 := k2b.cell (j := 3) rfl
   have hf2 := k2b.frozen 2
   have hf3 := k2b.frozen 3
   clear hnil hnl o5 hb5 cC hs4 hc2
   go_wp2_with fail
   go_ret
   have hcw : Ch [b] w5 ((w5.setCell ⟨b, 2, none⟩ (.slice a5 L c5)).setCell ⟨b, 3, none⟩ (.int .i64 (h1 : Int))) := (Ch.of_gr (gr_cell w5 b 2 _) (by simp)).trans (Ch.of_gr (gr_cell _ b 3 _) (by simp))
   refine ⟨rfl, ⟨.slice a5 L c5, F2, hnlH.out, ?_, by rw [hF2b.out, hhh.out, hoo.out], hF2o.out.1, hF2o.out.2, ⟨?_, ?_, ?_, k1.out.bp, k1.out.bq, k1.out.bg, k1.out.qp, k1.out.qg, by omega, ?_⟩⟩, hc5.trans (hcw.mono (by simp))⟩
   · refine (Sl.of_own ho5.out).ch hcw (fun y m cc e => ?_)
     have := own_block ho5.out y.block (by rw [e]; rfl)
     simp
     omega
   · rw [hhh.out]
     exact (k2b.set 2 (.slice a5 L c5)).set 3 (.int .i64 (h1 : Int))
   · exact k4o.ch hcw (by simp; exact Ne.symm k1.out.bq)
   · exact kf4.ch hcw (by simp; exact Ne.symm k1.out.bp) (by simp; exact Ne.symm k1.out.bg)
   · rw [hF2b.out, wrB_len]
     exact hlen.out
theorem begin_fresh (b p q g r s m : Nat) (F : Fl) (w : World) (k0 : BkAt w b p q g r s 0 (m : Int) (.slice none 0 0) 0 false F) (hop : F.op = -1) (hd : F.dead = false) (hm0 : 0 < m) (hm : m ≤ 1000000) (hf : Unmarked F) :
 Calls Tryz.prog 95 #[.pointer (some ⟨b, 0, none⟩)] w fun e w' => e = .returned (.int .i64 0) ∧
  (∃ F', F'.b = wrB F.b 0 (recL s 1 []) ∧ F'.op = -1 ∧ F'.dead = false ∧ BkAt w' b p q g r s 1 (m : Int) (.slice none 0 0) 0 false F') ∧ Ch [p, g, q, b] w w' := by
 have hI0 : ((0 : Nat) : Int) = 0 := rfl
 have cC := zH (fun w' (hb : Below w.heap.size w w') => same_below (ocount_any q (some ⟨p, 0, none⟩) r s 0 m w' (k0.ot.below hb)))
 have cM := zH (fun w' (hb : Below w.heap.size w w') => same_below (omost_any q (some ⟨p, 0, none⟩) r s 0 m w' (k0.ot.below hb)))
 have cH := zH (fun num w' (hb : Below w.heap.size w w') => has_none b p q g r s 0 m num (.slice none 0 0) 0 false F w' (k0.bk.below hb) (k0.ot.below hb) (k0.fl.below hb) hd k0.len hf)
 have c0 : Hid (∀ w', Below w.heap.size w w' → w'.cell? ⟨b, 1, none⟩ = some (.pointer (some ⟨q, 0, none⟩))) := zH (fun w' hb => (k0.bk.below hb).cell (j := 1) rfl)
 have hne : ((0 : Int) == (m : Int)) = false := by simp; omega
 have hne2 : ((m : Int) == 0) = false := by simp; omega
 replace k0 := zH k0
 replace hop := zH hop
 replace hd := zH hd
 replace hm := zH hm
 replace hm0 := zH hm0
 have kb := Below.refl w.heap.size w
 have h1 := c0.out w kb
 clear hf hI0
 go_enter Tryz.func95, Tryz.ntmps95
 go_wp2_with fail
 refine (cC.out _ kb).mono ?_
 rintro e w1 ⟨rfl, hb⟩
 replace kb := bel kb hb
 clear hb h1
 have h1 := c0.out w1 kb
 go_wp2_with fail
 refine (cM.out _ kb).mono ?_
 rintro e w2 ⟨rfl, hb⟩
 replace kb := bel kb hb
 clear hb h1
 go_wp2_with fail
 refine (cH.out 1 _ kb).mono ?_
 rintro e w3 ⟨rfl, hb⟩
 replace kb := bel kb hb
 clear hb
 go_wp2_with fail
 refine (cH.out 0 _ kb).mono ?_
 rintro e w4 ⟨rfl, hb⟩
 replace kb := bel kb hb
 have k4 := k0.out.below kb
 have h3 := k4.bk.cell (j := 3) rfl
 have f3 := k4.bk.frozen 3
 have hc4 := zH (Ch.of_below (M := [p, g, q, b]) kb)
 clear hb cC cM cH c0 hne hne2 kb
 have h2 := k4.bk.cell (j := 2) rfl
 have h2' : (w4.setCell ⟨b, 3, none⟩ (.int .i64 1)).cell? ⟨b, 2, none⟩ = some (.slice none 0 0) := (k4.bk.set 3 (.int .i64 1)).cell (j := 2) rfl
 have hcs : Ch [b] w4 (w4.setCell ⟨b, 3, none⟩ (.int .i64 1)) := Ch.of_gr (gr_cell w4 b 3 _) (by simp)
 have k5 : BkAt (w4.setCell ⟨b, 3, none⟩ (.int .i64 1)) b p q g r s ((0 : Nat) : Int) (m : Int) (.slice none 0 0) 1 false F :=
  ⟨k4.bk.set 3 (.int .i64 1), k4.ot.ch hcs (by simp; exact Ne.symm k4.bq), k4.fl.ch hcs (by simp; exact Ne.symm k4.bp) (by simp; exact Ne.symm k4.bg), k4.bp, k4.bq, k4.bg, k4.qp, k4.qg, by decide, k4.len⟩
 have cW := zH (show Calls Tryz.prog 131 #[.pointer (some ⟨b, 0, none⟩), .slice none 0 0] (w4.setCell ⟨b, 3, none⟩ (.int .i64 1)) _ from bwrite_never b p q g r s 0 m 1 (.slice none 0 0) false F none 0 [] _ k5 hop.out hd.out hm0.out hm.out zDc (Sl.nil _) (fun y e => by cases e))
 have hc5 := zH (hc4.out.trans (hcs.mono (by simp)))
 clear k4 k5 hcs hc4 h2
 go_wp2_with fail
 refine cW.out.mono ?_
 rintro e w5 ⟨rfl, ⟨v, F', hv, -, hb, ho, hde, kk⟩, hc⟩
 obtain rfl := hv.2 (by simp)
 have hbH := zH hb
 have hoH := zH ho
 have hdH := zH hde
 clear h3 f3 h2' hv hb ho hde cW
 go_wp2_with fail
 go_ret
 exact ⟨rfl, ⟨F', hbH.out, hoH.out, hdH.out, kk⟩, hc5.out.trans hc⟩
theorem bload_nil (b p q g r s : Nat) (c m : Int) (half : Nat) (dead : Bool) (F : Fl) (w : World) (k0 : BkAt w b p q g r s c m (.slice none 0 0) half dead F) :
 Calls Tryz.prog 47 #[.pointer (some ⟨b, 0, none⟩)] w fun e w' => e = .returned (.slice none 0 0) ∧ w' = w := by
 have h2 := k0.bk.cell (j := 2) rfl
 clear k0
 go_enter Tryz.func47, Tryz.ntmps47
 go_wp2_with fail
 refine (clone_nil _).mono ?_
 rintro e w1 ⟨rfl, hw⟩
 obtain rfl : w = w1 := hw.symm
 go_wp2_with fail
 go_ret
 exact ⟨rfl, rfl⟩
def BkNew (p q g r s m : Nat) (F : Fl) (w : World) (e : Ending) (w' : World) : Prop := ∃ b F', e = .returned (.tuple #[.pointer (some ⟨b, 0, none⟩), .int .i64 0]) ∧ w.heap.size ≤ b ∧
 F'.b = wrB F.b 0 (recL s 1 []) ∧ F'.op = -1 ∧ F'.dead = false ∧ BkAt w' b p q g r s 1 (m : Int) (.slice none 0 0) 0 false F' ∧ Ch [p, g, q] w w'
theorem bopen_fresh (p q g r s m : Nat) (F : Fl) (w : World) (ko : Arr w q (otv (some ⟨p, 0, none⟩) r s 0 (m : Int))) (kf : FlAt w p g F) (hqp : q ≠ p) (hqg : q ≠ g) (hlen : 16384 ≤ F.b.length) (hop : F.op = -1) (hd : F.dead = false) (hm0 : 0 < m) (hm : m ≤ 1000000) (hf : Unmarked F) :
 Calls Tryz.prog 45 #[.pointer (some ⟨p, 0, none⟩), .pointer (some ⟨q, 0, none⟩)] w (BkNew p q g r s m F w) := by
 have hpl := kf.lt
 have hql := ko.lt
 obtain ⟨L, hL⟩ : ∃ L, F.b.length / 256 = L := ⟨_, rfl⟩
 have hL64 : (64 : Int) ≤ (L : Int) := by omega
 have cS := zH (fsize_any p g F w kf)
 have cD := zH (fdead_any p g F w kf)
 rw [hL] at cS
 rw [hd] at cD
 have kB : BkAt (w.alloc (.cells #[.pointer (some ⟨p, 0, none⟩), .pointer (some ⟨q, 0, none⟩), .slice none 0 0, .int .i64 0, .bool false] 164)) w.heap.size p q g r s 0 (m : Int) (.slice none 0 0) 0 false F :=
  ⟨Arr.new w _ _, ko.alloc _, kf.below (below_alloc _ _), by omega, by omega, by omega, hqp, hqg, by decide, hlen⟩
 have cB := zH (begin_fresh w.heap.size p q g r s m F _ kB hop hd hm0 hm hf)
 clear kB ko kf hqp hqg hlen hop hd hm0 hm hf hL
 go_enter Tryz.func45, Tryz.ntmps45
 go_wp2_with fail
 refine cS.out.mono ?_
 rintro e w1 ⟨rfl, hw⟩
 obtain rfl : w = w1 := hw.symm
 go_wp2_with fail
 refine cD.out.mono ?_
 rintro e w1 ⟨rfl, hw⟩
 obtain rfl : w = w1 := hw.symm
 clear cS cD
 go_wp2_with fail
 refine cB.out.mono ?_
 rintro e w1 ⟨rfl, ⟨F', hb, ho, hde, kk⟩, hc⟩
 have hcd := zH (Ch.drop (M := [p, g, q]) (Ch.of_below (below_alloc w _)) hc (fun k hk => by
  simp only [List.mem_cons, List.not_mem_nil, or_false] at hk ⊢
  rcases hk with h | h | h | h
  · exact .inl (.inl h)
  · exact .inl (.inr (.inl h))
  · exact .inl (.inr (.inr h))
  · exact .inr zOm))
 have hbH := zH hb
 have hoH := zH ho
 have hdH := zH hde
 clear hb ho hde cB hc
 go_wp2_with fail
 go_ret2
 exact ⟨w.heap.size, F', rfl, Nat.le_refl _, hbH.out, hoH.out, hdH.out, kk, hcd.out⟩
theorem cell_set {w : World} {g o j : Nat} {u u0 : Value} (h : w.cell? ⟨g, o, none⟩ = some u0) : (w.setCell ⟨g, o, none⟩ u).cell? ⟨g, j, none⟩ = if j = o then some u else w.cell? ⟨g, j, none⟩ := by
 by_cases hj : j = o
 · subst hj; rw [if_pos rfl, World.cell?_setCell_same _ _ _ h]
 · rw [if_neg hj, World.cell?_setCell_other _ _ _ _ (fun e => hj (by cases e; rfl))]
theorem bits_and_255 (n : Int) : bits .and .i64 n 255 = n % 256 := by
 unfold bits
 simp only [BitVec.toNat_and]
 have e : (BitVec.ofInt IntKind.i64.bits 255).toNat = 255 := by decide
 rw [e]
 have e2 : (BitVec.ofInt IntKind.i64.bits n).toNat = (n % 18446744073709551616).toNat := by simp [IntKind.bits]
 rw [e2, show (255 : Nat) = 2 ^ 8 - 1 from rfl, Nat.and_two_pow_sub_one_eq_mod _ 8]
 have h0 : 0 ≤ n % 18446744073709551616 := by omega
 rw [IntWalk.i64_in _ zOm]
 omega
theorem be8_low (N : Int) (k : Nat) (hk : k < 8) : bits .and .i64 (N / 2 ^ (8 * k)) 255 % 256 = (((be8 N).getD (7 - k) 0).toNat : Int) := by
 rw [bits_and_255]
 have hl : 7 - k < (be8 N).length := by rw [be8_len]; omega
 have e : (be8 N).getD (7 - k) 0 = (be8 N)[7 - k] := by simp [List.getD, List.getElem?_eq_getElem hl]
 rw [e]
 simp only [be8, List.getElem_map, List.getElem_range]
 rw [show 7 - (7 - k) = k by omega]
 have h0 : 0 ≤ N % 18446744073709551616 := by omega
 have e3 : (UInt8.ofNat ((N % 18446744073709551616).toNat / 2 ^ (8 * k) % 256)).toNat = (N % 18446744073709551616).toNat / 2 ^ (8 * k) % 256 := by simp
 rw [e3]
 have hkk : k = 0 ∨ k = 1 ∨ k = 2 ∨ k = 3 ∨ k = 4 ∨ k = 5 ∨ k = 6 ∨ k = 7 := by omega
 rcases hkk with rfl | rfl | rfl | rfl | rfl | rfl | rfl | rfl <;> simp only [Nat.reduceMul, Nat.reducePow, Int.reducePow, Nat.mul_zero, Nat.pow_zero, Int.pow_zero] <;> omega
def XAt (w : World) (g : Nat) (N : Int) (k : Nat) : Prop := ∀ m, m < 8 → w.cell? ⟨g, m, none⟩ = some (.int .u8 (if 8 - k ≤ m then (((be8 N).getD m 0).toNat : Int) else 0)) ∧ w.frozen? ⟨g, m, none⟩ = false
theorem XAt.start (w : World) (N : Int) : XAt (w.alloc (.cells #[.int .u8 0, .int .u8 0, .int .u8 0, .int .u8 0, .int .u8 0, .int .u8 0, .int .u8 0, .int .u8 0] 203)) w.heap.size N 0 := by
 intro m hm
 refine ⟨?_, World.frozen?_alloc_at _ _ _ _ rfl⟩
 rw [if_neg zOm, World.cell?_alloc_at _ _ _ _ rfl]
 have hkk : m = 0 ∨ m = 1 ∨ m = 2 ∨ m = 3 ∨ m = 4 ∨ m = 5 ∨ m = 6 ∨ m = 7 := by omega
 rcases hkk with rfl | rfl | rfl | rfl | rfl | rfl | rfl | rfl <;> rfl
theorem XAt.step {w : World} {g : Nat} {N : Int} {k : Nat} (h : XAt w g N k) (hk : k < 8) :
 XAt (w.setCell ⟨g, 7 - k, none⟩ (.int .u8 (bits .and .i64 (N / 2 ^ (8 * k)) 255 % 256))) g N (k + 1) := by
 intro m hm
 obtain ⟨h1, h2⟩ := h (7 - k) zOm
 obtain ⟨h3, h4⟩ := h m hm
 refine ⟨?_, (World.frozen?_setCell _ _ _ _).trans h4⟩
 rw [cell_set h1]
 split
 · rename_i e
   subst e
   rw [if_pos zOm, be8_low N k hk]
 · rename_i e
   rw [h3]
   by_cases h5 : 8 - k ≤ m
   · rw [if_pos h5, if_pos zOm]
   · rw [if_neg h5, if_neg zOm]
theorem XAt.done {w : World} {g : Nat} {N : Int} (h : XAt w g N 8) : Sl w (.slice (some ⟨g, 0, none⟩) 8 8) (u8s (be8 N)) := by
 refine ⟨some ⟨g, 0, none⟩, 8, by rw [u8s_len, be8_len], by rw [u8s_len, be8_len]; decide, by decide, fun h => (by cases h), fun x hx => ?_⟩
 cases hx
 intro j u hu
 have hj : j < 8 := by
  have := (List.getElem?_eq_some_iff.1 hu).1
  rwa [u8s_len, be8_len] at this
 have hl : j < (be8 N).length := by rw [be8_len]; exact hj
 have h1 := (h j hj).1
 rw [if_pos zOm] at h1
 rw [Addr.add_lit, Nat.zero_add, h1]
 rw [u8s_get _ _ hl] at hu
 simpa [List.getD, List.getElem?_eq_getElem hl] using hu
theorem shr8 (N : Int) (k : Nat) : N / 2 ^ (8 * k) / 256 = N / 2 ^ (8 * (k + 1)) := by
 rw [Int.ediv_ediv_of_nonneg (Int.pow_nonneg zDc), show 8 * (k + 1) = 8 * k + 8 by omega, Int.pow_add]
 rfl
theorem refInt_sl (vb : Value) (bs : List UInt8) (an : Option Addr) (cn : Nat) (ns : List Int) (w : World) (hb : Sl w vb (u8s bs)) (hn : Sl w (.slice an ns.length cn) (ns.map (.int .i64)))
 (hr : bs.length + 8 * ns.length ≤ 140737488355328) :
 Calls Tryz.prog 73 #[vb, .slice an ns.length cn] w fun e w' =>
  ∃ v, e = .returned v ∧ w'.ownsRow w.heap.size 5 1 v (bs ++ be8s ns).length (u8s (bs ++ be8s ns)) ∧ Below w.heap.size w w' := by
 obtain ⟨i, hi, hz0, hz1, hz2⟩ := info_parts info_u8
 have hn' := zH hn
 have hb' := zH hb
 have hr' := zH hr
 have hlen : ns.length ≤ 9223372036854775807 := by omega
 clear hn hb hr
 go_enter Tryz.func73, Tryz.ntmps73
 go_wp2_with (at_builtin; refine wpList_append_sl rfl _ _ 22 rfl w.heap.size 5 Tryz.underlying22 hi hz0 hz1 hz2 rfl _ 0 [] rfl (World.ownsRow_nil _ _ _ _) _ (u8s bs) rfl hb'.out (u8s_one _) ?c2 ?c3 (Nat.le_refl _) ?_)
 case c2 => have := hr'.out; unfold maxLen; rw [u8s_len]; omega
 case c3 => have := hr'.out; rw [u8s_len]; omega
 intro v1 w1 hown hg
 have hbel : Below w.heap.size w w1 := (Below.refl _ _).grown hg (Nat.le_refl _) (fun k hk => by simp [Value.ownBlock] at hk)
 have hown : w1.ownsRow w.heap.size 5 1 v1 bs.length (u8s bs) := by simpa [u8s_len] using hown
 clear hg
 go_wp2_with fail
 go_loopw [5, 6] (fun v kv wr => ∃ j : Nat, j ≤ ns.length ∧ kv = .int .i64 j ∧ Below w.heap.size w wr ∧ wr.ownsRow w.heap.size 5 1 v (bs ++ be8s (ns.take j)).length (u8s (bs ++ be8s (ns.take j)))) (fun _ kv _ => ns.length - (intOf kv).toNat)
 case atStart => exact ⟨0, Nat.zero_le _, rfl, hbel, by simpa [be8s] using hown⟩
 case round =>
  obtain ⟨j, hj, rfl, hbr, hor⟩ := hrel
  clear hbel hown
  by_cases hlt : j < ns.length
  · obtain ⟨b, o, rfl, -, -, hcap, hcs⟩ := (hn'.out.below hbr).at (by simp; omega)
    have hcell := hcs j (.int .i64 ns[j]) (by simp [List.getElem?_eq_getElem hlt])
    clear hcs
    obtain ⟨wo, rfl⟩ : ∃ wo : World, wo = wr := ⟨_, rfl⟩
    have hor' := zH hor
    clear hor
    go_wp2_with fail
    go_loopw [7, 9] (fun nv kv wr => ∃ k : Nat, k ≤ 8 ∧ kv = .int .i64 (7 - (k : Int)) ∧ nv = .int .i64 (ns[j] / 2 ^ (8 * k)) ∧ Below wo.heap.size wo wr ∧ wo.heap.size < wr.heap.size ∧ XAt wr wo.heap.size ns[j] k) (fun _ kv _ => (intOf kv + 1).toNat)
    case atStart => exact ⟨0, Nat.zero_le _, rfl, by simp, below_alloc _ _, by simp, XAt.start _ _⟩
    case round =>
     obtain ⟨k, hk, rfl, rfl, hbi, hsi, hx⟩ := hrel
     by_cases hk8 : k < 8
     · have h1 : (0 : Int) ≤ 7 - (k : Int) := by omega
       have hx7 := hx (7 - k) zOm
       rw [if_neg zOm] at hx7
       obtain ⟨hx1, hx2⟩ := hx7
       go_wp2_with fail
       refine ⟨⟨k + 1, by omega, by congr 1; omega, by rw [shr8], hbi.setCell (Nat.le_refl _) _, by simpa using hsi, hx.step hk8⟩, by simp [intOf]; omega⟩
     · have hk : k = 8 := by omega
       subst hk
       have hX := zH hx.done
       have hT1 : (bs ++ be8s (ns.take j)).length + 8 ≤ 140737488355328 := by
        have := hr'.out
        simp only [List.length_append, be8s_len, List.length_take]; omega
       have hT2 := zH hT1
       have hor2 := zH (own_below hor'.out hbi)
       have hsz : w.heap.size ≤ wr.heap.size := Nat.le_trans hbr.size hbi.size
       have hb3 : Below w.heap.size w wr := hbr.trans (hbi.mono hbr.size)
       clear hT1 hx hor' hbi
       go_wp2_with (at_builtin; refine wpList_append_sl rfl _ _ 22 rfl w.heap.size 5 Tryz.underlying22 hi hz0 hz1 hz2 rfl _ _ _ rfl hor2.out _ (u8s (be8 ns[j])) rfl hX.out (u8s_one _) ?c2 ?c3 hsz ?_)
       case c2 => have := hT2.out; unfold maxLen; simp [be8_len, u8s_len] at *; omega
       case c3 => have := hT2.out; simp [be8_len, u8s_len] at *; omega
       intro v' w4 hown4 hg4
       have hb4 := below_grown hb3 hor2.out hsz hg4
       clear hb3 hbr hg4
       go_wp2
       go_roundw
       case rel =>
        refine ⟨j + 1, by omega, by go_num, hb4, ?_⟩
        rw [be8s_at ns j hlt, ← List.append_assoc, u8s_append _ (be8 ns[j]), List.length_append]
        rw [u8s_len] at hown4
        simp only [List.length_append] at hown4 ⊢
        exact hown4
       case measure => simp [intOf]; omega
  · have hj' : j = ns.length := by omega
    subst hj'
    rw [List.take_of_length_le (Nat.le_refl _)] at hor
    go_wp2
    go_ret
    exact ⟨_, rfl, hor, hbr⟩
theorem refInt_any (vb vn : Value) (bs : List UInt8) (ns : List Int) (w : World) (hb : Sl w vb (u8s bs)) (hn : Sl w vn (ns.map (.int .i64)))
 (hr : bs.length + 8 * ns.length ≤ 140737488355328) :
 Calls Tryz.prog 73 #[vb, vn] w fun e w' =>
  ∃ v, e = .returned v ∧ w'.ownsRow w.heap.size 5 1 v (bs ++ be8s ns).length (u8s (bs ++ be8s ns)) ∧ Below w.heap.size w w' := by
 obtain ⟨a, cap, rfl, h⟩ := id hn
 rw [List.length_map] at *
 exact refInt_sl vb bs a cap ns w hb hn hr
structure Stt where
 floor : Int
 rev : List Int
 m0 : List UInt8
 d0 : Bool
 t0 : Int
 m1 : List UInt8
 d1 : Bool
 t1 : Int
 act : Int
structure Sv where
 rv : Value
 m0 : Value
 m1 : Value
def ints (l : List Int) : List Value := l.map (.int .i64)
theorem ints_len (l : List Int) : (ints l).length = l.length := by simp [ints]
theorem ints_get {l : List Int} {j : Nat} (h : j < l.length) : (ints l)[j]? = some (.int .i64 l[j]) := by simp [ints, h]
theorem ints_one (l : List Int) : ∀ u ∈ ints l, u.oneCell' = true := by
 intro u hu
 simp only [ints, List.mem_map] at hu
 obtain ⟨x, -, rfl⟩ := hu
 rfl
def Stt.cs (S : Stt) (v : Sv) : List Value := [.int .i64 S.floor, v.rv, v.m0, .bool S.d0, .int .i64 S.t0, v.m1, .bool S.d1, .int .i64 S.t1, .int .i64 S.act]
structure StOk (w : World) (S : Stt) (v : Sv) : Prop where
 rv : Sl w v.rv (ints S.rev)
 m0 : Sl w v.m0 (u8s S.m0)
 m1 : Sl w v.m1 (u8s S.m1)
theorem StOk.below {w w' : World} {S : Stt} {v : Sv} (h : StOk w S v) (hb : Below w.heap.size w w') : StOk w' S v := ⟨h.rv.below hb, h.m0.below hb, h.m1.below hb⟩
structure StOwn (B : Nat) (w : World) (S : Stt) (v : Sv) : Prop where
 rv : w.ownsRow B 3 1 v.rv S.rev.length (ints S.rev)
 m0 : w.ownsRow B 5 1 v.m0 S.m0.length (u8s S.m0)
 m1 : w.ownsRow B 5 1 v.m1 S.m1.length (u8s S.m1)
theorem StOwn.ok {B : Nat} {w : World} {S : Stt} {v : Sv} (h : StOwn B w S v) : StOk w S v := ⟨Sl.of_own h.rv, Sl.of_own h.m0, Sl.of_own h.m1⟩
theorem StOwn.below {B : Nat} {w w' : World} {S : Stt} {v : Sv} (h : StOwn B w S v) (hb : Below w.heap.size w w') : StOwn B w' S v := ⟨own_below h.rv hb, own_below h.m0 hb, own_below h.m1 hb⟩
theorem StOwn.mono {B B' : Nat} {w : World} {S : Stt} {v : Sv} (h : StOwn B w S v) (hb : B' ≤ B) : StOwn B' w S v := ⟨own_mono h.rv hb, own_mono h.m0 hb, own_mono h.m1 hb⟩
theorem StOk.one {w : World} {S : Stt} {v : Sv} (h : StOk w S v) : ∀ u ∈ S.cs v, u.oneCell' = true := by
 obtain ⟨⟨_, _, h1, -⟩, ⟨_, _, h2, -⟩, ⟨_, _, h3, -⟩⟩ := h
 intro u hu
 simp only [Stt.cs, List.mem_cons, List.not_mem_nil, or_false] at hu
 rcases hu with rfl | rfl | rfl | rfl | rfl | rfl | rfl | rfl | rfl <;> first | rfl | (rw [h1]; rfl) | (rw [h2]; rfl) | (rw [h3]; rfl)
def numB (n : Int) : Bool := decide (0 ≤ n) && decide (n ≤ 2147483647)
def slotB (m : List UInt8) (d : Bool) (t : Int) : Bool := if m.length = 0 then (!d && decide (t = 0)) else (decide ((m.length : Int) = 300) && decide (0 ≤ t) && decide (t ≤ 3))
def revP (l : List Int) (j : Nat) : Prop := ∀ i (h : i < l.length), i < j → numB l[i] = true ∧ ∀ h0 : 0 < i, l[i - 1] < l[i]
structure mayP (S : Stt) : Prop where
 floor : numB S.floor = true
 len : S.rev.length ≤ 32
 lo : -1 ≤ S.act
 hi : S.act ≤ 1
 rev : revP S.rev S.rev.length
 a0 : S.act = 0 → S.m0.length ≠ 0 ∧ S.d0 = true
 a1 : S.act = 1 → S.m1.length ≠ 0 ∧ S.d1 = true
 s0 : slotB S.m0 S.d0 S.t0 = true
 s1 : slotB S.m1 S.d1 S.t1 = true
theorem ret_bool {a b : Bool} (h : a = true ↔ b = true) : Ending.returned (.bool a) = .returned (.bool b) := by rw [Bool.eq_iff_iff.2 h]
theorem number_any (n : Int) (w : World) : Calls Tryz.prog 193 #[.int .i64 n] w fun e w' => e = .returned (.bool (numB n)) ∧ w' = w := by
 unfold numB
 by_cases h : 0 ≤ n
 · go_enter Tryz.func193, Tryz.ntmps193
   go_wp2_with fail
   go_ret
   exact ⟨by simp; omega, rfl⟩
 · go_enter Tryz.func193, Tryz.ntmps193
   go_wp2_with fail
   go_ret
   exact ⟨by simp; omega, rfl⟩
theorem slot_any (v : Value) (m : List UInt8) (d : Bool) (t : Int) (w : World) (hm : Sl w v (u8s m)) :
 Calls Tryz.prog 210 #[.agg #[v, .bool d, .int .i64 t]] w fun e w' => e = .returned (.bool (slotB m d t)) ∧ Below w.heap.size w w' := by
 obtain ⟨x, cap, rfl, h2, h3, -, -⟩ := hm
 rw [u8s_len] at *
 unfold maxLen at h3
 by_cases h : m.length = 0
 · have hr : slotB m d t = (!d && decide (t = 0)) := by unfold slotB; rw [if_pos h]
   rw [hr]
   have iw : ((m.length : Nat) : Int) = 0 := by omega
   rw [h]
   go_enter Tryz.func210, Tryz.ntmps210
   go_upto_region 1 with fail
   refine wp_new1 (fun W hsz k1 kb => ?_)
   have e1 := k1.cell (j := 0) rfl
   have e2 := k1.cell (j := 1) rfl
   have e3 := k1.cell (j := 2) rfl
   clear hsz
   cases d with
   | true =>
    go_wp2_with fail
    go_ret
    exact ⟨rfl, kb⟩
   | false =>
    go_wp2_with fail
    go_ret
    exact ⟨ret_bool (by simp), kb⟩
 · have hr : slotB m d t = (decide ((m.length : Int) = 300) && decide (0 ≤ t) && decide (t ≤ 3)) := by unfold slotB; rw [if_neg h]
   rw [hr]
   have iw : ¬ ((m.length : Nat) : Int) = 0 := by omega
   generalize m.length = n at *
   clear hr h
   go_enter Tryz.func210, Tryz.ntmps210
   go_upto_region 1 with fail
   refine wp_new1 (fun W hsz k1 kb => ?_)
   have e1 := k1.cell (j := 0) rfl
   have e2 := k1.cell (j := 1) rfl
   have e3 := k1.cell (j := 2) rfl
   clear hsz
   by_cases c1 : (n : Int) = 300
   · by_cases c2 : 0 ≤ t
     · go_wp2_with fail
       go_ret
       exact ⟨ret_bool (by simp; try omega), kb⟩
     · go_wp2_with fail
       go_ret
       exact ⟨ret_bool (by simp; try omega), kb⟩
   · go_wp2_with fail
     go_ret
     exact ⟨ret_bool (by simp; try omega), kb⟩
end Go.Proofs.YtncnlfpiondpnaaGreat
