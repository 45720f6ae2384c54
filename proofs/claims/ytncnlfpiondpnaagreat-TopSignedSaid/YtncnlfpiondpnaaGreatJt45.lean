/- TopSigned: part 45 of its proof: lemmas and contracts, each with its conditions in its own statement; the last part holds the law itself. -/
import Derived.Test.YtncnlfpiondpnaaGreatJt44
import Derived.OpenShut
import Derived.Test.YtncnlfpiondpnaaGreatRows
import Derived.ProofKit

set_option maxHeartbeats 4000000
set_option maxRecDepth 100000
namespace Go.Proofs.YtncnlfpiondpnaaGreat
open Go.RowKit
theorem mnf_rkey {w : World} {g : Nat} {v b : Int} {root : Nat} {wv : Value} {i : Int} {k R1 s1 R s : Nat} (h : Arr w g (mnfL v b root wv i k R1 s1 R s)) : w.rangeAt g 36 (byts k) := h.range (fun j hj => by
 have e : mnfL v b root wv i k R1 s1 R s = (.int .i64 v :: .int .i64 b :: (bytn 32 root ++ [wv, .int .i64 i])) ++ (byts k ++ (sgL R1 s1 ++ sgL R s)) := by simp [mnfL, crtL]
 rw [e]
 exact get_mid (by simp [bytn_len]) j hj)
theorem topSigned_walk (a0 : Int) (av : Option Addr) (cap : Nat) (bs : List UInt8) (w : World) (_ : (Lit.int .i64 a0).wf = true) (hs : Sl w (.slice av bs.length cap) (u8s bs)) :
 Calls Tryz.prog 3 #[.int .i64 a0, .slice av bs.length cap] w fun e w' => e = .returned (.bool true) ∧ Below w.heap.size w w' := by
 obtain ⟨r, h1⟩ : ∃ n, ofN a0 rootL = n := ⟨_, rfl⟩
 obtain ⟨s, h2⟩ : ∃ n, ofN a0 signerL = n := ⟨_, rfl⟩
 obtain ⟨d, h3⟩ : ∃ n, ofN a0 deviceL = n := ⟨_, rfl⟩
 obtain ⟨k, h4⟩ : ∃ n, ofN a0 keyL = n := ⟨_, rfl⟩
 have hd : d < 256 ^ 32 := by rw [← h3]; exact shaa_lt _
 have cO := zH (fun w => of_any a0 w)
 simp only [ofL, h1, h2, h3, h4] at cO
 have cM := zH (fun w => show Calls Tryz.prog 6 #[.agg (setL r s d k).toArray, .int .i64 4, .int .i64 5, .slice none 0 0] w _ from imanifest_ok r s d k 4 5 none 0 [] zDc zDc zDc zDc hd w (Sl.nil _))
 obtain ⟨n, hn⟩ : ∃ n : Nat, nblk ([] : List UInt8).length = n := ⟨_, rfl⟩
 have hn1 : n = 1 := hn.symm
 obtain ⟨PK, hPK⟩ : ∃ x, pubN s = x := ⟨_, rfl⟩
 obtain ⟨wl, hwl⟩ : ∃ x, wrapB (lmulN d 9) (shaa (nb 32 (ikeyN k 5))) (ikeyN k 5) = x := ⟨_, rfl⟩
 have hwll : wl.length = 80 := by rw [← hwl]; exact wrapB_len _ _ _
 obtain ⟨RT, hRT⟩ : ∃ x, rootN (encB (ikeyN k 5) 5 []) = x := ⟨_, rfl⟩
 obtain ⟨R1, hR1⟩ : ∃ x, sgR r (pcct ++ (be8s [4] ++ nb 32 PK)) = x := ⟨_, rfl⟩
 obtain ⟨s1, hs1⟩ : ∃ x, sgS r (pcct ++ (be8s [4] ++ nb 32 PK)) = x := ⟨_, rfl⟩
 obtain ⟨RS, hRS⟩ : ∃ x, sgR s (mbodyB 5 (n : Int) RT wl 4 PK R1 s1) = x := ⟨_, rfl⟩
 obtain ⟨SS, hSS⟩ : ∃ x, sgS s (mbodyB 5 (n : Int) RT wl 4 PK R1 s1) = x := ⟨_, rfl⟩
 have hB : imanB r s d k 4 5 [] = mpR 5 (n : Int) RT wl 4 PK (nb 32 R1 ++ nb 32 s1) (nb 32 RS ++ nb 32 SS) := by
  rw [← mpR_eq, imanB]
  simp only [hn, hPK, hwl, hRT, hR1, hs1, hRS, hSS]
 rw [hB, hn] at cM
 have cR := zH (fun w g c h => rread_ok 5 (n : Int) RT (some ⟨g, 0, none⟩) c wl hwll 4 PK R1 s1 RS SS zDc zDc zOm zOm zDc zDc w h)
 obtain ⟨OUT, hOUT⟩ : ∃ x, mpR 5 (n : Int) RT wl 4 PK (nb 32 R1 ++ nb 32 s1) (nb 32 RS ++ nb 32 SS) = x := ⟨_, rfl⟩
 rw [hOUT] at cM cR
 have lPK : PK < 256 ^ 32 := by rw [← hPK]; exact encP_lt _
 obtain ⟨RG, hRG⟩ : ∃ x, sgR s bs = x := ⟨_, rfl⟩
 obtain ⟨SG, hSG⟩ : ∃ x, sgS s bs = x := ⟨_, rfl⟩
 have lRG : RG < 256 ^ 32 := by rw [← hRG]; exact encP_lt _
 have lSG : SG < 256 ^ 32 := by rw [← hSG]; exact Nat.lt_trans (Nat.mod_lt _ qN_pos) qN_lt32
 have hver : verP PK RG SG bs = true := by rw [← hPK, ← hRG, ← hSG]; exact ver_sign s bs
 have cS := zH (fun (w : World) g (h : Sls w (.slice (some ⟨g, 0, none⟩) 1 1) [bs]) => show Calls Tryz.prog 8 #[.agg (bytn 32 s).toArray, .slice (some ⟨g, 0, none⟩) 1 1] w fun e w' => e = .returned (.agg (sgL RG SG).toArray) ∧ Below w.heap.size w w' from by
  have q := csign_any s (some ⟨g, 0, none⟩) 1 1 [bs] (by simp) w h
  rw [show [bs].flatten = bs by simp, hRG, hSG, byts_bytn] at q
  exact q)
 have cP := zH (fun w => show Calls Tryz.prog 10 #[.agg (bytn 32 s).toArray] w fun e w' => e = .returned (.agg (byts PK).toArray) ∧ Below w.heap.size w w' from by rw [← byts_bytn, ← hPK]; exact cpublic_any s w)
 have cV := zH (fun (w : World) g (h : Sls w (.slice (some ⟨g, 0, none⟩) 1 1) [bs]) => show Calls Tryz.prog 11 #[.agg (byts PK).toArray, .agg (sgL RG SG).toArray, .slice (some ⟨g, 0, none⟩) 1 1] w fun e w' => e = .returned (.bool true) ∧ Below w.heap.size w w' from by
  have q := cverify_any PK RG SG lPK lRG lSG (some ⟨g, 0, none⟩) 1 1 [bs] (by simp) w h
  rw [show [bs].flatten = bs by simp, hver] at q
  exact q)
 have qe := eq_num (m := PK) (n := PK) (b := true) (decide_eq_true rfl) lPK lPK
 replace qe := zH qe
 have hsl := zH hs
 obtain ⟨L, hL⟩ : ∃ L, bs.length = L := ⟨_, rfl⟩
 rw [hL] at hsl ⊢
 clear h1 h2 h3 h4 hd hn hn1 hPK hwl hRT hR1 hs1 hRS hSS hB hOUT hRG hSG hver lPK lRG lSG hs hwll hL
 go_enter Tryz.func3, Tryz.ntmps3
 go_wp2_with fail
 refine (works_any _).mono ?_
 rintro e w1 ⟨rfl, kb⟩
 by_cases h3 : 300 < (L : Int)
 · go_wp2_with fail
   go_ret
   exact ⟨rfl, kb⟩
 go_wp2_with fail
 refine (cO.out _).mono ?_
 rintro e w2 ⟨rfl, hb⟩
 replace kb := bel kb hb
 clear hb cO
 go_upto_region 5 with (refine wpl_storeG rfl _ _ _ rfl _ (setL r s d k) rfl rfl _ (Arr.new _ _ _) (by rw [setL_len]; kernel_rfl) (by rw [setL_len]; kernel_rfl) (setL_one _ _ _ _) (fun w3 k6 hg hsz => ?_))
 replace kb := bel kb (below_fresh hg)
 obtain ⟨g6, hg6⟩ : ∃ x, w2.heap.size = x := ⟨_, rfl⟩
 rw [hg6] at k6 ⊢
 clear hg hsz hg6
 go_wp2_with (refine wpList_load_arr2 rfl _ _ rfl _ rfl zDk _ k6 (by rw [setL_len]; kernel_rfl) ?_)
 refine (cM.out _).mono ?_
 rintro e w4 ⟨u, dl, cl, rfl, hu, -, hb⟩
 obtain ⟨gu, cu, rfl, -⟩ := own_range hu zDc
 have hSu := zH (Sl.of_own hu)
 replace k6 := k6.below hb
 replace kb := bel kb hb
 clear hu hb cM
 go_wp2_with fail
 refine (cR.out _ _ _ hSu.out).mono ?_
 rintro e w5 ⟨gw, cw, rfl, hb⟩
 replace k6 := k6.below hb
 replace kb := bel kb hb
 clear hb cR hSu
 go_upto_region 7 with (refine wpl_storeG rfl _ _ _ rfl _ (mnfL 5 (n : Int) RT (.slice (some ⟨gw, 0, none⟩) 80 cw) 4 PK R1 s1 RS SS) rfl rfl _ (Arr.new _ _ _) (by rw [mnfL_len]; kernel_rfl) (by rw [mnfL_len]; kernel_rfl) (mnfL_one _ _ _ _ _ _ _ _ _ _ rfl) (fun w6 k10 hg hsz => ?_))
 have hb6 := below_fresh hg
 replace k6 := k6.below hb6
 replace kb := bel kb hb6
 obtain ⟨g10, hg10⟩ : ∃ x, w5.heap.size = x := ⟨_, rfl⟩
 rw [hg10] at k10 ⊢
 clear hg hsz hg10 hb6
 have y6 := setL_s k6
 have hb8 := below_alloc w6 (.cells #[.slice av L cap] 22)
 have hSls := zH (Sls.new1 (hsl.out.below kb) 22)
 go_wp2_with (refine wpList_load_mid2 rfl _ _ rfl _ _ rfl zKr _ y6 (by rw [bytn_len]; kernel_rfl) ?_)
 refine (cS.out _ _ hSls.out).mono ?_
 rintro e w7 ⟨rfl, hb⟩
 replace hb := bel hb8 hb
 replace k6 := k6.below hb
 replace k10 := k10.below hb
 replace kb := bel kb hb
 clear hb hb8 hSls cS y6
 go_upto_region 8 with (refine wpl_storeG rfl _ _ _ rfl _ (sgL RG SG) rfl rfl _ (Arr.new _ _ _) (by rw [sgL_len]; kernel_rfl) (by rw [sgL_len]; kernel_rfl) (sgL_one _ _) (fun w8 k12 hg hsz => ?_))
 have hb9 := below_fresh hg
 replace k6 := k6.below hb9
 replace k10 := k10.below hb9
 replace kb := bel kb hb9
 obtain ⟨g12, hg12⟩ : ∃ x, w7.heap.size = x := ⟨_, rfl⟩
 rw [hg12] at k12 ⊢
 clear hg hsz hg12 hb9
 refine Tx.start (fun w' => Below (w8).heap.size (w8) w') 9999 26 rfl zKr ?_
 have hS_1 : Below (w8).heap.size (w8) (World.drew w8) := (Below.refl _ _).drew
 refine Tx.seg (A := ?_) 25 1 zKr (by exact hS_1) [0] zKr ?_ ?_
 rotate_left
 · intro w' hB
   exact zRd
 refine Tx.eff 1 3 rfl zDk (fun K hK => ?_)
 go_simp
 refine (same_below (numT 0 _)).mono ?_
 rintro e w_2 ⟨rfl, hb_2⟩
 have hS_2 := ext_trans hS_1 (Nat.le_refl _) hb_2
 refine hK (fun w' => Below (w8).heap.size (w8) w') _ _ hS_2 (fun _ h => h) ?_
 clear hK K hb_2 hS_1
 try simp only [Act.put, zSa, zSz, zSs]
 refine Tx.seg (A := ?_) 13 8191 zKr (by exact hS_2) [2, 3, 4, 5, 6, 7, 8, 9, 10, 11, 12] zKr ?_ ?_
 rotate_left
 · intro w' hB
   have y6 := setL_s (k6.below hB)
   have y10 := mnf_rkey (k10.below hB)
   exact zRm
 refine Tx.eff 13 16383 rfl zDk (fun K hK => ?_)
 go_simp
 refine (cP.out _).mono ?_
 rintro e w_3 ⟨rfl, hb_3⟩
 have hS_3 := ext_trans hS_2 (Nat.le_refl _) hb_3
 refine hK (fun w' => Below (w8).heap.size (w8) w') _ _ hS_3 (fun _ h => h) ?_
 clear hK K hb_3 hS_2
 try simp only [Act.put, zSa, zSz, zSs]
 have qe := qe.out
 refine Tx.seg (A := ?_) 4 4194303 zKr (by exact hS_3) [14, 15, 16, 17, 18, 19, 20, 21] zKr ?_ ?_
 rotate_left
 · intro w' hB
   have y10 := mnf_rkey (k10.below hB)
   have y12 := k12.below hB
   have y6 := y10
   exact zRm
 refine Tx.eff 22 8388607 rfl zDk (fun K hK => ?_)
 go_simp
 refine hK (fun w' => Below (w8).heap.size (w8) w') _ _ (ext_trans hS_3 (Nat.le_refl _) (below_alloc _ _)) (fun _ h => h) ?_
 clear hK K
 try simp only [Act.put, zSa, zSz, zSs]
 refine Tx.newF (F := fun w' => Sls w' (.slice (some ⟨(w_3).heap.size, 0, none⟩) 1 1) [bs]) (w0 := w_3) (Sls.new1 (hsl.out.below (bel kb hS_3)) _) (fun w1 h => h.below (Below.refl _ _).drew) (by first | exact .inl rfl | exact .inr rfl) (fun w_4 hR hb_4 => ?_)
 have hS_4 : Below (w8).heap.size (w8) w_4 := by first | exact hb_4 | exact ext_trans hS_3 (Nat.le_refl _) hb_4
 clear hS_3
 refine Tx.eff 23 16777215 rfl zDk (fun K hK => ?_)
 go_simp
 refine (cV.out _ _ hR).mono ?_
 rintro e w_5 ⟨rfl, hb_5⟩
 have hS_5 := ext_trans hS_4 (Nat.le_refl _) hb_5
 refine hK (fun w' => Below (w8).heap.size (w8) w') _ _ hS_5 (fun _ h => h) ?_
 clear hK K hb_5 hS_4
 try simp only [Act.put, zSa, zSz, zSs]
 refine Tx.seg (A := ?_) 0 67108863 zKr (by exact hS_5) [24, 25] zKr ?_ ?_
 rotate_left
 · intro w' hB
   exact zRd
 refine Tx.done zKr ?_
 have kb9 := bel kb hS_5
 clear qe k6 k10 k12 cP cV hR
 go_wp2_with fail
 go_ret
 exact ⟨rfl, kb9⟩
theorem head_signs : Tryz.prog.initOrder = String.ofList [Char.ofNat 104, Char.ofNat 97, Char.ofNat 114, Char.ofNat 110, Char.ofNat 101, Char.ofNat 115, Char.ofNat 115, Char.ofNat 32, Char.ofNat 100, Char.ofNat 100, Char.ofNat 97, Char.ofNat 99, Char.ofNat 54, Char.ofNat 99, Char.ofNat 55, Char.ofNat 49, Char.ofNat 53, Char.ofNat 55, Char.ofNat 54, Char.ofNat 101, Char.ofNat 97, Char.ofNat 52, Char.ofNat 53, Char.ofNat 48, Char.ofNat 54, Char.ofNat 48, Char.ofNat 51, Char.ofNat 97, Char.ofNat 50, Char.ofNat 49, Char.ofNat 57, Char.ofNat 51, Char.ofNat 50, Char.ofNat 100, Char.ofNat 100, Char.ofNat 49, Char.ofNat 48, Char.ofNat 50, Char.ofNat 101, Char.ofNat 54, Char.ofNat 51, Char.ofNat 101, Char.ofNat 49, Char.ofNat 97, Char.ofNat 101, Char.ofNat 53, Char.ofNat 49, Char.ofNat 101, Char.ofNat 50, Char.ofNat 54, Char.ofNat 49, Char.ofNat 53, Char.ofNat 100, Char.ofNat 99, Char.ofNat 57, Char.ofNat 48, Char.ofNat 55, Char.ofNat 52, Char.ofNat 98, Char.ofNat 48, Char.ofNat 48, Char.ofNat 102, Char.ofNat 98, Char.ofNat 50, Char.ofNat 53, Char.ofNat 54, Char.ofNat 52, Char.ofNat 56, Char.ofNat 52, Char.ofNat 51, Char.ofNat 101, Char.ofNat 99, Char.ofNat 32, Char.ofNat 99, Char.ofNat 117, Char.ofNat 116, Char.ofNat 32, Char.ofNat 97, Char.ofNat 116, Char.ofNat 32, Char.ofNat 112, Char.ofNat 111, Char.ofNat 114, Char.ofNat 116, Char.ofNat 99, Char.ofNat 117, Char.ofNat 108, Char.ofNat 108, Char.ofNat 105, Char.ofNat 115, Char.ofNat 47, Char.ofNat 112, Char.ofNat 111, Char.ofNat 114, Char.ofNat 116, Char.ofNat 99, Char.ofNat 117, Char.ofNat 108, Char.ofNat 108, Char.ofNat 105, Char.ofNat 115, Char.ofNat 116, Char.ofNat 111, Char.ofNat 112, Char.ofNat 46, Char.ofNat 84, Char.ofNat 111, Char.ofNat 112, Char.ofNat 83, Char.ofNat 105, Char.ofNat 103, Char.ofNat 110, Char.ofNat 101, Char.ofNat 100] := by kernel_rfl
theorem head_list : Tryz.prog.initOrder.toList = [Char.ofNat 104, Char.ofNat 97, Char.ofNat 114, Char.ofNat 110, Char.ofNat 101, Char.ofNat 115, Char.ofNat 115, Char.ofNat 32, Char.ofNat 100, Char.ofNat 100, Char.ofNat 97, Char.ofNat 99, Char.ofNat 54, Char.ofNat 99, Char.ofNat 55, Char.ofNat 49, Char.ofNat 53, Char.ofNat 55, Char.ofNat 54, Char.ofNat 101, Char.ofNat 97, Char.ofNat 52, Char.ofNat 53, Char.ofNat 48, Char.ofNat 54, Char.ofNat 48, Char.ofNat 51, Char.ofNat 97, Char.ofNat 50, Char.ofNat 49, Char.ofNat 57, Char.ofNat 51, Char.ofNat 50, Char.ofNat 100, Char.ofNat 100, Char.ofNat 49, Char.ofNat 48, Char.ofNat 50, Char.ofNat 101, Char.ofNat 54, Char.ofNat 51, Char.ofNat 101, Char.ofNat 49, Char.ofNat 97, Char.ofNat 101, Char.ofNat 53, Char.ofNat 49, Char.ofNat 101, Char.ofNat 50, Char.ofNat 54, Char.ofNat 49, Char.ofNat 53, Char.ofNat 100, Char.ofNat 99, Char.ofNat 57, Char.ofNat 48, Char.ofNat 55, Char.ofNat 52, Char.ofNat 98, Char.ofNat 48, Char.ofNat 48, Char.ofNat 102, Char.ofNat 98, Char.ofNat 50, Char.ofNat 53, Char.ofNat 54, Char.ofNat 52, Char.ofNat 56, Char.ofNat 52, Char.ofNat 51, Char.ofNat 101, Char.ofNat 99, Char.ofNat 32, Char.ofNat 99, Char.ofNat 117, Char.ofNat 116, Char.ofNat 32, Char.ofNat 97, Char.ofNat 116, Char.ofNat 32, Char.ofNat 112, Char.ofNat 111, Char.ofNat 114, Char.ofNat 116, Char.ofNat 99, Char.ofNat 117, Char.ofNat 108, Char.ofNat 108, Char.ofNat 105, Char.ofNat 115, Char.ofNat 47, Char.ofNat 112, Char.ofNat 111, Char.ofNat 114, Char.ofNat 116, Char.ofNat 99, Char.ofNat 117, Char.ofNat 108, Char.ofNat 108, Char.ofNat 105, Char.ofNat 115, Char.ofNat 116, Char.ofNat 111, Char.ofNat 112, Char.ofNat 46, Char.ofNat 84, Char.ofNat 111, Char.ofNat 112, Char.ofNat 83, Char.ofNat 105, Char.ofNat 103, Char.ofNat 110, Char.ofNat 101, Char.ofNat 100] := by rw [head_signs, String.toList_ofList]
theorem head_first : ((behindMainWord (wordsSigns [Char.ofNat 104, Char.ofNat 97, Char.ofNat 114, Char.ofNat 110, Char.ofNat 101, Char.ofNat 115, Char.ofNat 115, Char.ofNat 32, Char.ofNat 100, Char.ofNat 100, Char.ofNat 97, Char.ofNat 99, Char.ofNat 54, Char.ofNat 99, Char.ofNat 55, Char.ofNat 49, Char.ofNat 53, Char.ofNat 55, Char.ofNat 54, Char.ofNat 101, Char.ofNat 97, Char.ofNat 52, Char.ofNat 53, Char.ofNat 48, Char.ofNat 54, Char.ofNat 48, Char.ofNat 51, Char.ofNat 97, Char.ofNat 50, Char.ofNat 49, Char.ofNat 57, Char.ofNat 51, Char.ofNat 50, Char.ofNat 100, Char.ofNat 100, Char.ofNat 49, Char.ofNat 48, Char.ofNat 50, Char.ofNat 101, Char.ofNat 54, Char.ofNat 51, Char.ofNat 101, Char.ofNat 49, Char.ofNat 97, Char.ofNat 101, Char.ofNat 53, Char.ofNat 49, Char.ofNat 101, Char.ofNat 50, Char.ofNat 54, Char.ofNat 49, Char.ofNat 53, Char.ofNat 100, Char.ofNat 99, Char.ofNat 57, Char.ofNat 48, Char.ofNat 55, Char.ofNat 52, Char.ofNat 98, Char.ofNat 48, Char.ofNat 48, Char.ofNat 102, Char.ofNat 98, Char.ofNat 50, Char.ofNat 53, Char.ofNat 54, Char.ofNat 52, Char.ofNat 56, Char.ofNat 52, Char.ofNat 51, Char.ofNat 101, Char.ofNat 99, Char.ofNat 32, Char.ofNat 99, Char.ofNat 117, Char.ofNat 116, Char.ofNat 32, Char.ofNat 97, Char.ofNat 116, Char.ofNat 32, Char.ofNat 112, Char.ofNat 111, Char.ofNat 114, Char.ofNat 116, Char.ofNat 99, Char.ofNat 117, Char.ofNat 108, Char.ofNat 108, Char.ofNat 105, Char.ofNat 115, Char.ofNat 47, Char.ofNat 112, Char.ofNat 111, Char.ofNat 114, Char.ofNat 116, Char.ofNat 99, Char.ofNat 117, Char.ofNat 108, Char.ofNat 108, Char.ofNat 105, Char.ofNat 115, Char.ofNat 116, Char.ofNat 111, Char.ofNat 112, Char.ofNat 46, Char.ofNat 84, Char.ofNat 111, Char.ofNat 112, Char.ofNat 83, Char.ofNat 105, Char.ofNat 103, Char.ofNat 110, Char.ofNat 101, Char.ofNat 100])).head? == some "cut".toList) = true := by kernel_rfl
theorem head_cut : ∃ r, behindMainWord (wordsSigns Tryz.prog.initOrder.toList) = "cut".toList :: r := by
 rw [head_list]
 exact List.head?_eq_some_iff.1 (eq_of_beq head_first)
theorem head_strip (r : List (List Char)) : stripLifts liftWords ("cut".toList :: r) = ([], "cut".toList :: r) := by kernel_rfl
theorem head_later : Tryz.prog.laysLater = false := by kernel_rfl
theorem head_reflect : Tryz.prog.bearsReflect = false := by kernel_rfl
theorem head_door : Tryz.prog.doorFits [] = true := by kernel_rfl
theorem enter_of (P : Program) (r : List (List Char)) (h : behindMainWord (wordsSigns P.initOrder.toList) = "cut".toList :: r) (h1 : P.laysLater = false) (h2 : P.bearsReflect = false) (h3 : P.doorFits [] = true) : P.mayEnter = true := by
 unfold Program.mayEnter
 rw [h]
 simp only [head_strip, h1, h2, h3]
 simp
theorem none_of (P : Program) (r : List (List Char)) (h : behindMainWord (wordsSigns P.initOrder.toList) = "cut".toList :: r) : P.headLifts = [] := by
 unfold Program.headLifts
 rw [h]
 simp only [head_strip]
 simp
theorem lifts_of (P : Program) (r : List (List Char)) (h : behindMainWord (wordsSigns P.initOrder.toList) = "cut".toList :: r) : P.liftsFinal = false := by
 unfold Program.liftsFinal
 rw [h, none_of P r h]
 simp
theorem make_of (P : Program) (r : List (List Char)) (h : behindMainWord (wordsSigns P.initOrder.toList) = "cut".toList :: r) : P.make = some .cut := by
 unfold Program.make
 rw [h]
 simp
theorem head_enter : Tryz.prog.mayEnter = true := by
 obtain ⟨r, h⟩ := head_cut
 exact enter_of _ r h head_later head_reflect head_door
theorem head_lifts : Tryz.prog.liftsFinal = false := by
 obtain ⟨r, h⟩ := head_cut
 exact lifts_of _ r h
theorem head_make : Tryz.prog.make = some .cut := by
 obtain ⟨r, h⟩ := head_cut
 exact make_of _ r h
end Go.Proofs.YtncnlfpiondpnaaGreat
