/- TopSigned: part 37 of its proof: lemmas and contracts, each with its conditions in its own statement; the last part holds the law itself. -/
import Derived.Test.YtncnlfpiondpnaaGreatJt36
import Derived.Lib.SlBytesConst

set_option maxHeartbeats 4000000
set_option maxRecDepth 100000
namespace Go.Proofs.YtncnlfpiondpnaaGreat
open Go.RowKit
theorem newS_fit0 : StFit newS := ⟨Nat.zero_le _, Nat.zero_le _, Nat.zero_le _⟩
theorem feed_short (c : Nat) (a : Option Addr) (n m : Nat) (bs : List UInt8) (hb3 : bs.length ≤ 3) (w : World) (hs : Sl w (.slice a n m) (u8s bs)) :
 Calls Tryz.prog 99 #[.pointer (some ⟨c, 0, none⟩), .slice a n m] w fun e w' => e = .returned (.int .i64 4) ∧ Below w.heap.size w w' := by
 have hone := zH mnZ_one
 have hlen := zH mnZ_facts.1
 have cR := zH (mread_short (.slice a n m) bs hb3 w hs)
 obtain ⟨X, hX⟩ : ∃ X, mnZ = X := ⟨_, rfl⟩
 rw [hX] at hone hlen cR
 clear hX hs hb3
 go_enter Tryz.func99, Tryz.ntmps99
 go_wp2_with fail
 refine cR.out.mono ?_
 rintro e w1 ⟨rfl, hb⟩
 clear cR
 go_wp2_with (refine wpl_storeG rfl _ _ _ rfl _ X rfl rfl _ (Arr.new _ _ _) (by rw [hlen.out]; kernel_rfl) (by rw [hlen.out]; kernel_rfl) hone.out (fun w4 k6 hg hsz => ?_))
 have kb := bel hb (below_fresh hg)
 go_ret
 exact ⟨rfl, kb⟩
theorem ta_feed1 (v : Value) (w : World) : (Instr.typeAssert (.iface 175 v) 20 175 true).run Tryz.prog w = .ok (.tuple #[v, .bool true]) w := by kernel_rfl
theorem move1 (a : Option Addr) (n m : Nat) (i : Int) (w : World) :
 Calls Tryz.prog 98 #[.agg #[.int .i64 1, .slice a n m, .int .i64 i]] w fun e w' => e = .returned (.iface 175 (.slice a n m)) ∧ Below w.heap.size w w' := by
 go_enter Tryz.func98, Tryz.ntmps98
 go_wp2_with fail
 go_ret
 exact ⟨rfl, below_alloc _ _⟩
theorem do1_short (c : Nat) (a : Option Addr) (n m : Nat) (i : Int) (bs : List UInt8) (hb3 : bs.length ≤ 3) (w : World) (hs : Sl w (.slice a n m) (u8s bs)) :
 Calls Tryz.prog 53 #[.pointer (some ⟨c, 0, none⟩), .agg #[.int .i64 1, .slice a n m, .int .i64 i]] w fun e w' => e = .returned (.tuple #[.slice none 0 0, .int .i64 4]) ∧ Below w.heap.size w w' := by
 have cM := zH (fun w' => move1 a n m i w')
 have cB := zH (fun w' (hb : Below w.heap.size w w') => feed_short c a n m bs hb3 w' (hs.below hb))
 clear hs hb3
 have f1 := ta_feed1 (.slice a n m)
 go_enter Tryz.func53, Tryz.ntmps53
 go_upto_region 1 with fail
 have kb := below_alloc w (.cells #[.int .i64 1, .slice a n m, .int .i64 i] 56)
 have k1 : Arr (w.alloc (.cells #[.int .i64 1, .slice a n m, .int .i64 i] 56)) w.heap.size [.int .i64 1, .slice a n m, .int .i64 i] := Arr.new _ _ _
 obtain ⟨W, hW⟩ : ∃ W, w.alloc (.cells #[.int .i64 1, .slice a n m, .int .i64 i] 56) = W := ⟨_, rfl⟩
 obtain ⟨g1, hg⟩ : ∃ g, w.heap.size = g := ⟨_, rfl⟩
 rw [hW] at kb k1 ⊢
 rw [hg] at k1 ⊢
 clear hW hg
 go_wp2_with (refine zLd ?_)
 refine (cM.out _).mono ?_
 rintro e w1 ⟨rfl, hb⟩
 replace kb := bel kb hb
 clear hb k1 cM
 go_wp2_with fail
 refine (cB.out _ kb).mono ?_
 rintro e w2 ⟨rfl, hb⟩
 replace kb := bel kb hb
 clear cB hb f1
 go_wp2_with fail
 go_ret2
 exact ⟨rfl, kb⟩
theorem ddo1_short (d p g c : Nat) (F : Fl) (a : Option Addr) (n m : Nat) (i : Int) (bs : List UInt8) (hb3 : bs.length ≤ 3) (w : World) (hs : Sl w (.slice a n m) (u8s bs)) (kd : Arr w d (dvv p c false)) (kf : FlAt w p g F) (hd : F.dead = false) :
 Calls Tryz.prog 15 #[.pointer (some ⟨d, 0, none⟩), .agg #[.int .i64 1, .slice a n m, .int .i64 i]] w fun e w' => e = .returned (.tuple #[.slice none 0 0, .int .i64 4]) ∧ Below w.heap.size w w' := by
 have cD := zH (fun w' (hb : Below w.heap.size w w') => fdead_any p g F w' (kf.below hb))
 rw [hd] at cD
 have cC := zH (fun w' (hb : Below w.heap.size w w') => do1_short c a n m i bs hb3 w' (hs.below hb))
 replace kd := zH kd
 clear hs hb3 kf hd
 go_enter Tryz.func15, Tryz.ntmps15
 go_upto_region 1 with fail
 have kb := below_alloc w (.cells #[.int .i64 1, .slice a n m, .int .i64 i] 56)
 have k1 : Arr (w.alloc (.cells #[.int .i64 1, .slice a n m, .int .i64 i] 56)) w.heap.size [.int .i64 1, .slice a n m, .int .i64 i] := Arr.new _ _ _
 obtain ⟨W, hW⟩ : ∃ W, w.alloc (.cells #[.int .i64 1, .slice a n m, .int .i64 i] 56) = W := ⟨_, rfl⟩
 obtain ⟨g1, hg⟩ : ∃ g, w.heap.size = g := ⟨_, rfl⟩
 rw [hW] at kb k1 ⊢
 rw [hg] at k1 ⊢
 clear hW hg
 have kd1 := kd.out.below kb
 have x0 := kd1.cell (j := 0) rfl
 have x2 := kd1.cell (j := 2) rfl
 go_wp2_with fail
 refine (cD.out _ kb).mono ?_
 rintro e w1 ⟨rfl, hw⟩
 obtain rfl : W = w1 := hw.symm
 clear cD x0 x2
 go_upto_region 3 with fail
 refine Tx.start (fun w' => Below (W).heap.size (W) w') 9999 11 rfl zKr ?_
 have hS_1 : Below (W).heap.size (W) (World.drew W) := (Below.refl _ _).drew
 refine Tx.seg (A := ?_) 6 31 zKr (by exact hS_1) [0, 1, 2, 3, 4] zKr ?_ ?_
 rotate_left
 · intro w' hB
   have x1 := (kd1.below hB).cell (j := 1) rfl
   have y1 := k1.below hB
   exact zRd
 refine Tx.eff 5 63 rfl zDk (fun K hK => ?_)
 go_simp
 refine (cC.out _ (bel kb hS_1)).mono ?_
 rintro e w_2 ⟨rfl, hb_2⟩
 have hS_2 := ext_trans hS_1 (Nat.le_refl _) hb_2
 refine hK (fun w' => Below (W).heap.size (W) w') _ _ hS_2 (fun _ h => h) ?_
 clear hK K hb_2 hS_1
 try simp only [Act.put, zSa, zSz, zSs]
 refine Tx.seg (A := ?_) 0 2047 zKr (by exact hS_2) [6, 7, 8, 9, 10] zKr ?_ ?_
 rotate_left
 · intro w' hB
   exact zRd
 refine Tx.done zKr ?_
 have kb := bel kb hS_2
 clear hS_2 cC
 go_wp2_with fail
 go_ret2
 exact ⟨rfl, kb⟩
def RetN (w : World) (e : Ending) (w' : World) : Prop := ∃ v : Sv, e = .returned (.agg (newS.cs v).toArray) ∧ (∀ u ∈ newS.cs v, u.oneCell' = true) ∧ Below w.heap.size w w'
theorem newS_len (v : Sv) : (newS.cs v).length = 9 := rfl
theorem cstate_any (c k r s : Nat) (bt : Int) (w : World) (k0 : Arr w c (coZ k r s bt)) :
 Calls Tryz.prog 55 #[.pointer (some ⟨c, 0, none⟩)] w (RetN w) := by
 have hr : Hid (∀ w', Below w.heap.size w w' → w'.rangeAt c 65 stZ) := zH (fun w' hb => coZ_range (k0.below hb))
 have cC := zH (fun w' => show Calls Tryz.prog 106 #[.agg stZ.toArray] w' (RetSt newS w') from copy_any newS nilSv w' (newS_ok w') newS_fit0)
 clear k0
 go_enter Tryz.func55, Tryz.ntmps55
 go_upto_region 1 with fail
 refine wp_new1 (fun W hsz k2 kb => ?_)
 replace k2 : Arr W w.heap.size st0 := k2
 have hr1 := hr.out W kb
 go_wp2_with (refine wpList_load_mid2 rfl _ _ rfl _ _ rfl zKr _ hr1 zLn ?_)
 refine (cC.out _).mono ?_
 rintro e w1 ⟨v, rfl, ho, hb⟩
 have hone := ho.ok.one
 replace k2 := k2.below hb
 replace kb := bel kb hb
 clear ho hb hr1 hr cC
 go_wp2_with (refine wpl_storeG rfl _ _ _ rfl _ (newS.cs v) rfl rfl _ k2 (by rw [newS_len]; kernel_rfl) (by rfl) hone (fun w4 k6 hg hsz => ?_))
 have kb := below_gr kb hg (Nat.le_refl _) kb.size
 exact bodyPost_ret (results_arr2 Tryz.results55 _ _ _ rfl zKr _ (by first | assumption | exact Arr.setRow zAm _) zLn) rfl ⟨v, rfl, hone, kb⟩
theorem dstate_any (d p c k r s : Nat) (bt : Int) (w : World) (kd : Arr w d (dvv p c false)) (k0 : Arr w c (coZ k r s bt)) :
 Calls Tryz.prog 16 #[.pointer (some ⟨d, 0, none⟩)] w (RetN w) := by
 have cC := zH (fun w' (hb : Below w.heap.size w w') => cstate_any c k r s bt w' (k0.below hb))
 clear k0
 go_enter Tryz.func16, Tryz.ntmps16
 go_upto_region 1 with fail
 refine wp_new1 (fun W hsz k2 kb => ?_)
 replace k2 : Arr W w.heap.size st0 := k2
 have x1 := (kd.below kb).cell (j := 1) rfl
 go_wp2_with fail
 refine (cC.out _ kb).mono ?_
 rintro e w1 ⟨v, rfl, hone, hb⟩
 replace k2 := k2.below hb
 replace kb := bel kb hb
 clear hb cC x1 kd
 go_wp2_with (refine wpl_storeG rfl _ _ _ rfl _ (newS.cs v) rfl rfl _ k2 (by rw [newS_len]; kernel_rfl) (by rfl) hone (fun w4 k6 hg hsz => ?_))
 have kb := below_gr kb hg (Nat.le_refl _) kb.size
 exact bodyPost_ret (results_arr2 Tryz.results16 _ _ _ rfl zKr _ (by first | assumption | exact Arr.setRow zAm _) zLn) rfl ⟨v, rfl, hone, kb⟩
theorem numT (x : Int) (w : World) : Calls Tryz.prog 9 #[.int .i64 x] w fun e w' => e = .returned (.int .i64 x) ∧ w' = w := by
 go_enter Tryz.func9, Tryz.ntmps9
 go_wp2_with fail
 go_ret
 exact ⟨rfl, rfl⟩
def mayB2 (v i : Int) : Bool := decide (0 ≤ v) && (decide (v ≤ 2147483647) && (decide (0 ≤ i) && decide (i < 32)))
theorem imay_any (v i : Int) (w : World) : Calls Tryz.prog 110 #[.int .i64 v, .int .i64 i] w fun e w' => e = .returned (.bool (mayB2 v i)) ∧ Below w.heap.size w w' := by
 obtain ⟨V, hV⟩ : ∃ V, mayB2 v i = V := ⟨_, rfl⟩
 rw [hV]
 unfold mayB2 at hV
 replace hV := zH hV
 have fin : ∀ {b : Bool}, (decide (0 ≤ v) && (decide (v ≤ 2147483647) && (decide (0 ≤ i) && decide (i < 32)))) = b → Hid (V = b) := fun h => zH (by rw [← hV.out, h])
 by_cases h1 : 0 ≤ v
 · by_cases h2 : v ≤ 2147483647
   · by_cases h3 : 0 ≤ i
     · by_cases h4 : i < 32
       · have hv := fin (b := true) (by simp [h1, h2, h3, h4])
         clear fin
         go_enter Tryz.func110, Tryz.ntmps110
         go_wp2_with fail
         go_ret
         exact ⟨by rw [hv.out]; rfl, Below.refl _ _⟩
       · have hv := fin (b := false) (by simp; omega)
         clear fin
         go_enter Tryz.func110, Tryz.ntmps110
         go_wp2_with fail
         go_ret
         exact ⟨by rw [hv.out]; rfl, Below.refl _ _⟩
     · have hv := fin (b := false) (by simp; omega)
       clear fin
       go_enter Tryz.func110, Tryz.ntmps110
       go_wp2_with fail
       go_ret
       exact ⟨by rw [hv.out]; rfl, Below.refl _ _⟩
   · have hv := fin (b := false) (by simp; omega)
     clear fin
     go_enter Tryz.func110, Tryz.ntmps110
     go_wp2_with fail
     go_ret
     exact ⟨by rw [hv.out]; rfl, Below.refl _ _⟩
 · have hv := fin (b := false) (by simp; omega)
   clear fin
   go_enter Tryz.func110, Tryz.ntmps110
   go_wp2_with fail
   go_ret
   exact ⟨by rw [hv.out]; rfl, Below.refl _ _⟩
def sealS (k n : Nat) (bs side : List UInt8) : List UInt8 := trB k 1 n bs ++ tagB k n (trB k 1 n bs) side
theorem sealS_len (k n : Nat) (bs side : List UInt8) : (sealS k n bs side).length = bs.length + 16 := by rw [sealS, List.length_append, trB_len, tagB_len]
theorem aseals_own (k n : Nat) (a d : Option Addr) (c cd : Nat) (bs side : List UInt8) (l1 : bs.length ≤ 50000) (l2 : side.length ≤ 50000) (w : World) (h1 : Sl w (.slice a bs.length c) (u8s bs)) (h2 : Sl w (.slice d side.length cd) (u8s side)) :
 Calls Tryz.prog 65 #[.agg (bytn 32 k).toArray, .agg (bytn 12 n).toArray, .slice a bs.length c, .slice d side.length cd] w fun e w' => ∃ u, e = .returned u ∧ w'.ownsRow w.heap.size 5 1 u (sealS k n bs side).length (u8s (sealS k n bs side)) ∧ Below w.heap.size w w' := by
 have cU := zH (fun w' (hb : Below w.heap.size w w') => cturn_any k n 1 a c bs zDc zOm w' (h1.below hb))
 obtain ⟨z, hz⟩ : ∃ z, trB k 1 n bs = z := ⟨_, rfl⟩
 have hzl : z.length = bs.length := by rw [← hz, trB_len]
 have hS : Hid (sealS k n bs side = z ++ tagB k n z side) := zH (by rw [sealS, hz])
 rw [hz] at cU
 obtain ⟨m, hm⟩ : ∃ m, bs.length = m := ⟨_, rfl⟩
 rw [hm] at cU hzl l1 ⊢
 obtain ⟨G, hG⟩ : ∃ G, sealS k n bs side = G := ⟨_, rfl⟩
 rw [hG] at hS ⊢
 replace h2 := zH h2
 replace l2 := zH l2
 clear h1 hz hm hG
 go_enter Tryz.func65, Tryz.ntmps65
 go_upto_region 1 with fail
 refine wp_new2 (fun W hsz k4 k5 kb => ?_)
 have k4 : Arr W w.heap.size (bytn 32 k) := k4
 have k5 : Arr W (w.heap.size + 1) (bytn 12 n) := k5
 clear hsz
 replace cU := zH (cU.out W kb)
 go_wp2_with (refine zLd ?_)
 refine cU.out.mono ?_
 rintro e w1 ⟨g, rfl, hg, kz, hb⟩
 replace k4 := k4.below hb
 replace k5 := k5.below hb
 replace kb := bel kb hb
 clear hb cU
 have hsz := zH (show Sl w1 (.slice (some ⟨g, 0, none⟩) m m) (u8s z) from Sl.ofArrN kz hzl zOm)
 have cT := zH (by
  have q := atag_any k n (some ⟨g, 0, none⟩) d m cd z side zOm (by have := l2.out; omega) w1 (by rw [hzl]; exact hsz.out) (h2.out.below kb)
  rw [hzl] at q
  exact q)
 have hT : Hid (bytn 16 (tagN k n z side) = u8s (tagB k n z side)) := zH (tagB_u8s _ _ _ _)
 have htl : Hid ((tagB k n z side).length = 16) := zH (tagB_len _ _ _ _)
 obtain ⟨T, hTe⟩ : ∃ T, tagN k n z side = T := ⟨_, rfl⟩
 obtain ⟨t, hte⟩ : ∃ t, tagB k n z side = t := ⟨_, rfl⟩
 rw [hTe] at cT hT
 rw [hte] at hS hT htl
 obtain ⟨ns, hns⟩ : ∃ n, side.length = n := ⟨_, rfl⟩
 rw [hns] at cT ⊢
 clear hTe hte kz h2 l2 hns
 go_wp2_with (refine zLd ?_)
 refine cT.out.mono ?_
 rintro e w2 ⟨rfl, hb⟩
 replace kb := bel kb hb
 replace hsz := zH (hsz.out.below hb)
 clear hb cT k4 k5
 go_upto_region 3 with (refine wpl_storeG rfl _ _ _ rfl _ (bytn 16 T) rfl rfl _ (Arr.new _ _ _) (by rw [bytn_len]; kernel_rfl) (by rw [bytn_len]; rfl) (bytn_one _ _) (fun w4 k6 hg hsz4 => ?_))
 have hb := below_fresh hg
 replace hsz := zH (hsz.out.below hb)
 replace kb := bel kb hb
 obtain ⟨g6, hg6⟩ : ∃ g, w2.heap.size = g := ⟨_, rfl⟩
 rw [hg6] at k6 ⊢
 clear hg6 hb hg hsz4
 rw [hT.out] at k6
 obtain ⟨i, hi, hz0, hz1, hz2⟩ := info_parts info_u8
 have hst := Sl.ofArrN k6 htl.out zDc
 clear k6
 go_wp2_with (at_builtin; refine wpList_append_new rfl _ _ 22 rfl 5 Tryz.underlying22 hi hz0 hz1 hz2 rfl rfl hsz.out rfl hst ?c1 (u8s_one _) ?c3 ?c4 ?_)
 case c1 => rw [u8s_len, u8s_len, htl.out, hzl]; omega
 case c3 => rw [u8s_len, htl.out]; unfold maxLen; omega
 case c4 => rw [u8s_len, htl.out]; omega
 intro v w5 hown hb5
 rw [u8s_len, htl.out, ← u8s_append, ← hS.out] at hown
 have hGl : G.length = m + 16 := by rw [hS.out, List.length_append, htl.out, hzl]
 rw [← hGl] at hown
 have hbs := kb.size
 replace kb := bel kb hb5
 clear hb5 hst hsz hzl
 go_wp2_with fail
 go_ret
 exact ⟨v, rfl, own_mono hown hbs, kb⟩
theorem aseals_any (k n : Nat) (a d : Option Addr) (c cd : Nat) (bs side : List UInt8) (l1 : bs.length ≤ 50000) (l2 : side.length ≤ 50000) (w : World) (h1 : Sl w (.slice a bs.length c) (u8s bs)) (h2 : Sl w (.slice d side.length cd) (u8s side)) :
 Calls Tryz.prog 65 #[.agg (bytn 32 k).toArray, .agg (bytn 12 n).toArray, .slice a bs.length c, .slice d side.length cd] w (SRet (sealS k n bs side) w) := by
 refine (aseals_own k n a d c cd bs side l1 l2 w h1 h2).mono ?_
 rintro e w' ⟨u, rfl, hown, hb⟩
 obtain ⟨g, c', rfl, -⟩ := own_range hown (by rw [sealS_len]; omega)
 exact ⟨g, c', rfl, Sl.of_own hown, hb⟩
theorem u8s_bytn (L : List UInt8) : u8s L = bytn L.length (val 256 (L.map (·.toNat))) := by
 have h3 := digs_val 256 zDc (L.map (·.toNat)) (by intro x hx; simp only [List.mem_map] at hx; obtain ⟨y, -, rfl⟩ := hx; exact y.toNat_lt)
 rw [List.length_map] at h3
 rw [bytn, h3, List.map_map]
 rfl
def nonN (i : Int) : Nat := val 256 ((List.replicate 4 (0 : UInt8) ++ be8s [i]).map (·.toNat))
theorem nonN_u8s (i : Int) : u8s (List.replicate 4 (0 : UInt8) ++ be8s [i]) = bytn 12 (nonN i) := by
 have h := u8s_bytn (List.replicate 4 (0 : UInt8) ++ be8s [i])
 rw [List.length_append, be8s_len] at h
 exact h
theorem Sl.new1At {w : World} (n : Nat) (h : w.heap.size = n) (v : Value) (t : TypeId) : Sl (w.alloc (.cells #[v] t)) (.slice (some ⟨n, 0, none⟩) 1 1) [v] := by
 subst h
 exact Sl.new1 w v t
theorem nonce_any (i : Int) (w : World) :
 Calls Tryz.prog 111 #[.int .i64 i] w fun e w' => e = .returned (.agg (bytn 12 (nonN i)).toArray) ∧ Below w.heap.size w w' := by
 have hmk : ∀ w, (Instr.makeSlice 22 (.int .i64 4) (.int .i64 4)).run Tryz.prog w = .ok (.slice (some ⟨w.heap.size, 0, none⟩) 4 4) (w.alloc (.cells (u8s (List.replicate 4 0)).toArray 5)) := make_u8c 4 zDc
 have hN := zH (nonN_u8s i)
 obtain ⟨N, hNe⟩ : ∃ N, nonN i = N := ⟨_, rfl⟩
 rw [hNe] at hN ⊢
 clear hNe
 have hat2 : ∀ w o c, (Instr.arrayAt 141 (.slice (some ⟨o, 0, none⟩) 12 c)).run Tryz.prog w = .ok (.pointer (some ⟨o, 0, none⟩)) w := fun w o c => run_arrayAt w 141 5 12 _ 12 c Tryz.underlying141 zDc
 go_enter Tryz.func111, Tryz.ntmps111
 go_upto_region 1 with fail
 refine wp_new1 (fun W hsz k2 kb => ?_)
 replace k2 : Arr W w.heap.size (bytn 12 0) := k2
 clear hsz
 have h1 := zH (show Sl (W.alloc (.cells (u8s (List.replicate 4 0)).toArray 5)) (.slice (some ⟨W.heap.size, 0, none⟩) 4 4) (u8s (List.replicate 4 0)) from Sl.ofArrN (Arr.new _ _ _) (by simp) zDc)
 have kb1 := below_alloc W (.cells (u8s (List.replicate 4 0)).toArray 5)
 have kb2 := bel kb1 (below_alloc (W.alloc (.cells (u8s (List.replicate 4 0)).toArray 5)) (.cells #[.int .i64 i] 3))
 have h2 := zH (Sl.new1At (w := W.alloc (.cells (u8s (List.replicate 4 0)).toArray 5)) (W.heap.size + 1) (by simp) (.int .i64 i) 3)
 have cI := zH (fun w' vb vn (hb : Sl w' vb (u8s (List.replicate 4 0))) (hn : Sl w' vn [.int .i64 i]) => packInt_any vb vn (List.replicate 4 0) [i] w' hb hn (by simp))
 go_wp2_with fail
 refine (cI.out _ _ _ (h1.out.alloc _) h2.out).mono ?_
 rintro e w1 ⟨v, rfl, hown, hb1⟩
 rw [hN.out, show (List.replicate 4 (0 : UInt8) ++ be8s [i]).length = 12 by rw [List.length_append, be8s_len]; rfl] at hown
 obtain ⟨g, c, rfl, -⟩ := own_range hown zDc
 have hr := (Sl.of_own hown).rng
 replace hb1 := bel kb2 hb1
 replace k2 := k2.below hb1
 replace kb := bel kb hb1
 clear hown hb1 h1 kb1 kb2 hmk
 go_wp2_with (first | (refine wpList_load_mid2 rfl _ _ rfl _ _ rfl zKr _ hr zLn ?_) | (refine zSt ?_))
 exact bodyPost_ret (results_arr2 Tryz.results111 _ _ _ rfl zKr _ (by first | assumption | exact Arr.setRow zAm _) zLn) rfl ⟨rfl, below_setRow kb (Nat.le_refl _) _⟩
def Ph.sl (n : Nat) (xs : List Value) : Ph := ⟨fun v w => ∃ d, v = .slice d n n ∧ Sl w v xs, fun _ _ _ ⟨d, h1, h2⟩ hb => ⟨d, h1, h2.below hb⟩, false, fun h => by cases h⟩
theorem packInt1_any (vn : Value) (v : Int) (w : World) (hn : Sl w vn [.int .i64 v]) :
 Calls Tryz.prog 20 #[.slice none 0 0, vn] w fun e w' => ∃ g c, e = .returned (.slice (some ⟨g, 0, none⟩) 8 c) ∧ Sl w' (.slice (some ⟨g, 0, none⟩) 8 c) (u8s (be8s [v])) ∧ Below w.heap.size w w' := by
 refine (packInt_any (.slice none 0 0) vn [] [v] w (Sl.nil _) hn (by simp)).mono ?_
 rintro e w' ⟨v', rfl, hown, hb⟩
 rw [List.nil_append, show (be8s [v]).length = 8 from be8s_len [v]] at hown
 obtain ⟨g, c, rfl, -⟩ := own_range hown zDc
 exact ⟨g, c, rfl, Sl.of_own hown, hb⟩
def isealB (K : Nat) (v i : Int) (bs : List UInt8) : List UInt8 := sealS K (nonN i) bs (be8s [v])
theorem iseal_own (K : Nat) (v i : Int) (a : Option Addr) (c : Nat) (bs : List UInt8) (hl : bs.length = 64) (hm : mayB2 v i = true) (w : World) (h : Sl w (.slice a 64 c) (u8s bs)) :
 Calls Tryz.prog 60 #[.agg (bytn 32 K).toArray, .int .i64 v, .int .i64 i, .slice a 64 c] w fun e w' => ∃ u, e = .returned (.tuple #[u, .int .i64 0]) ∧ w'.ownsRow w.heap.size 5 1 u 80 (u8s (isealB K v i bs)) ∧ Below w.heap.size w w' := by
 have cM := zH (fun w => imay_any v i w)
 rw [hm] at cM
 have hGl : (isealB K v i bs).length = 80 := by rw [isealB, sealS_len, hl]
 have cN := zH (fun w => nonce_any i w)
 have cI := zH (fun w vn h => packInt1_any vn v w h)
 have cA := zH (fun w' g cd (h1 : Sl w' (.slice a 64 c) (u8s bs)) (h2 : Sl w' (.slice (some ⟨g, 0, none⟩) 8 cd) (u8s (be8s [v]))) => show Calls Tryz.prog 65 #[.agg (bytn 32 K).toArray, .agg (bytn 12 (nonN i)).toArray, .slice a 64 c, .slice (some ⟨g, 0, none⟩) 8 cd] w' (fun e w'' => ∃ u, e = .returned u ∧ w''.ownsRow w'.heap.size 5 1 u 80 (u8s (isealB K v i bs)) ∧ Below w'.heap.size w' w'') from by
  have q := aseals_own K (nonN i) a (some ⟨g, 0, none⟩) c cd bs (be8s [v]) zOm (by rw [be8s_len]; simp) w' (by rw [hl]; exact h1) (by rw [be8s_len]; exact h2)
  rw [hl, show (be8s [v]).length = 8 from be8s_len [v]] at q
  rw [show (sealS K (nonN i) bs (be8s [v])).length = 80 from hGl] at q
  exact q)
 obtain ⟨N, hN⟩ : ∃ N, nonN i = N := ⟨_, rfl⟩
 obtain ⟨G, hG⟩ : ∃ N, isealB K v i bs = N := ⟨_, rfl⟩
 rw [hN] at cN cA
 rw [hG] at cA ⊢
 replace h := zH h
 clear hm hGl hN hG hl
 go_enter Tryz.func60, Tryz.ntmps60
 go_upto_region 1 with fail
 refine wp_new1 (fun W hsz k4 kb => ?_)
 replace k4 : Arr W w.heap.size (bytn 32 K) := k4
 clear hsz
 go_wp2_with fail
 refine (cM.out _).mono ?_
 rintro e w_2 ⟨rfl, hb_2⟩
 have k4 := k4.below hb_2
 have kb := bel kb hb_2
 clear hb_2
 go_upto_region 3 with fail
 refine Tx.start (fun w' => Below (w_2).heap.size (w_2) w') 9999 10 rfl zKr ?_
 have hS_3 : Below (w_2).heap.size (w_2) (World.drew w_2) := (Below.refl _ _).drew
 refine Tx.seg (A := ?_) 6 27 zKr (by exact hS_3) [0, 1, 3, 4] zKr ?_ ?_
 rotate_left
 · intro w' hB
   have y4 := k4.below hB
   exact zRd
 refine Tx.poolB 4 63 [(2, 21), (5, 24)] [(false, []), (false, [])] [(2, Ph.is (.agg (bytn 12 N).toArray)), (5, Ph.sl 1 [.int .i64 v])] zKr zKr (by first | assumption | exact (Below.refl _ _).drew) ?_ ?_
 · refine ⟨⟨_, rfl, ?_⟩, ⟨_, rfl, ?_⟩, trivial⟩
   · intro vs w1 hS hE hD K hK
     clear hD
     simp only [fillL, Act.put, zSa, zSz, zSs] at hK ⊢
     go_simp
     refine (cN.out _).mono ?_
     rintro e w2 ⟨rfl, hb2⟩
     exact hK _ _ rfl hb2 nofun
   · intro vs w1 hS hE hD K hK
     clear hD
     simp only [fillL, Act.put, zSa, zSz, zSs] at hK ⊢
     go_simp
     exact hK _ _ ⟨_, rfl, Sl.new1 _ _ _⟩ (below_alloc _ _) nofun
 intro vs w_p0 hS_p0 hE_p0 hP hD
 obtain ⟨q2, q5, -⟩ := hP
 simp only [fillL, Act.put, zSa, zSz, zSs]
 rw [show vs 2 = _ from q2]
 clear q2
 obtain ⟨d5, e5, hs5⟩ := q5
 rw [e5]
 rw [show vs _ = _ from e5] at hs5
 clear e5
 clear  hD vs
 refine Tx.eff 6 127 rfl zDk (fun K hK => ?_)
 go_simp
 refine (cI.out _ _ hs5).mono ?_
 rintro e w_4 ⟨g6, c6, rfl, hsd, hb_4⟩
 have hS_4 := ext_trans hS_p0 (Nat.le_refl _) hb_4
 refine hK (fun w' => Below (w_2).heap.size (w_2) w') _ _ hS_4 (fun _ h => h) ?_
 clear hK K hS_p0
 try simp only [Act.put, zSa, zSz, zSs]
 have hM := (bel kb hS_4).size
 refine Tx.eff 7 255 rfl zDk (fun K hK => ?_)
 go_simp
 refine (cA.out _ _ _ (h.out.below (bel kb hS_4)) hsd).mono ?_
 rintro e w_5 ⟨u7, rfl, hz, hb_5⟩
 have hS_5 := ext_trans hS_4 (Nat.le_refl _) hb_5
 refine hK (fun w' => Below (w_2).heap.size (w_2) w') _ _ hS_5 (fun _ h => h) ?_
 clear hK K hS_4
 try simp only [Act.put, zSa, zSz, zSs]
 refine Tx.seg (A := ?_) 0 1023 zKr (by exact hS_5) [8, 9] zKr ?_ ?_
 rotate_left
 · intro w' hB
   exact zRd
 refine Tx.done zKr ?_
 have kb := bel kb hS_5
 go_wp2_with fail
 go_ret2
 exact ⟨u7, rfl, own_mono hz hM, kb⟩
def mnfL (v b : Int) (root : Nat) (wv : Value) (i : Int) (k R1 s1 R s : Nat) : List Value := .int .i64 v :: .int .i64 b :: (bytn 32 root ++ (wv :: (crtL i k R1 s1 ++ sgL R s)))
theorem mnfL_len (v b : Int) (root : Nat) (wv : Value) (i : Int) (k R1 s1 R s : Nat) : (mnfL v b root wv i k R1 s1 R s).length = 196 := by simp [mnfL, bytn_len, crtL_len, sgL_len]
theorem mnfL_one (v b : Int) (root : Nat) (wv : Value) (i : Int) (k R1 s1 R s : Nat) (hw : wv.oneCell' = true) : ∀ u ∈ mnfL v b root wv i k R1 s1 R s, u.oneCell' = true := by
 intro u hu
 rcases List.mem_cons.1 hu with rfl | hu
 · rfl
 rcases List.mem_cons.1 hu with rfl | hu
 · rfl
 rcases List.mem_append.1 hu with h | hu
 · exact bytn_one _ _ u h
 rcases List.mem_cons.1 hu with rfl | hu
 · exact hw
 rcases List.mem_append.1 hu with h | h
 · exact crtL_one _ _ _ _ u h
 · exact sgL_one _ _ u h
theorem get_mid {A B C : List Value} {o : Nat} (ho : A.length = o) (j : Nat) (hj : j < B.length) : (A ++ (B ++ C))[o + j]? = B[j]? := by
 rw [List.getElem?_append_right zOm, show o + j - A.length = j by omega, List.getElem?_append_left hj]
theorem Sl.ofRng {w : World} {g o n : Nat} {L : List UInt8} (h : w.rangeAt g o (u8s L)) (hl : L.length = n) (hn : n ≤ 1000) : Sl w (.slice (some ⟨g, o, none⟩) n n) (u8s L) := by
 refine ⟨some ⟨g, o, none⟩, n, by rw [u8s_len, hl], by rw [u8s_len, hl]; exact Nat.le_refl _, by unfold maxLen; omega, fun h => (by cases h), fun x hx j u hu => ?_⟩
 cases hx
 rw [Addr.add_lit]
 exact h j u hu
theorem Sl.ofMid {w : World} {g o n : Nat} {xs : List Value} (h : Arr w g xs) (A C : List Value) (L : List UInt8) (hx : xs = A ++ (u8s L ++ C)) (ho : A.length = o) (hl : L.length = n) (hn : n ≤ 1000) : Sl w (.slice (some ⟨g, o, none⟩) n n) (u8s L) :=
 Sl.ofRng (h.range (fun j hj => by rw [hx]; exact get_mid ho j hj)) hl hn
section
variable {w : World} {g : Nat} {v b : Int} {root : Nat} {wv : Value} {i : Int} {k R1 s1 R s : Nat}
theorem mnf_root (h : Arr w g (mnfL v b root wv i k R1 s1 R s)) : Sl w (.slice (some ⟨g, 2, none⟩) 32 32) (u8s (nb 32 root)) :=
 Sl.ofMid h [.int .i64 v, .int .i64 b] _ (nb 32 root) (by rw [mnfL, nb_u8s]; rfl) rfl (nb_len _ _) zDc
theorem mnf_key (h : Arr w g (mnfL v b root wv i k R1 s1 R s)) : Sl w (.slice (some ⟨g, 36, none⟩) 32 32) (u8s (nb 32 k)) :=
 Sl.ofMid h (.int .i64 v :: .int .i64 b :: (bytn 32 root ++ [wv, .int .i64 i])) (sgL R1 s1 ++ sgL R s) (nb 32 k) (by rw [mnfL, crtL, byts_nb]; simp) (by simp [bytn_len]) (nb_len _ _) zDc
theorem mnf_csig (h : Arr w g (mnfL v b root wv i k R1 s1 R s)) : Sl w (.slice (some ⟨g, 68, none⟩) 64 64) (u8s (nb 32 R1 ++ nb 32 s1)) :=
 Sl.ofMid h (.int .i64 v :: .int .i64 b :: (bytn 32 root ++ (wv :: .int .i64 i :: byts k))) (sgL R s) (nb 32 R1 ++ nb 32 s1) (by rw [mnfL, crtL, u8s_append, sgL_u8s]; simp) (by simp [bytn_len, byts_len]) (by simp [nb_len]) zDc
theorem mnf_sig (h : Arr w g (mnfL v b root wv i k R1 s1 R s)) : Sl w (.slice (some ⟨g, 132, none⟩) 64 64) (u8s (nb 32 R ++ nb 32 s)) :=
 Sl.ofMid h (.int .i64 v :: .int .i64 b :: (bytn 32 root ++ (wv :: crtL i k R1 s1))) [] (nb 32 R ++ nb 32 s) (by rw [mnfL, u8s_append, sgL_u8s]; simp) (by simp [bytn_len, crtL_len]) (by simp [nb_len]) zDc
theorem mnf_wv (h : Arr w g (mnfL v b root wv i k R1 s1 R s)) : w.cell? ⟨g, 34, none⟩ = some wv :=
 h.cell (by have q := get_mid (A := .int .i64 v :: .int .i64 b :: bytn 32 root) (B := [wv]) (C := crtL i k R1 s1 ++ sgL R s) (o := 34) (by simp [bytn_len]) 0 (by simp); simpa [mnfL] using q)
theorem mnf_id (h : Arr w g (mnfL v b root wv i k R1 s1 R s)) : w.cell? ⟨g, 35, none⟩ = some (.int .i64 i) :=
 h.cell (by have q := get_mid (A := .int .i64 v :: .int .i64 b :: (bytn 32 root ++ [wv])) (B := [.int .i64 i]) (C := byts k ++ sgL R1 s1 ++ sgL R s) (o := 35) (by simp [bytn_len]) 0 (by simp); simpa [mnfL, crtL] using q)
end
theorem mmay_ok (v b : Int) (root : Nat) (a : Option Addr) (c : Nat) (i : Int) (k R1 s1 R s : Nat) (hv : 0 ≤ v) (hv2 : v ≤ 2147483647) (hb : 1 ≤ b) (hb2 : b ≤ 32) (hi : mayI i = true) (w : World) :
 Calls Tryz.prog 118 #[.agg (mnfL v b root (.slice a 80 c) i k R1 s1 R s).toArray] w fun e w' => e = .returned (.bool true) ∧ Below w.heap.size w w' := by
 have cM := zH (fun w => show Calls Tryz.prog 61 #[.int .i64 i] w fun e w' => e = .returned (.bool true) ∧ Below w.heap.size w w' from by rw [← hi]; exact cmay_any i w)
 clear hi
 go_enter Tryz.func118, Tryz.ntmps118
 go_upto_region 1 with fail
 refine wp_new1 (fun W hsz k1 kb => ?_)
 replace k1 : Arr W w.heap.size (mnfL v b root (.slice a 80 c) i k R1 s1 R s) := k1
 clear hsz
 have y0 := k1.cell (j := 0) (u := .int .i64 v) rfl
 have y1 := k1.cell (j := 1) (u := .int .i64 b) rfl
 have y34 := mnf_wv k1
 have y35 := mnf_id k1
 clear k1
 go_wp2_with fail
 refine (cM.out _).mono ?_
 rintro e w1 ⟨rfl, hb⟩
 replace kb := bel kb hb
 clear hb y0 y1 y34 y35
 go_wp2_with fail
 go_ret
 exact ⟨rfl, kb⟩
def pcm1 : List UInt8 := [80, 67, 77, 49]
def mbodyB (v b : Int) (root : Nat) (wl : List UInt8) (i : Int) (k R1 s1 : Nat) : List UInt8 := pcm1 ++ be8s [v, b] ++ nb 32 root ++ wl ++ be8s [i] ++ nb 32 k ++ (nb 32 R1 ++ nb 32 s1)
theorem mbody_ok (v b : Int) (root : Nat) (a : Option Addr) (c : Nat) (wl : List UInt8) (hwl : wl.length = 80) (i : Int) (k R1 s1 R s : Nat) (hv : 0 ≤ v) (hv2 : v ≤ 2147483647) (hb : 1 ≤ b) (hb2 : b ≤ 32) (hi : mayI i = true) (w : World) (hw : Sl w (.slice a 80 c) (u8s wl)) :
 Calls Tryz.prog 68 #[.agg (mnfL v b root (.slice a 80 c) i k R1 s1 R s).toArray] w fun e w' =>
  ∃ u, e = .returned (.tuple #[u, .int .i64 0]) ∧ w'.ownsRow w.heap.size 5 1 u 236 (u8s (mbodyB v b root wl i k R1 s1)) ∧ Below w.heap.size w w' := by
 have cM := zH (fun w => mmay_ok v b root a c i k R1 s1 R s hv hv2 hb hb2 hi w)
 have cI1 := zH (fun w' vb vn (h1 : Sl w' vb (u8s pcm1)) (h2 : Sl w' vn [.int .i64 v, .int .i64 b]) => packInt_any vb vn pcm1 [v, b] w' h1 h2 (by simp [pcm1]))
 have hlen := mnfL_len v b root (.slice a 80 c) i k R1 s1 R s
 replace hw := zH hw
 clear hv hv2 hb hb2 hi
 go_enter Tryz.func68, Tryz.ntmps68
 go_upto_region 1 with fail
 refine wp_new1 (fun W hsz k1 kb => ?_)
 replace k1 : Arr W w.heap.size (mnfL v b root (.slice a 80 c) i k R1 s1 R s) := k1
 clear hsz
 go_wp2_with (refine wpList_load_arr2 rfl _ _ rfl _ rfl zDk _ k1 (by rw [hlen]; kernel_rfl) ?_)
 refine (cM.out _).mono ?_
 rintro e w_1 ⟨rfl, hb_1⟩
 have k1 := k1.below hb_1
 have kb := bel kb hb_1
 clear hb_1
 go_upto_region 3 with fail
 have kb4 := below_alloc (w_1) (.cells #[.int .u8 80, .int .u8 67, .int .u8 77, .int .u8 49] 5 (4, 5))
 have y0 := (k1.below kb4).cell (j := 0) (u := .int .i64 v) rfl
 have y1 := (k1.below kb4).cell (j := 1) (u := .int .i64 b) rfl
 have hcv := fun (w : World) (C : Array Value) (n c : Nat) => Lib.run_convert_bytes_const (P := Tryz.prog) w 22 5 C n c Tryz.underlying22 Tryz.underlying5
 have h1 := zH (show Sl ((w_1).alloc (.cells #[.int .u8 80, .int .u8 67, .int .u8 77, .int .u8 49] 5 (4, 5))) (.slice (some ⟨(w_1).heap.size, 0, none⟩) 4 4) (u8s pcm1) from Sl.newMk _ _ _ _ _ rfl 4 rfl zDc)
 have h2 := zH (Sl.newMk ((w_1).alloc (.cells #[.int .u8 80, .int .u8 67, .int .u8 77, .int .u8 49] 5 (4, 5))) #[.int .i64 v, .int .i64 b] 3 (0, 0) ((w_1).heap.size + 1) (by simp) 2 rfl zDc)
 have kb5 := bel kb4 (below_alloc ((w_1).alloc (.cells #[.int .u8 80, .int .u8 67, .int .u8 77, .int .u8 49] 5 (4, 5))) (.cells #[.int .i64 v, .int .i64 b] 3))
 go_wp2_with fail
 refine (cI1.out _ _ _ (h1.out.alloc _) h2.out).mono ?_
 rintro e w2 ⟨u4, rfl, ho4, hb2⟩
 rw [show (pcm1 ++ be8s [v, b]).length = 20 by rw [List.length_append, be8s_len]; rfl] at ho4
 replace ho4 := own_mono ho4 kb5.size
 have hbW := ext_trans kb5 (Nat.le_refl _) hb2
 have lt1 := k1.lt
 clear hb2 kb5 kb4 y0 y1 h1 h2 cI1 hcv hlen cM
 obtain ⟨w1, hw1⟩ : ∃ x, w_1 = x := ⟨_, rfl⟩
 rw [hw1] at ho4 hbW k1 kb lt1
 clear hw1
 obtain ⟨T1, hT1⟩ : ∃ T, pcm1 ++ be8s [v, b] = T := ⟨_, rfl⟩
 rw [hT1] at ho4
 obtain ⟨ii, hii, hz0, hz1, hz2⟩ := info_parts info_u8
 go_upto_region 4 with fail
 refine Tx.start (fun w' => Below w1.heap.size w1 w') 9999 8 rfl zKr ?_
 have hS_x := hbW.drew
 refine Tx.seg (A := ?_) 3 55 zKr (by exact hS_x) [0, 1, 2, 4, 5] zKr ?_ ?_
 rotate_left
 · intro w' hB
   have y34 := mnf_wv (k1.below hB)
   exact zRd
 refine Tx.eff 3 63 rfl zDk (fun K hK => ?_)
 refine step_append_sl rfl _ _ 22 rfl w1.heap.size 5 Tryz.underlying22 hii hz0 hz1 hz2 rfl u4 20 (u8s T1) rfl (own_below ho4 (Below.refl _ _).drew) _ (u8s (nb 32 root)) rfl (mnf_root (k1.below hS_x)) (u8s_one _) ?c1 ?c2 hS_x.size ?_
 case c1 => rw [u8s_len, nb_len]; decide
 case c2 => rw [u8s_len, nb_len]; decide
 intro u5 wa ho5 hga
 have hS_a := hS_x.grown hga hS_x.size (own_block ho4)
 rw [u8s_len, nb_len, ← u8s_append] at ho5
 clear hga ho4
 refine hK (fun w' => Below (w1).heap.size (w1) w') _ _ hS_a (fun _ h => h) ?_
 clear hK K
 try simp only [Act.put, zSa, zSz, zSs]
 refine Tx.eff 6 127 rfl zDk (fun K hK => ?_)
 refine step_append_sl rfl _ _ 22 rfl w1.heap.size 5 Tryz.underlying22 hii hz0 hz1 hz2 rfl u5 52 _ rfl ho5 _ (u8s wl) rfl (hw.out.below (bel kb hS_a)) (u8s_one _) ?c1 ?c2 hS_a.size ?_
 case c1 => rw [u8s_len, hwl]; decide
 case c2 => rw [u8s_len, hwl]; decide
 intro u6 wb ho6 hgb
 have hS_b := hS_a.grown hgb hS_a.size (own_block ho5)
 rw [u8s_len, hwl, ← u8s_append] at ho6
 clear hgb ho5 hS_a hS_x hbW
 refine hK (fun w' => Below (w1).heap.size (w1) w') _ _ hS_b (fun _ h => h) ?_
 clear hK K
 try simp only [Act.put, zSa, zSz, zSs]
 refine Tx.seg (A := ?_) 0 255 zKr (by exact hS_b) [7] zKr ?_ ?_
 rotate_left
 · intro w' hB
   exact zRd
 refine Tx.done zKr ?_
 obtain ⟨T3, hT3⟩ : ∃ T, T1 ++ nb 32 root ++ wl = T := ⟨_, rfl⟩
 rw [hT3] at ho6
 have hT3l : Hid (T3.length = 132) := zH (by rw [← hT3, ← hT1]; simp [pcm1, be8s_len, nb_len, hwl])
 go_upto_region 5 with fail
 refine Tx.start (fun w' => Below w1.heap.size w1 w') 9999 11 rfl zKr ?_
 have hS_y := hS_b.drew
 refine Tx.seg (A := ?_) 4 463 zKr (by exact hS_y) [0, 1, 2, 3, 6, 7, 8] zKr ?_ ?_
 rotate_left
 · intro w' hB
   have y35 := mnf_id (k1.below hB)
   exact zRd
 refine Tx.eff 4 479 rfl zDk (fun K hK => ?_)
 go_simp
 refine hK (fun w' => Below (w1).heap.size (w1) w') _ _ (ext_trans hS_y (Nat.le_refl _) (below_alloc _ _)) (fun _ h => h) ?_
 clear hK K
 try simp only [Act.put, zSa, zSz, zSs]
 refine Tx.newF (F := fun w' => Sl w' (.slice (some ⟨(wb.drew).heap.size, 0, none⟩) 1 1) [.int .i64 i]) (w0 := wb.drew) (Sl.new1 _ _ _) (fun w1 h => h.below (Below.refl _ _).drew) (by first | exact .inl rfl | exact .inr rfl) (fun w_2 h4 hb_2 => ?_)
 have hS_2 : Below (w1).heap.size (w1) w_2 := by first | exact hb_2 | exact ext_trans hS_y (Nat.le_refl _) hb_2
 clear hS_y
 have hM := (hS_2).size
 have cI2 := zH (fun w' vb vn (h1 : Sl w' vb (u8s T3)) (h2 : Sl w' vn [.int .i64 i]) => packInt_any vb vn T3 [i] w' h1 h2 (by rw [hT3l.out]; simp))
 refine Tx.eff 5 511 rfl zDk (fun K hK => ?_)
 go_simp
 refine (cI2.out _ _ _ ((Sl.of_own (own_below ho6 (Below.refl _ _).drew)).below hb_2) h4).mono ?_
 rintro e w_3 ⟨u7, rfl, ho7, hb_3⟩
 have hS_3 := ext_trans hS_2 (Nat.le_refl _) hb_3
 refine hK (fun w' => Below (w1).heap.size (w1) w') _ _ hS_3 (fun _ h => h) ?_
 clear hK K hS_2
 try simp only [Act.put, zSa, zSz, zSs]
 replace ho7 := own_mono ho7 hM
 rw [show (T3 ++ be8s [i]).length = 140 by rw [List.length_append, be8s_len, hT3l.out]; rfl] at ho7
 refine Tx.eff 9 1023 rfl zDk (fun K hK => ?_)
 refine step_append_sl rfl _ _ 22 rfl w1.heap.size 5 Tryz.underlying22 hii hz0 hz1 hz2 rfl u7 140 _ rfl ho7 _ (u8s (nb 32 k)) rfl (mnf_key (k1.below hS_3)) (u8s_one _) ?c1 ?c2 (hS_3).size ?_
 case c1 => rw [u8s_len, nb_len]; decide
 case c2 => rw [u8s_len, nb_len]; decide
 intro u8 wc ho8 hgc
 have hS_c := (hS_3).grown hgc (hS_3).size (own_block ho7)
 rw [u8s_len, nb_len, ← u8s_append] at ho8
 clear hgc ho7
 refine hK (fun w' => Below (w1).heap.size (w1) w') _ _ hS_c (fun _ h => h) ?_
 clear hK K
 try simp only [Act.put, zSa, zSz, zSs]
 refine Tx.seg (A := ?_) 0 2047 zKr (by exact hS_c) [10] zKr ?_ ?_
 rotate_left
 · intro w' hB
   exact zRd
 refine Tx.done zKr ?_
 clear ho6 h4 hM cI2 hS_b
 go_wp2_with (at_builtin; refine wpList_append_sl rfl _ _ 22 rfl w1.heap.size 5 Tryz.underlying22 hii hz0 hz1 hz2 rfl u8 172 _ rfl ho8 _ (u8s (nb 32 R1 ++ nb 32 s1)) rfl (mnf_csig (k1.below hS_c)) (u8s_one _) ?c1 ?c2 hS_c.size ?_)
 case c1 => simp only [u8s_len, List.length_append, nb_len]; decide
 case c2 => simp only [u8s_len, List.length_append, nb_len]; decide
 intro u9 wd ho9 hgd
 have hS_d := hS_c.grown hgd hS_c.size (own_block ho8)
 rw [u8s_len, List.length_append, nb_len, nb_len, ← u8s_append] at ho9
 go_wp2_with fail
 go_ret2
 refine ⟨u9, rfl, ?_, bel kb hS_d⟩
 have hfin : T3 ++ (be8s [i] ++ nb 32 k) ++ (nb 32 R1 ++ nb 32 s1) = mbodyB v b root wl i k R1 s1 := by rw [← hT3, ← hT1, mbodyB]; simp only [List.append_assoc]
 rw [hfin] at ho9
 exact own_mono ho9 kb.size
theorem rawS_app {A B : List UInt8} {n : Nat} (h : A.length = n) : rawS (A ++ B) false (n : Int) = (A, B, false) := by
 unfold rawS
 rw [if_neg zDc, if_neg (by rw [List.length_append]; omega)]
 rw [show (n : Int).toNat = n from Int.toNat_natCast n, ← h, List.take_left, List.drop_left]
theorem intS_app {v : Int} {B : List UInt8} (h : -9223372036854775808 ≤ v ∧ v ≤ 9223372036854775807) : intS (be8 v ++ B) false = (v, B, false) := by
 unfold intS
 rw [show (8 : Int) = ((8 : Nat) : Int) from rfl, rawS_app (be8_len v)]
 simp only [sgn_be8 h]
def mpR (v b : Int) (root : Nat) (wl : List UInt8) (i : Int) (k : Nat) (cs sg : List UInt8) : List UInt8 := pcm1 ++ (be8 v ++ (be8 b ++ (nb 32 root ++ (wl ++ (be8 i ++ (nb 32 k ++ (cs ++ (sg ++ []))))))))
theorem mpR_eq (v b : Int) (root : Nat) (wl : List UInt8) (i : Int) (k R1 s1 : Nat) (sg : List UInt8) : mbodyB v b root wl i k R1 s1 ++ sg = mpR v b root wl i k (nb 32 R1 ++ nb 32 s1) sg := by
 simp [mbodyB, mpR, be8s]
end Go.Proofs.YtncnlfpiondpnaaGreat
