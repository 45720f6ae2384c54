/- PortcullisWrong: part 24 of its proof: lemmas and contracts, each with its conditions in its own statement; the last part holds the law itself. -/
import Derived.Test.YtibdgkhkhmdihaaGreatDoorJe23
import Derived.Test.YtibdgkhkhmdihaaGreatDoorJe25

set_option maxHeartbeats 4000000
set_option maxRecDepth 100000
namespace Go.Proofs.YtibdgkhkhmdihaaGreatDoor
open Go.RowKit
theorem run_buildO {P : Program} {a : Act} {o : Oper} {w : World} (t : TypeId) (parts : Array (Nat × Operand)) (ho : o.op = .build t parts) (cells : Array Value) (hc : P.built t (parts.map fun (i, x) => (i, a.eval x)).toList = some cells) :
 (execOp a.eval o).run P w = .ok (.value (.agg cells)) w := by
 unfold execOp
 simp only [ho, Sem.run_bind, run_build w t _ cells hc, Result.andThen_ok]
 rfl
def Ph.sx (n : Nat) (xs : List Value) : Ph := ⟨fun v w => ∃ d : Nat × Nat, v = .slice (some ⟨d.1, 0, none⟩) n d.2 ∧ Sl w (.slice (some ⟨d.1, 0, none⟩) n d.2) xs, fun _ _ _ ⟨d, h1, h2⟩ hb => ⟨d, h1, h2.below hb⟩, false, fun h => by cases h⟩
def Ph.tx (B : Nat) (v b : Int) (root : Nat) (i : Int) (k R1 s1 R s : Nat) (wl : List UInt8) : Ph := ⟨fun x w => ∃ d : Nat × Nat, x = .tuple #[.agg (mnfL v b root (.slice (some ⟨d.1, 0, none⟩) 80 d.2) i k R1 s1 R s).toArray, .int .i64 0] ∧ w.ownsRow B 5 1 (.slice (some ⟨d.1, 0, none⟩) 80 d.2) 80 (u8s wl), fun _ _ _ ⟨d, h1, h2⟩ hb => ⟨d, h1, own_below h2 hb⟩, false, fun h => by cases h⟩
def Ph.mx (B : Nat) (v b : Int) (root : Nat) (i : Int) (k R1 s1 R s : Nat) (wl : List UInt8) : Ph := ⟨fun x w => ∃ d : Nat × Nat, x = .agg (mnfL v b root (.slice (some ⟨d.1, 0, none⟩) 80 d.2) i k R1 s1 R s).toArray ∧ w.ownsRow B 5 1 (.slice (some ⟨d.1, 0, none⟩) 80 d.2) 80 (u8s wl), fun _ _ _ ⟨d, h1, h2⟩ hb => ⟨d, h1, own_below h2 hb⟩, false, fun h => by cases h⟩
def Ph.at (B : Nat) (xs : List Value) (T : TypeId) : Ph := ⟨fun x w => ∃ g : Nat, x = .pointer (some ⟨g, 0, none⟩) ∧ B ≤ g ∧ w.heap[g]? = some (.cells xs.toArray T (0, 0)), fun _ _ _ ⟨g, h1, h2, h3⟩ hb => ⟨g, h1, h2, by
 have hlt : g < _ := (Array.getElem?_eq_some_iff.1 h3).1
 rw [hb.block g hlt]
 exact h3⟩, false, fun h => by cases h⟩
def ikeyN (k : Nat) (v : Int) : Nat := shaa (nb 32 k ++ be8s [v])
theorem setL_key {w : World} {g r s d k : Nat} (h : Arr w g (setL r s d k)) : Sl w (.slice (some ⟨g, 96, none⟩) 32 32) (u8s (nb 32 k)) :=
 Sl.ofMid h (bytn 32 r ++ (bytn 32 s ++ bytn 32 d)) [] (nb 32 k) (by simp only [setL, nb_u8s, List.append_assoc, List.append_nil]) (by simp [bytn_len]) (nb_len _ _) zDc
theorem setL_r {w : World} {g r s d k : Nat} (h : Arr w g (setL r s d k)) : w.rangeAt g 0 (bytn 32 r) := h.range (fun j hj => get_mid (A := []) rfl j hj)
theorem setL_s {w : World} {g r s d k : Nat} (h : Arr w g (setL r s d k)) : w.rangeAt g 32 (bytn 32 s) := h.range (fun j hj => get_mid (A := bytn 32 r) (bytn_len _ _) j hj)
theorem setL_d {w : World} {g r s d k : Nat} (h : Arr w g (setL r s d k)) : w.rangeAt g 64 (bytn 32 d) := h.range (fun j hj => by
 have q := get_mid (A := bytn 32 r ++ bytn 32 s) (B := bytn 32 d) (C := bytn 32 k) (o := 64) (by simp [bytn_len]) j hj
 rwa [List.append_assoc] at q)
theorem imanifest_r (r s d k : Nat) (id v : Int) (a : Option Addr) (c : Nat) (bs : List UInt8) {KEY PK R1 s1 DR LP RT RS SS n : Nat} {wl : List UInt8} {E : List (List UInt8)}
 (eK : Hid (ikeyN k v = KEY)) (eP : Hid (pubN s = PK)) (e1 : Hid (sgR r (pcct ++ (be8s [id] ++ nb 32 PK)) = R1)) (e2 : Hid (sgS r (pcct ++ (be8s [id] ++ nb 32 PK)) = s1)) (eL : Hid (lmulN d 9 = LP)) (eD : Hid (shaa (nb 32 KEY) = DR)) (eW : Hid (wrapB LP DR KEY = wl))
 (eE : Hid (encB KEY v bs = E)) (en : Hid (nblk bs.length = n)) (eR : Hid (rootN E = RT)) (e3 : Hid (sgR s (mbodyB v n RT wl id PK R1 s1) = RS)) (e4 : Hid (sgS s (mbodyB v n RT wl id PK R1 s1) = SS))
 (hL : bs.length ≤ 2048) (hv : 0 ≤ v) (hv2 : v ≤ 2147483647) (hid : mayI id = true) (hok : (readP PK).2 = true) (hd : d < 256 ^ 32) (hz : lmulN DR LP ≠ 0) (w : World) (h : Sl w (.slice a bs.length c) (u8s bs)) :
 Calls Tryz.prog 50 #[.agg (setL r s d k).toArray, .int .i64 id, .int .i64 v, .slice a bs.length c] w fun e w' =>
  ∃ u dl cl, e = .returned (.tuple #[u, .slice dl n cl, .int .i64 0]) ∧ w'.ownsRow w.heap.size 5 1 u 300 (u8s (mbodyB v n RT wl id PK R1 s1 ++ (nb 32 RS ++ nb 32 SS))) ∧ Sls w' (.slice dl n cl) E ∧ Below w.heap.size w w' := by
 have cI := zH (fun w vn h => packInt1_any vn v w h)
 have cK := zH (fun (w : World) g (h : Sls w (.slice g 2 2) [nb 32 k, be8s [v]]) => show Calls Tryz.prog 20 #[.slice g 2 2] w fun e w' => e = .returned (.agg (bytn 32 KEY).toArray) ∧ Below w.heap.size w w' from by
  have q := shsuma_any g 2 [nb 32 k, be8s [v]] w h
  rw [show [nb 32 k, be8s [v]].flatten = nb 32 k ++ be8s [v] by simp] at q
  rw [← eK.out]
  exact q)
 have cM := zH (fun w h => imake_any KEY v a c bs hL hv hv2 w h)
 rw [eE.out, en.out] at cM
 have cP := zH (fun w => show Calls Tryz.prog 48 #[.agg (bytn 32 s).toArray] w fun e w' => e = .returned (.agg (byts PK).toArray) ∧ Below w.heap.size w w' from by rw [← byts_bytn, ← eP.out]; exact cpublic_any s w)
 have cT := zH (fun w => show Calls Tryz.prog 81 #[.agg (bytn 32 r).toArray, .int .i64 id, .agg (byts PK).toArray] w fun e w' => e = .returned (.tuple #[.agg (crtG r id PK).toArray, .int .i64 0]) ∧ Below w.heap.size w w' from by
  have q := ctsign_any r PK id (by rw [← eP.out]; exact encP_lt _) w
  rw [crtV, crtE, if_pos hid, if_pos hok, if_pos hid, if_pos hok, byts_bytn r] at q
  exact q)
 unfold crtG at cT
 rw [e1.out, e2.out] at cT
 have hWl := wrapB_len LP DR KEY
 have cW := zH (fun w => show Calls Tryz.prog 82 #[.agg (byts LP).toArray, .agg (bytn 32 DR).toArray, .agg (bytn 32 KEY).toArray] w fun e w' => ∃ g c, e = .returned (.tuple #[.slice (some ⟨g, 0, none⟩) 80 c, .int .i64 0]) ∧ Sl w' (.slice (some ⟨g, 0, none⟩) 80 c) (u8s wl) ∧ Below w.heap.size w w' from by
  have q := wrap_any LP DR KEY (by rw [← eL.out]; exact lmul_lt _ _) (by rw [← eD.out]; exact shaa_lt _) hz w
  rw [byts_bytn DR, byts_bytn KEY, eW.out] at q
  exact q)
 rw [eW.out] at hWl
 have cD := zH (fun (w : World) g (h : Sls w (.slice g 1 1) [nb 32 KEY]) => show Calls Tryz.prog 20 #[.slice g 1 1] w fun e w' => e = .returned (.agg (bytn 32 DR).toArray) ∧ Below w.heap.size w w' from by
  have q := shsuma_any g 1 [nb 32 KEY] w h
  rw [show [nb 32 KEY].flatten = nb 32 KEY by simp, eD.out] at q
  exact q)
 have cL := zH (fun w => show Calls Tryz.prog 83 #[.agg (bytn 32 d).toArray] w fun e w' => e = .returned (.agg (byts LP).toArray) ∧ Below w.heap.size w w' from by rw [← byts_bytn, ← eL.out]; exact lpublic_r (zH rfl) hd w)
 have hEl : E.length = n := by rw [← eE.out, ← en.out, encB]; simp
 have hn1 : Hid (1 ≤ n ∧ n ≤ 32) := zH (by rw [← en.out, nblk, piecesN]; split <;> omega)
 have cR := zH (by
  have q := fun w dl cl h => root_any E (by rw [hEl]; have := hn1.out; omega) dl cl w h
  rw [hEl, eR.out] at q
  exact q)
 have cG := zH (fun (w : World) gw cw h => msign_ok s v (n : Int) RT (some ⟨gw, 0, none⟩) cw wl hWl id PK R1 s1 0 0 hv hv2 (by have := hn1.out; omega) (by have := hn1.out; omega) hid w h)
 rw [e3.out, e4.out, byts_bytn] at cG
 have cQ := zH (fun (w : World) gw cw h => mpack_ok v (n : Int) RT (some ⟨gw, 0, none⟩) cw wl hWl id PK R1 s1 RS SS hv hv2 (by have := hn1.out; omega) (by have := hn1.out; omega) hid w h)
 obtain ⟨OUT, hOUT⟩ : ∃ OUT, mbodyB v n RT wl id PK R1 s1 ++ (nb 32 RS ++ nb 32 SS) = OUT := ⟨_, rfl⟩
 rw [hOUT] at cQ ⊢
 obtain ⟨L, hLe⟩ : ∃ L, bs.length = L := ⟨_, rfl⟩
 rw [hLe] at cM h ⊢
 replace h := zH h
 clear eK eP e1 e2 eL eD eW eE en eR e3 e4 hok hd hz hLe hL hid hv hv2 hOUT hEl
 go_enter Tryz.func50, Tryz.ntmps50
 go_upto_region 1 with fail
 refine wp_new1 (fun W hsz k4 kb => ?_)
 replace k4 : Arr W w.heap.size (setL r s d k) := k4
 clear hsz
 have sK := zH (setL_key k4)
 refine Tx.start (fun w' => Below (W).heap.size (W) w') 8 9 rfl zKr ?_
 have hS_1 : Below (W).heap.size (W) (World.drew W) := (Below.refl _ _).drew
 refine Tx.seg2 (A := ?_) 6 7 zKr (by exact hS_1) [0, 1, 2] zKr ?_ ?_
 rotate_left
 · intro w' hB
   exact zRd
 refine Tx.poolB 1 255 [(3, 21), (4, 22), (5, 23), (6, 24), (7, 11)] [(false, []), (false, [(3, 21)]), (false, [(4, 22)]), (false, [(5, 23)]), (false, [])] [(3, Ph.sl 1 [.int .i64 v]), (4, Ph.sx 8 (u8s (be8s [v]))), (5, Ph.sls 2 [nb 32 k, be8s [v]]), (6, Ph.is (.agg (bytn 32 KEY).toArray)), (7, Ph.arr W.heap.size (bytn 32 0))] zKr zKr (by first | assumption | exact (Below.refl _ _).drew) ?_ ?_
 · refine ⟨⟨_, rfl, ?_⟩, ⟨_, rfl, ?_⟩, ⟨_, rfl, ?_⟩, ⟨_, rfl, ?_⟩, ⟨_, rfl, ?_⟩, trivial⟩
   · intro vs w1 hS hE hD K hK
     clear hD
     simp only [fillL, Act.put, zSa, zSz, zSs] at hK ⊢
     go_simp
     exact hK _ _ ⟨_, rfl, Sl.new1 _ _ _⟩ (below_alloc _ _) nofun
   · intro vs w1 hS hE hD K hK
     obtain ⟨q3, -⟩ := hD
     simp only [fillL, Act.put, zSa, zSz, zSs] at hK ⊢
     obtain ⟨d3, e3, hs3⟩ := q3
     rw [e3] at hK ⊢
     rw [show vs _ = _ from e3] at hs3
     clear e3
     go_simp
     refine (cI.out _ _ hs3).mono ?_
     rintro e w2 ⟨g, c', rfl, hsl, hb2⟩
     exact hK _ _ ⟨(g, c'), rfl, hsl⟩ hb2 nofun
   · intro vs w1 hS hE hD K hK
     obtain ⟨q4, -⟩ := hD
     simp only [fillL, Act.put, zSa, zSz, zSs] at hK ⊢
     obtain ⟨d4, e4, hs4⟩ := q4
     rw [e4] at hK ⊢
     clear e4
     go_simp
     exact hK _ _ ⟨_, rfl, Sls.new2 (sK.out.below hS) hs4 _⟩ (below_alloc _ _) nofun
   · intro vs w1 hS hE hD K hK
     obtain ⟨q5, -⟩ := hD
     simp only [fillL, Act.put, zSa, zSz, zSs] at hK ⊢
     obtain ⟨d5, e5, hs5⟩ := q5
     rw [e5] at hK ⊢
     rw [show vs _ = _ from e5] at hs5
     clear e5
     go_simp
     refine (cK.out _ _ hs5).mono ?_
     rintro e w2 ⟨rfl, hb2⟩
     exact hK _ _ rfl hb2 nofun
   · intro vs w1 hS hE hD K hK
     clear hD
     simp only [fillL, Act.put, zSa, zSz, zSs] at hK ⊢
     go_simp
     exact hK _ _ ⟨_, rfl, Nat.le_trans zLe hE.size, Arr.new _ _ _⟩ (below_alloc _ _) (fun _ => ⟨_, rfl, Nat.le_refl _⟩)
 intro vs w_p0 hS_p0 hE_p0 hP hD
 obtain ⟨q3, q4, q5, q6, q7, -⟩ := hP
 simp only [fillL, Act.put, zSa, zSz, zSs]
 obtain ⟨d3, e3, hs3⟩ := q3
 rw [e3]
 rw [show vs _ = _ from e3] at hs3
 clear e3
 obtain ⟨d4, e4, hs4⟩ := q4
 rw [e4]
 clear e4
 obtain ⟨d5, e5, hs5⟩ := q5
 rw [e5]
 rw [show vs _ = _ from e5] at hs5
 clear e5
 rw [show vs 6 = _ from q6]
 clear q6
 obtain ⟨g7, e7, hg7, ha7⟩ := q7
 rw [e7]
 clear e7 hD vs
 clear hs3 hs4 hs5 cI cK sK
 have lt_4 := Nat.lt_of_lt_of_le k4.lt hg7
 have k4 := k4.below hS_p0
 have kb := bel kb hS_p0
 refine Tx.bar 511 rfl zDk (fun K hK => ?_)
 refine step_store_arr rfl _ _ _ rfl _ _ rfl rfl _ zAm zLn zLm zOn ?_
 refine hK (fun _ => True) 9999 _ _ ?_
 clear hK K
 try simp only [Act.put]
 try simp only [zSa, zSz, zSs]
 refine Tx.done zKr ?_
 first | refine then_row ha7 (fun w_2 ha7 hoth hbel => ?_) | refine inb_row ha7 (fun w_2 ha7 hoth hbel => ?_)
 have k4 := hoth _ _ zOm k4
 have kb := hbel _ _ zOm kb
 clear hoth hbel
 have k11 := ha7
 clear ha7
 generalize g7 = g11 at *
 go_wp2_with (refine zLd ?_)
 refine (cM.out _ (h.out.below kb)).mono ?_
 rintro e w3 ⟨dl, cl, rfl, hS, hb⟩
 replace k4 := k4.below hb
 replace k11 := k11.below hb
 replace kb := bel kb hb
 replace hS := zH hS
 have K2 := zH kb
 have hs3 := kb.size
 replace kb : Below w3.heap.size w3 w3 := Below.refl _ _
 clear hb cM
 go_upto_region 5 with fail
 refine Tx.start (fun w' => Below (w3).heap.size (w3) w') 11 13 rfl zKr ?_
 have hS_3 : Below (w3).heap.size (w3) (World.drew w3) := (Below.refl _ _).drew
 refine Tx.seg2 (A := ?_) 8 31 zKr (by exact hS_3) [0, 1, 2, 3, 4] zKr ?_ ?_
 rotate_left
 · intro w' hB
   have yr := setL_r (k4.below hB)
   have ys := setL_s (k4.below hB)
   exact zRm
 refine Tx.poolB 2 2047 [(5, 41), (6, 42), (7, 35), (8, 43), (9, 44), (10, 14)] [(false, []), (false, [(5, 41)]), (true, [(6, 42)]), (true, [(7, 35)]), (true, [(7, 35)]), (false, [])] [(5, Ph.is (.agg (byts PK).toArray)), (6, Ph.is (.tuple #[.agg (crtL id PK R1 s1).toArray, .int .i64 0])), (7, Ph.is (.tuple #[.agg (crtL id PK R1 s1).toArray, .int .i64 0])), (8, Ph.is (.agg (crtL id PK R1 s1).toArray)), (9, Ph.is (.int .i64 0)), (10, Ph.arr (w3).heap.size (crtL 0 0 0 0))] zKr zKr (by first | assumption | exact (Below.refl _ _).drew) ?_ ?_
 · refine ⟨⟨_, rfl, ?_⟩, ⟨_, rfl, ?_⟩, ⟨_, rfl, ?_⟩, ⟨_, rfl, ?_⟩, ⟨_, rfl, ?_⟩, ⟨_, rfl, ?_⟩, trivial⟩
   · intro vs w1 hS hE hD K hK
     clear hD
     simp only [fillL, Act.put, zSa, zSz, zSs] at hK ⊢
     go_simp
     refine (cP.out _).mono ?_
     rintro e w2 ⟨rfl, hb2⟩
     exact hK _ _ rfl hb2 nofun
   · intro vs w1 hS hE hD K hK
     obtain ⟨q5, -⟩ := hD
     simp only [fillL, Act.put, zSa, zSz, zSs] at hK ⊢
     rw [show vs 5 = _ from q5] at hK ⊢
     clear q5
     go_simp
     refine (cT.out _).mono ?_
     rintro e w2 ⟨rfl, hb2⟩
     exact hK _ _ rfl hb2 nofun
   · intro vs w1 hS hE hD
     obtain ⟨q6, -⟩ := hD
     simp only [fillL, Act.put, zSa, zSz, zSs] at ⊢
     rw [show vs 6 = _ from q6] at ⊢
     clear q6
     refine ⟨_, rfl, fun w' => (by first | (go_simp; done) | (go_simp; rfl)), rfl, nofun⟩
   · intro vs w1 hS hE hD
     obtain ⟨q7, -⟩ := hD
     simp only [fillL, Act.put, zSa, zSz, zSs] at ⊢
     rw [show vs 7 = _ from q7] at ⊢
     clear q7
     refine ⟨_, rfl, fun w' => (by first | (go_simp; done) | (go_simp; rfl)), rfl, nofun⟩
   · intro vs w1 hS hE hD
     obtain ⟨q7, -⟩ := hD
     simp only [fillL, Act.put, zSa, zSz, zSs] at ⊢
     rw [show vs 7 = _ from q7] at ⊢
     clear q7
     refine ⟨_, rfl, fun w' => (by first | (go_simp; done) | (go_simp; rfl)), rfl, nofun⟩
   · intro vs w1 hS hE hD K hK
     clear hD
     simp only [fillL, Act.put, zSa, zSz, zSs] at hK ⊢
     go_simp
     exact hK _ _ ⟨_, rfl, Nat.le_trans zLe hE.size, Arr.new _ _ _⟩ (below_alloc _ _) (fun _ => ⟨_, rfl, Nat.le_refl _⟩)
 intro vs w_p5 hS_p5 hE_p5 hP hD
 obtain ⟨q5, q6, q7, q8, q9, q10, -⟩ := hP
 simp only [fillL, Act.put, zSa, zSz, zSs]
 rw [show vs 5 = _ from q5]
 clear q5
 rw [show vs 6 = _ from q6]
 clear q6
 rw [show vs 7 = _ from q7]
 clear q7
 rw [show vs 8 = _ from q8]
 clear q8
 rw [show vs 9 = _ from q9]
 clear q9
 obtain ⟨g10, e10, hg10, ha10⟩ := q10
 rw [e10]
 clear e10 hD vs
 have lt_4 := Nat.lt_of_lt_of_le k4.lt hg10
 have lt_11 := Nat.lt_of_lt_of_le k11.lt hg10
 clear cP cT
 have k4 := k4.below hS_p5
 have k11 := k11.below hS_p5
 have kb := bel kb hS_p5
 refine Tx.bar 4095 rfl zDk (fun K hK => ?_)
 refine step_store_arr rfl _ _ _ rfl _ _ rfl rfl _ zAm zLn zLm zOn ?_
 refine hK (fun _ => True) 9999 _ _ ?_
 clear hK K
 try simp only [Act.put]
 try simp only [zSa, zSz, zSs]
 refine Tx.seg2 (A := ?_) 0 8191 zKr (by exact trivial) [12] zKr ?_ ?_
 rotate_left
 · intro w' hB
   exact zRd
 refine Tx.done zKr ?_
 first | refine then_row ha10 (fun w_4 ha10 hoth hbel => ?_) | refine inb_row ha10 (fun w_4 ha10 hoth hbel => ?_)
 have k4 := hoth _ _ zOm k4
 have k11 := hoth _ _ zOm k11
 have kb := hbel _ _ zOm kb
 clear hoth hbel
 have k14 := ha10
 clear ha10
 generalize g10 = g14 at *
 have sY := zH (show Sl w_4 (.slice (some ⟨g11, 0, none⟩) 32 32) (u8s (nb 32 KEY)) from Sl.ofArrN (by rw [← nb_u8s]; exact k11) (nb_len _ _) zDc)
 go_upto_region 8 with fail
 refine Tx.start (fun w' => Below (w_4).heap.size (w_4) w') 9999 13 rfl zKr ?_
 have hS_5 : Below (w_4).heap.size (w_4) (World.drew w_4) := (Below.refl _ _).drew
 refine Tx.seg2 (A := ?_) 9 75 zKr (by exact hS_5) [0, 1, 3, 6] zKr ?_ ?_
 rotate_left
 · intro w' hB
   have yd := setL_d (k4.below hB)
   have y11 := k11.below hB
   exact zRm
 refine Tx.poolB 6 127 [(2, 51), (4, 53), (5, 54)] [(false, []), (false, []), (false, [(4, 53)])] [(2, Ph.is (.agg (byts LP).toArray)), (4, Ph.sls 1 [nb 32 KEY]), (5, Ph.is (.agg (bytn 32 DR).toArray))] zKr zKr (by first | assumption | exact (Below.refl _ _).drew) ?_ ?_
 · refine ⟨⟨_, rfl, ?_⟩, ⟨_, rfl, ?_⟩, ⟨_, rfl, ?_⟩, trivial⟩
   · intro vs w1 hS hE hD K hK
     clear hD
     simp only [fillL, Act.put, zSa, zSz, zSs] at hK ⊢
     go_simp
     refine (cL.out _).mono ?_
     rintro e w2 ⟨rfl, hb2⟩
     exact hK _ _ rfl hb2 nofun
   · intro vs w1 hS hE hD K hK
     clear hD
     simp only [fillL, Act.put, zSa, zSz, zSs] at hK ⊢
     go_simp
     exact hK _ _ ⟨_, rfl, Sls.new1 (sY.out.below hS) _⟩ (below_alloc _ _) nofun
   · intro vs w1 hS hE hD K hK
     obtain ⟨q4, -⟩ := hD
     simp only [fillL, Act.put, zSa, zSz, zSs] at hK ⊢
     obtain ⟨d4, e4, hs4⟩ := q4
     rw [e4] at hK ⊢
     rw [show vs _ = _ from e4] at hs4
     clear e4
     go_simp
     refine (cD.out _ _ hs4).mono ?_
     rintro e w2 ⟨rfl, hb2⟩
     exact hK _ _ rfl hb2 nofun
 intro vs w_p8 hS_p8 hE_p8 hP hD
 obtain ⟨q2, q4, q5, -⟩ := hP
 simp only [fillL, Act.put, zSa, zSz, zSs]
 rw [show vs 2 = _ from q2]
 clear q2
 obtain ⟨d4, e4, hs4⟩ := q4
 rw [e4]
 rw [show vs _ = _ from e4] at hs4
 clear e4
 rw [show vs 5 = _ from q5]
 clear q5
 clear  hD vs
 clear hs4 cL cD
 refine Tx.eff 7 255 rfl zDk (fun K hK => ?_)
 go_simp
 refine (cW.out _).mono ?_
 rintro e w_6 ⟨gw, cw, rfl, hW, hb_6⟩
 have hS_6 := ext_trans hS_p8 (Nat.le_refl _) hb_6
 refine hK (fun w' => Below (w_4).heap.size (w_4) w') _ _ hS_6 (fun _ h => h) ?_
 clear hK K hS_p8
 try simp only [Act.put, zSa, zSz, zSs]
 refine Tx.seg2 (A := ?_) 0 8191 zKr (by exact hS_6) [8, 9, 10, 11, 12] zKr ?_ ?_
 rotate_left
 · intro w' hB
   exact zRd
 refine Tx.done zKr ?_
 have k4 := k4.below hS_6
 have k11 := k11.below hS_6
 have k14 := k14.below hS_6
 have kb := bel kb hS_6
 clear hS_6
 have hS6 := hS.out.below kb
 have K3 := zH (bel K2.out kb)
 have hs6 := kb.size
 obtain ⟨w6, hw6⟩ : ∃ x, w_6 = x := ⟨_, rfl⟩
 rw [hw6] at hS6 K3 hs6 hW k4 k11 k14 ⊢
 have lt_6 : g14 < w6.heap.size := k14.lt
 clear hw6 hS K2 cW sY kb
 have kb : Below w6.heap.size w6 w6 := Below.refl _ _
 replace hW := zH hW
 replace hS6 := zH hS6
 go_upto_region 11 with fail
 refine Tx.start (fun w' => Below (w6).heap.size (w6) w') 15 17 rfl zKr ?_
 have hS_7 : Below (w6).heap.size (w6) (World.drew w6) := (Below.refl _ _).drew
 refine Tx.seg2 (A := ?_) 9 447 zKr (by exact hS_7) [0, 1, 2, 3, 4, 5, 7, 8] zKr ?_ ?_
 rotate_left
 · intro w' hB
   have ys := setL_s (k4.below hB)
   have y14 := k14.below hB
   exact zRm
 refine Tx.poolB 2 32767 [(6, 69), (9, 72), (10, 73), (11, 62), (12, 74), (13, 75), (14, 16)] [(false, []), (true, [(6, 69)]), (false, [(9, 72)]), (true, [(10, 73)]), (true, [(11, 62)]), (true, [(11, 62)]), (false, [])] [(6, Ph.is (.agg (bytn 32 RT).toArray)), (9, Ph.is (.agg (mnfL v n RT (.slice (some ⟨gw, 0, none⟩) 80 cw) id PK R1 s1 0 0).toArray)), (10, Ph.tx w6.heap.size v n RT id PK R1 s1 RS SS wl), (11, Ph.tx w6.heap.size v n RT id PK R1 s1 RS SS wl), (12, Ph.mx w6.heap.size v n RT id PK R1 s1 RS SS wl), (13, Ph.is (.int .i64 0)), (14, Ph.at w6.heap.size (mnfL 0 0 0 (.slice none 0 0) 0 0 0 0 0 0) 143)] zKr zKr (by first | assumption | exact (Below.refl _ _).drew) ?_ ?_
 · refine ⟨⟨_, rfl, ?_⟩, ⟨_, rfl, ?_⟩, ⟨_, rfl, ?_⟩, ⟨_, rfl, ?_⟩, ⟨_, rfl, ?_⟩, ⟨_, rfl, ?_⟩, ⟨_, rfl, ?_⟩, trivial⟩
   · intro vs w1 hS hE hD K hK
     clear hD
     simp only [fillL, Act.put, zSa, zSz, zSs] at hK ⊢
     go_simp
     refine (cR.out _ _ _ (hS6.out.below hS)).mono ?_
     rintro e w2 ⟨rfl, hb2⟩
     exact hK _ _ rfl hb2 nofun
   · intro vs w1 hS hE hD
     obtain ⟨q6, -⟩ := hD
     simp only [fillL, Act.put, zSa, zSz, zSs] at ⊢
     rw [show vs 6 = _ from q6] at ⊢
     clear q6
     refine ⟨_, rfl, fun w' => run_buildO _ _ rfl (mnfL v n RT (.slice (some ⟨gw, 0, none⟩) 80 cw) id PK R1 s1 0 0).toArray zKr, rfl, nofun⟩
   · intro vs w1 hS hE hD K hK
     obtain ⟨q9, -⟩ := hD
     simp only [fillL, Act.put, zSa, zSz, zSs] at hK ⊢
     rw [show vs 9 = _ from q9] at hK ⊢
     clear q9
     go_simp
     refine (cG.out _ _ _ (hW.out.below hS)).mono ?_
     rintro e w2 ⟨g, c', rfl, hsl, hb2⟩
     exact hK _ _ ⟨(g, c'), rfl, own_mono hsl hS.size⟩ hb2 nofun
   · intro vs w1 hS hE hD
     obtain ⟨q10, -⟩ := hD
     simp only [fillL, Act.put, zSa, zSz, zSs] at ⊢
     obtain ⟨d10, e10, hs10⟩ := q10
     rw [e10] at ⊢
     clear e10
     refine ⟨_, rfl, fun w' => (by first | (go_simp; done) | (go_simp; rfl)), ⟨d10, rfl, hs10⟩, nofun⟩
   · intro vs w1 hS hE hD
     obtain ⟨q11, -⟩ := hD
     simp only [fillL, Act.put, zSa, zSz, zSs] at ⊢
     obtain ⟨d11, e11, hs11⟩ := q11
     rw [e11] at ⊢
     clear e11
     refine ⟨_, rfl, fun w' => (by first | (go_simp; done) | (go_simp; rfl)), ⟨d11, rfl, hs11⟩, nofun⟩
   · intro vs w1 hS hE hD
     obtain ⟨q11, -⟩ := hD
     simp only [fillL, Act.put, zSa, zSz, zSs] at ⊢
     obtain ⟨d11, e11, hs11⟩ := q11
     rw [e11] at ⊢
     clear e11
     refine ⟨_, rfl, fun w' => (by first | (go_simp; done) | (go_simp; rfl)), rfl, nofun⟩
   · intro vs w1 hS hE hD K hK
     clear hD
     simp only [fillL, Act.put, zSa, zSz, zSs] at hK ⊢
     go_simp
     exact hK _ _ ⟨_, rfl, hS.size, heap_alloc_new _ _⟩ (below_alloc _ _) nofun
 intro vs w_p11 hS_p11 hE_p11 hP hD
 obtain ⟨q6, q9, q10, q11, q12, q13, q14, -⟩ := hP
 simp only [fillL, Act.put, zSa, zSz, zSs]
 rw [show vs 6 = _ from q6]
 clear q6
 rw [show vs 9 = _ from q9]
 clear q9
 obtain ⟨d10, e10, hs10⟩ := q10
 rw [e10]
 clear e10
 obtain ⟨d11, e11, hs11⟩ := q11
 rw [e11]
 clear e11
 obtain ⟨d12, e12, hs12⟩ := q12
 rw [e12]
 clear e12
 rw [show vs 13 = _ from q13]
 clear q13
 obtain ⟨d14, e14, hs14⟩ := q14
 rw [e14]
 clear e14
 clear  hD vs
 clear cR cG hs10 hs11
 obtain ⟨hd14, h14⟩ := hs14
 have k16 : Arr w_p11 d14 (mnfL 0 0 0 (.slice none 0 0) 0 0 0 0 0 0) := ⟨_, h14⟩
 refine Tx.bar 65535 rfl zDk (fun K hK => ?_)
 refine step_storeG rfl _ _ _ rfl d14 (mnfL v n RT (.slice (some ⟨d12.1, 0, none⟩) 80 d12.2) id PK R1 s1 RS SS) rfl rfl _ k16 (by rw [mnfL_len]; kernel_rfl) (by rw [mnfL_len, mnfL_len]) (mnfL_one _ _ _ _ _ _ _ _ _ _ rfl) (fun w9 k16 hg hsz => ?_)
 refine hK (fun _ => True) 9999 _ _ ?_
 clear hK K
 try simp only [Act.put]
 try simp only [zSa, zSz, zSs]
 refine Tx.seg2 (A := ?_) 0 131071 zKr (by exact trivial) [16] zKr ?_ ?_
 rotate_left
 · intro w' hB
   exact zRd
 refine Tx.done zKr ?_
 have ho12 := hs12.kept hg (.inr (Ne.symm (cells_not_row h14 zDc hs12)))
 have kb9 := below_of_gr hS_p11 hg hd14 (Below.size hS_p11)
 have hS9 := zH (hS6.out.below kb9)
 have hl12 := zH (Sl.of_own ho12)
 have K9 := zH (bel K3.out kb9)
 clear hs12 ho12 hg hsz kb9 h14 hd14 hS6 K3 hW
 go_wp2_with (refine wpList_load_arr2 rfl _ _ rfl _ rfl zDk _ k16 (by rw [mnfL_len]; kernel_rfl) ?_)
 refine (cQ.out _ _ _ hl12.out).mono ?_
 rintro e w10 ⟨u, rfl, hu, hb⟩
 replace hS9 := zH (hS9.out.below hb)
 have K10 := zH (bel K9.out hb)
 have hu2 := zH (own_mono hu (Below.size K9.out))
 clear cQ hl12 hu hb K9
 go_wp2_with fail
 go_ret3
 exact ⟨u, dl, cl, rfl, hu2.out, hS9.out, K10.out⟩
def imanB (r s d k : Nat) (id v : Int) (bs : List UInt8) : List UInt8 :=
 let KEY := ikeyN k v
 let c := pcct ++ (be8s [id] ++ nb 32 (pubN s))
 let b := mbodyB v (nblk bs.length : Nat) (rootN (encB KEY v bs)) (wrapB (lmulN d 9) (shaa (nb 32 KEY)) KEY) id (pubN s) (sgR r c) (sgS r c)
 b ++ (nb 32 (sgR s b) ++ nb 32 (sgS s b))
theorem imanifest_h (r s d k : Nat) (id v : Int) (a : Option Addr) (c : Nat) (bs : List UInt8) (hL : bs.length ≤ 2048) (hv : 0 ≤ v) (hv2 : v ≤ 2147483647) (hid : mayI id = true) (hd : d < 256 ^ 32) (hok : (readP (pubN s)).2 = true) (hz : lmulN (shaa (nb 32 (ikeyN k v))) (lmulN d 9) ≠ 0) (w : World) (h : Sl w (.slice a bs.length c) (u8s bs)) :
 Calls Tryz.prog 50 #[.agg (setL r s d k).toArray, .int .i64 id, .int .i64 v, .slice a bs.length c] w fun e w' =>
  ∃ u dl cl, e = .returned (.tuple #[u, .slice dl (nblk bs.length) cl, .int .i64 0]) ∧ w'.ownsRow w.heap.size 5 1 u 300 (u8s (imanB r s d k id v bs)) ∧ Sls w' (.slice dl (nblk bs.length) cl) (encB (ikeyN k v) v bs) ∧ Below w.heap.size w w' :=
 imanifest_r r s d k id v a c bs (zH rfl) (zH rfl) (zH rfl) (zH rfl) (zH rfl) (zH rfl) (zH rfl) (zH rfl) (zH rfl) (zH rfl) (zH rfl) (zH rfl) hL hv hv2 hid hok hd hz w h
theorem onew_end (fv : Option Addr) (r s : Nat) (w : World) :
 Calls Tryz.prog 47 #[.pointer fv, .agg (bytn 32 r).toArray, .agg (bytn 32 s).toArray, .int .i64 0] w fun e w' => ∃ q, e = .returned (.pointer (some ⟨q, 0, none⟩)) ∧ w.heap.size ≤ q ∧ Arr w' q (otv fv r s 0 0) ∧ Below w.heap.size w w' := by
 obtain ⟨X, hX⟩ : ∃ X, otv fv r s 0 0 = X := ⟨_, rfl⟩
 rw [hX]
 replace hX := zH hX
 go_enter Tryz.func47, Tryz.ntmps47
 go_upto_region 1 with fail
 refine wp_new2 (fun W hsz k5 k6 kb => ?_)
 replace k5 : Arr W w.heap.size (bytn 32 r) := k5
 replace k6 : Arr W (w.heap.size + 1) (bytn 32 s) := k6
 clear hsz
 go_wp2_with (first | (refine wpList_load_arr2 rfl _ _ rfl _ rfl zDk _ k5 (by rw [bytn_len]; kernel_rfl) ?_) | (refine wpList_load_arr2 rfl _ _ rfl _ rfl zDk _ k6 (by rw [bytn_len]; kernel_rfl) ?_) | (refine wpList_builta rfl _ _ rfl (otv fv r s 0 0).toArray zKr ?_; rw [hX.out]))
 go_ret
 exact ⟨_, rfl, kb.size, Arr.new _ _ _, bel kb (below_alloc _ _)⟩
theorem begin_end (b p q g r s : Nat) (F : Fl) (w : World) (k0 : BkAt w b p q g r s 0 0 (.slice none 0 0) 0 false F) (hd : F.dead = false) (hf : Unmarked F) :
 Calls Tryz.prog 186 #[.pointer (some ⟨b, 0, none⟩)] w fun e w' => e = .returned (.int .i64 0) ∧ BkAt w' b p q g r s 0 0 (.slice none 0 0) 1 false F ∧ Ch [p, g, q, b] w w' := by
 have cC := zH (fun w' (hb : Below w.heap.size w w') => same_below (ocount_any q (some ⟨p, 0, none⟩) r s 0 0 w' (k0.ot.below hb)))
 have cM := zH (fun w' (hb : Below w.heap.size w w') => same_below (omost_any q (some ⟨p, 0, none⟩) r s 0 0 w' (k0.ot.below hb)))
 have cH := zH (fun num w' (hb : Below w.heap.size w w') => has_none b p q g r s 0 0 num (.slice none 0 0) 0 false F w' (k0.bk.below hb) (k0.ot.below hb) (k0.fl.below hb) hd k0.len hf)
 have c0 : Hid (∀ w', Below w.heap.size w w' → w'.cell? ⟨b, 1, none⟩ = some (.pointer (some ⟨q, 0, none⟩))) := zH (fun w' hb => (k0.bk.below hb).cell (j := 1) rfl)
 replace k0 := zH k0
 replace hd := zH hd
 have kb := Below.refl w.heap.size w
 have h1 := c0.out w kb
 clear hf
 go_enter Tryz.func186, Tryz.ntmps186
 go_wp2_with fail
 refine (cC.out _ kb).mono ?_
 rintro e w1 ⟨rfl, hb⟩
 replace kb := bel kb hb
 clear hb h1
 have h1 := c0.out w1 kb
 go_wp2_with fail
 refine (cM.out _ kb).mono ?_
 rintro e w2 ⟨rfl, hb⟩
 replace kb := bel kb hb
 clear hb h1
 go_wp2_with fail
 refine (cH.out 0 _ kb).mono ?_
 rintro e w4 ⟨rfl, hb⟩
 replace kb := bel kb hb
 have k4 := k0.out.below kb
 have h3 := k4.bk.cell (j := 3) rfl
 have f3 := k4.bk.frozen 3
 have hc4 := zH (Ch.of_below (M := [p, g, q, b]) kb)
 clear hb cC cM cH c0 kb
 have hcs : Ch [b] w4 (w4.setCell ⟨b, 3, none⟩ (.int .i64 1)) := Ch.of_gr (gr_cell w4 b 3 _) (by simp)
 have k5 : BkAt (w4.setCell ⟨b, 3, none⟩ (.int .i64 1)) b p q g r s 0 0 (.slice none 0 0) 1 false F :=
  ⟨k4.bk.set 3 (.int .i64 1), k4.ot.ch hcs (by simp; exact Ne.symm k4.bq), k4.fl.ch hcs (by simp; exact Ne.symm k4.bp) (by simp; exact Ne.symm k4.bg), k4.bp, k4.bq, k4.bg, k4.qp, k4.qg, by decide, k4.len⟩
 have hc5 := zH (hc4.out.trans (hcs.mono (by simp)))
 replace k5 := zH k5
 clear k4 hcs hc4
 go_wp2_with fail
 go_ret
 exact ⟨rfl, k5.out, hc5.out⟩
theorem bload_end (b p q g r s : Nat) (F : Fl) (w : World) (k0 : BkAt w b p q g r s 0 0 (.slice none 0 0) 1 false F) :
 Calls Tryz.prog 129 #[.pointer (some ⟨b, 0, none⟩)] w fun e w' => e = .returned (.slice none 0 0) ∧ w' = w := by
 have h2 := k0.bk.cell (j := 2) rfl
 clear k0
 go_enter Tryz.func129, Tryz.ntmps129
 go_wp2_with fail
 refine (clone_nil _).mono ?_
 rintro e w1 ⟨rfl, hw⟩
 obtain rfl : w = w1 := hw.symm
 go_wp2_with fail
 go_ret
 exact ⟨rfl, rfl⟩
def BkEnd (p q g r s : Nat) (F : Fl) (w : World) (e : Ending) (w' : World) : Prop := ∃ b, e = .returned (.tuple #[.pointer (some ⟨b, 0, none⟩), .int .i64 0]) ∧ w.heap.size ≤ b ∧
 BkAt w' b p q g r s 0 0 (.slice none 0 0) 1 false F ∧ Ch [p, g, q] w w'
theorem bopen_end (p q g r s : Nat) (F : Fl) (w : World) (ko : Arr w q (otv (some ⟨p, 0, none⟩) r s 0 0)) (kf : FlAt w p g F) (hqp : q ≠ p) (hqg : q ≠ g) (hlen : 16384 ≤ F.b.length) (hd : F.dead = false) (hf : Unmarked F) :
 Calls Tryz.prog 127 #[.pointer (some ⟨p, 0, none⟩), .pointer (some ⟨q, 0, none⟩)] w (BkEnd p q g r s F w) := by
 have hpl := kf.lt
 have hql := ko.lt
 obtain ⟨L, hL⟩ : ∃ L, F.b.length / 256 = L := ⟨_, rfl⟩
 have hL64 : (64 : Int) ≤ (L : Int) := by omega
 have cS := zH (fsize_any p g F w kf)
 have cD := zH (fdead_any p g F w kf)
 rw [hL] at cS
 rw [hd] at cD
 have kB : BkAt (w.alloc (.cells #[.pointer (some ⟨p, 0, none⟩), .pointer (some ⟨q, 0, none⟩), .slice none 0 0, .int .i64 0, .bool false] 251)) w.heap.size p q g r s 0 0 (.slice none 0 0) 0 false F :=
  ⟨Arr.new w _ _, ko.alloc _, kf.below (below_alloc _ _), by omega, by omega, by omega, hqp, hqg, by decide, hlen⟩
 have cB := zH (begin_end w.heap.size p q g r s F _ kB hd hf)
 clear kB ko kf hqp hqg hlen hd hf hL
 go_enter Tryz.func127, Tryz.ntmps127
 go_wp2_with fail
 refine cS.out.mono ?_
 rintro e w1 ⟨rfl, hw⟩
 obtain rfl : w = w1 := hw.symm
 go_wp2_with fail
 refine cD.out.mono ?_
 rintro e w1 ⟨rfl, hw⟩
 obtain rfl : w = w1 := hw.symm
 clear cS cD
 go_wp2_with fail
 refine cB.out.mono ?_
 rintro e w1 ⟨rfl, kk, hc⟩
 have hcd := zH (Ch.drop (M := [p, g, q]) (Ch.of_below (below_alloc w _)) hc (fun k hk => by
  simp only [List.mem_cons, List.not_mem_nil, or_false] at hk ⊢
  rcases hk with h | h | h | h
  · exact .inl (.inl h)
  · exact .inl (.inr (.inl h))
  · exact .inl (.inr (.inr h))
  · exact .inr zOm))
 clear cB hc
 go_wp2_with fail
 go_ret2
 exact ⟨w.heap.size, rfl, Nat.le_refl _, kk, hcd.out⟩
def DvEnd (p q g r s : Nat) (F : Fl) (w : World) (e : Ending) (w' : World) : Prop := ∃ d c k, e = .returned (.tuple #[.pointer (some ⟨d, 0, none⟩), .int .i64 0]) ∧ w.heap.size ≤ d ∧ w.heap.size ≤ c ∧ d ≠ c ∧
 Arr w' d (dvv p c false) ∧ Arr w' c (coZ k r s (-1)) ∧ Arr w' q (otv (some ⟨p, 0, none⟩) r s 0 0) ∧ FlAt w' p g F ∧ Ch [p, g, q] w w'
theorem dopen_end (p q g r s : Nat) (F : Fl) (w : World) (ko : Arr w q (otv (some ⟨p, 0, none⟩) r s 0 0)) (kf : FlAt w p g F) (hqp : q ≠ p) (hqg : q ≠ g) (hlen : 32768 ≤ F.b.length) (hd : F.dead = false) (hf : Unmarked F) :
 Calls Tryz.prog 79 #[.pointer (some ⟨p, 0, none⟩), .pointer (some ⟨q, 0, none⟩)] w (DvEnd p q g r s F w) := by
 have hpl := kf.lt
 have hql := ko.lt
 obtain ⟨L, hL⟩ : ∃ L, F.b.length / 256 = L := ⟨_, rfl⟩
 have hL64 : (128 : Int) ≤ (L : Int) := by omega
 have cS := zH (fsize_any p g F w kf)
 rw [hL] at cS
 have cB := zH (bopen_end p q g r s F w ko kf hqp hqg zOm hd hf)
 replace hlen := zH hlen
 clear ko kf hqp hqg hd hf hL
 go_enter Tryz.func79, Tryz.ntmps79
 go_wp2_with fail
 refine cS.out.mono ?_
 rintro e w1 ⟨rfl, hw⟩
 obtain rfl : w = w1 := hw.symm
 clear cS
 go_wp2_with fail
 refine cB.out.mono ?_
 rintro e w1 ⟨b, rfl, hb0, kk, hc⟩
 have hlen' : 32768 ≤ F.b.length := hlen.out
 clear cB hlen hL64
 have hcs := hc.size
 replace hc := zH hc
 have cL := zH (bload_end b p q g r s F w1 kk)
 have cV := zH (fun i (hi : i < 2) w' (hb : Below w1.heap.size w1 w') => vnew_any p g i F w' (kk.fl.below hb) hlen' hi)
 have cR := zH (fun w' (hb : Below w1.heap.size w1 w') => oroot_any q (some ⟨p, 0, none⟩) r s 0 0 w' (kk.ot.below hb))
 have cT := zH (fun w' (hb : Below w1.heap.size w1 w') => osecret_any q (some ⟨p, 0, none⟩) r s 0 0 w' (kk.ot.below hb))
 replace kk := zH kk
 clear hlen'
 go_wp2_with fail
 refine cL.out.mono ?_
 rintro e w2 ⟨rfl, hw⟩
 obtain rfl : w1 = w2 := hw.symm
 clear cL
 go_wp2_with fail
 refine (dstate_nil _).mono ?_
 rintro e w2 ⟨rfl, kb⟩
 go_upto_region 9 with (refine wpl_storeG rfl _ _ _ rfl _ stZ rfl rfl _ (Arr.new _ _ _) zKr (by rfl) stZ_one (fun w4 k6 hg hsz => ?_))
 replace kb := bel kb (below_fresh hg)
 have hw2 : w1.heap.size ≤ w4.heap.size := kb.size
 have h8 := k6.lt
 obtain ⟨g8, hg8⟩ : ∃ g, w2.heap.size = g := ⟨_, rfl⟩
 rw [hg8] at k6 h8 ⊢
 clear hg hsz hg8
 go_upto_region 10 with fail
 have kb2 := below_alloc w4 (.cells #[.pointer (some ⟨q, 0, none⟩), .pointer (some ⟨b, 0, none⟩), .pointer none, .pointer none] 195)
 have k9 : Arr (w4.alloc (.cells #[.pointer (some ⟨q, 0, none⟩), .pointer (some ⟨b, 0, none⟩), .pointer none, .pointer none] 195)) w4.heap.size [.pointer (some ⟨q, 0, none⟩), .pointer (some ⟨b, 0, none⟩), .pointer none, .pointer none] := Arr.new _ _ _
 replace k6 := k6.below kb2
 replace kb := bel kb kb2
 obtain ⟨W, hW⟩ : ∃ W, w4.alloc (.cells #[.pointer (some ⟨q, 0, none⟩), .pointer (some ⟨b, 0, none⟩), .pointer none, .pointer none] 195) = W := ⟨_, rfl⟩
 obtain ⟨g9, hg9⟩ : ∃ g, w4.heap.size = g := ⟨_, rfl⟩
 rw [hW] at k6 k9 kb ⊢
 rw [hg9] at k9 h8 hw2 ⊢
 clear hW hg9 kb2
 go_wp2_with fail
 go_loopw [44] (fun iv wr => ∃ (i : Nat) (xs : List Value), i ≤ 2 ∧ iv = .int .i64 i ∧ xs.length = 4 ∧ Arr wr g9 xs ∧ Arr wr g8 stZ ∧ Below w1.heap.size w1 wr) (fun iv _ => 2 - (intOf iv).toNat)
 case atStart => exact ⟨0, _, by omega, rfl, rfl, k9, k6, kb⟩
 case round =>
 clear k6 k9 kb
 obtain ⟨i, xs, hi, rfl, hxl, k9, k8, kb⟩ := hrel
 have hi0 : (0 : Int) ≤ (i : Int) := by omega
 by_cases hin : i < 2
 · have hi1 : (i : Int) < 2 := by omega
   have cVi := zH (cV.out i hin)
   go_upto_region 13 with fail
   obtain ⟨wq, rfl⟩ : ∃ wq : World, wq = wr := ⟨_, rfl⟩
   refine Tx.start (fun w' => Below (wq).heap.size (wq) w') 11 12 rfl zKr ?_
   have hS_1 : Below (wq).heap.size (wq) (World.drew wq) := (Below.refl _ _).drew
   refine Tx.seg2 (A := ?_) 6 783 zKr (by exact hS_1) [0, 1, 2, 3, 8, 9] zKr ?_ ?_
   rotate_left
   · intro w' hB
     exact zRd
   refine Tx.eff 4 799 rfl zDk (fun K hK => ?_)
   go_simp
   refine (cVi.out _ (bel kb hS_1)).mono ?_
   rintro e w_2 ⟨a, rfl, hb_2⟩
   have hS_2 := ext_trans hS_1 (Nat.le_refl _) hb_2
   refine hK (fun w' => Below (wq).heap.size (wq) w') _ _ hS_2 (fun _ h => h) ?_
   clear hK K hS_1
   try simp only [Act.put, zSa, zSz, zSs]
   refine Tx.seg2 (A := ?_) 4 831 zKr (by exact hS_2) [5] zKr ?_ ?_
   rotate_left
   · intro w' hB
     exact zRd
   refine Tx.pure (A := ?_) 3 959 zKr (by exact hS_2) [7] zKr ?_ ?_
   rotate_left
   · intro w'
     iterate 1 (first | (refine rd_skip rfl rfl ?_; simp only [Act.put, zSa, zSz, zSs]) | (refine rd_take (v := ?_) rfl rfl ?_ ?_; rotate_left; (focus (go_simp; try (with_reducible rfl))); simp only [Act.put, zSa, zSz, zSs]))
     exact rd_nil
   refine Tx.seg2 (A := ?_) 1 2047 zKr (by exact hS_2) [6, 10] zKr ?_ ?_
   rotate_left
   · intro w' hB
     exact zRd
   have k9 := k9.below hS_2
   have k8 := k8.below hS_2
   replace kb := bel kb hS_2
   obtain ⟨u, hu⟩ : ∃ u, xs[2 + i]? = some u := ⟨xs[2 + i]'zOm, List.getElem?_eq_getElem zOm⟩
   have hcel := k9.cell hu
   have hfro := k9.frozen (2 + i)
   refine Tx.bar 4095 rfl zDk (fun K hK => ?_)
   go_simp
   refine hK (fun _ => True) 9999 _ _ ?_
   clear hK K
   try simp only [Act.put]
   try simp only [zSa, zSz, zSs]
   refine Tx.done zKr ?_
   clear hcel hfro
   have kg := gr_cell w_2 g9 (2 + i) (.pointer (some ⟨a, 0, none⟩))
   have k9 : Arr (w_2.setCell ⟨g9, 2 + i, none⟩ (.pointer (some ⟨a, 0, none⟩))) g9 (xs.set (2 + i) (.pointer (some ⟨a, 0, none⟩))) := k9.set (2 + i) (.pointer (some ⟨a, 0, none⟩))
   generalize (w_2.setCell ⟨g9, 2 + i, none⟩ (.pointer (some ⟨a, 0, none⟩))) = w5 at *
   have k8 := k8.kept kg zOm
   have kb := below_gr kb kg hw2 kb.size
   go_wp2_with fail
   exact ⟨⟨i + 1, _, by omega, by go_num, by rw [List.length_set]; exact hxl, k9, k8, kb⟩, by simp [intOf]; omega⟩
 · have dj : decide ((i : Int) < 2) = false := decide_eq_false zOm
   have cC := zH (fun w' => cnew_any g9 r s w')
   clear cV hi hi0 hin hxl hb0
   go_upto_region 15 with fail
   obtain ⟨wq, rfl⟩ : ∃ wq : World, wq = wr := ⟨_, rfl⟩
   refine Tx.start (fun w' => Below (wq).heap.size (wq) w') 9999 13 rfl zKr ?_
   have hS_3 : Below (wq).heap.size (wq) (World.drew wq) := (Below.refl _ _).drew
   refine Tx.seg (A := ?_) 7 175 zKr (by exact hS_3) [0, 1, 2, 3, 5, 7] zKr ?_ ?_
   rotate_left
   · intro w' hB
     have y8 := k8.below hB
     exact zRd
   refine Tx.eff 4 191 rfl zDk (fun K hK => ?_)
   go_simp
   refine (cR.out _ (bel kb hS_3)).mono ?_
   rintro e w_4 ⟨rfl, hb_4⟩
   have hS_4 := ext_trans hS_3 (Nat.le_refl _) hb_4
   refine hK (fun w' => Below (wq).heap.size (wq) w') _ _ hS_4 (fun _ h => h) ?_
   clear hK K hb_4 hS_3
   try simp only [Act.put, zSa, zSz, zSs]
   refine Tx.eff 6 255 rfl zDk (fun K hK => ?_)
   go_simp
   refine (cT.out _ (bel kb hS_4)).mono ?_
   rintro e w_5 ⟨rfl, hb_5⟩
   have hS_5 := ext_trans hS_4 (Nat.le_refl _) hb_5
   refine hK (fun w' => Below (wq).heap.size (wq) w') _ _ hS_5 (fun _ h => h) ?_
   clear hK K hb_5 hS_4
   try simp only [Act.put, zSa, zSz, zSs]
   have hs5 := (hS_5).size
   have hsq := kb.size
   refine Tx.eff 8 511 rfl zDk (fun K hK => ?_)
   go_simp
   refine (cC.out _).mono ?_
   rintro e w_6 ⟨c, rfl, hcg, kc, hb_6⟩
   have hS_6 := ext_trans hS_5 (Nat.le_refl _) hb_6
   refine hK (fun w' => Below (wq).heap.size (wq) w') _ _ hS_6 (fun _ h => h) ?_
   clear hK K hS_5
   try simp only [Act.put, zSa, zSz, zSs]
   refine Tx.seg (A := ?_) 3 1023 zKr (by exact hS_6) [9] zKr ?_ ?_
   rotate_left
   · intro w' hB
     exact zRd
   refine Tx.eff 10 2047 rfl zDk (fun K hK => ?_)
   go_simp
   have kd : Arr (w_6.alloc (.cells #[.pointer (some ⟨p, 0, none⟩), .pointer (some ⟨c, 0, none⟩), .bool false] 151)) w_6.heap.size (dvv p c false) := Arr.new _ _ _
   have kb6 := below_alloc w_6 (.cells #[.pointer (some ⟨p, 0, none⟩), .pointer (some ⟨c, 0, none⟩), .bool false] 151)
   have hlt6 := kc.lt
   replace kc := kc.below kb6
   have hS7 := bel hS_6 kb6
   have hw6 := (hS_6).size
   refine hK (fun w' => Below wq.heap.size wq w') _ _ hS7 (fun _ h => h) ?_
   clear hK K
   try simp only [Act.put, zSa, zSz, zSs]
   refine Tx.seg (A := ?_) 0 8191 zKr (by exact hS7) [11, 12] zKr ?_ ?_
   rotate_left
   · intro w' hB
     exact zRd
   refine Tx.done zKr ?_
   have kb := bel kb hS7
   have hcg2 : w.heap.size ≤ c := by omega
   have hd2 : w.heap.size ≤ w_6.heap.size := by omega
   obtain ⟨W7, hW7⟩ : ∃ W, w_6.alloc (.cells #[.pointer (some ⟨p, 0, none⟩), .pointer (some ⟨c, 0, none⟩), .bool false] 151) = W := ⟨_, rfl⟩
   rw [hW7] at kb kc kd ⊢
   go_wp2_with fail
   go_ret2
   exact ⟨_, c, g9, rfl, hd2, hcg2, by omega, kd, kc, kk.out.ot.below kb, kk.out.fl.below kb, hc.out.trans (Ch.of_below kb)⟩
end Go.Proofs.YtibdgkhkhmdihaaGreatDoor
