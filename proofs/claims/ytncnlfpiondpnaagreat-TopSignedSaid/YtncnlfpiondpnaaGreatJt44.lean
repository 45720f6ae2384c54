/- TopSigned: part 44 of its proof: lemmas and contracts, each with its conditions in its own statement; the last part holds the law itself. -/
import Derived.Lib.Builder
import Derived.Lib.AppendStr
import Derived.Test.YtncnlfpiondpnaaGreatJt41
import Derived.Test.YtncnlfpiondpnaaGreatJt39
import Derived.Test.YtncnlfpiondpnaaGreatJt43

set_option maxHeartbeats 4000000
set_option maxRecDepth 100000
namespace Go.Proofs.YtncnlfpiondpnaaGreat
open Go.RowKit
structure Plr where
 root : Nat
 sig : Nat
 dev : Nat
 key : Nat
 man : Value
 bl : Value
 f : Value
 o : Value
 d : Value
def setL (r s d k : Nat) : List Value := bytn 32 r ++ (bytn 32 s ++ (bytn 32 d ++ bytn 32 k))
theorem setL_len (r s d k : Nat) : (setL r s d k).length = 128 := by simp [setL, bytn_len]
def Plr.cs (X : Plr) (a u : Value) : List Value := setL X.root X.sig X.dev X.key ++ [X.man, X.bl, X.f, X.o, X.d, a, u]
theorem Plr.len (X : Plr) (a u : Value) : (X.cs a u).length = 135 := by simp [Plr.cs, setL_len]
theorem Plr.at (X : Plr) (a u : Value) {j : Nat} : (X.cs a u)[128 + j]? = [X.man, X.bl, X.f, X.o, X.d, a, u][j]? := by
 rw [Plr.cs, List.getElem?_append_right (by rw [setL_len]; exact Nat.le_add_right _ _), setL_len, Nat.add_sub_cancel_left]
theorem Plr.put (X : Plr) (a u x : Value) {j : Nat} : (X.cs a u).set (128 + j) x = setL X.root X.sig X.dev X.key ++ [X.man, X.bl, X.f, X.o, X.d, a, u].set j x := by
 rw [Plr.cs, List.set_append_right _ _ (by rw [setL_len]; exact Nat.le_add_right _ _), setL_len, Nat.add_sub_cancel_left]
structure Cp (p B : Nat) (w w' : World) : Prop where
 os : w'.os = w.os
 tape : w'.tape = w.tape
 output : w'.output = w.output
 size : w.heap.size ≤ w'.heap.size
 block : ∀ k, k < B → k ≠ p → w'.heap[k]? = w.heap[k]?
theorem Cp.refl (p B : Nat) (w : World) : Cp p B w w := ⟨rfl, rfl, rfl, Nat.le_refl _, fun _ _ _ => rfl⟩
theorem Cp.trans {p B : Nat} {a b c : World} (h : Cp p B a b) (k : Cp p B b c) : Cp p B a c :=
 ⟨k.os.trans h.os, k.tape.trans h.tape, k.output.trans h.output, Nat.le_trans h.size k.size, fun i hi hn => (k.block i hi hn).trans (h.block i hi hn)⟩
theorem Cp.of_below {p B : Nat} {w w' : World} (h : Below w.heap.size w w') (hB : B ≤ w.heap.size) : Cp p B w w' := ⟨h.os, h.tape, h.output, h.size, fun k hk _ => h.block k (Nat.lt_of_lt_of_le hk hB)⟩
theorem Cp.of_gr {p B : Nat} {w w' : World} {r : Option Nat} (h : w.grownBy w' r) (hB : B ≤ w.heap.size) (hr : ∀ g, r = some g → g = p ∨ B ≤ g) : Cp p B w w' :=
 ⟨h.os, h.tape, h.output, h.size, fun k hk hn => h.block k (Nat.lt_of_lt_of_le hk hB) (fun e => by rcases hr k e.symm with h1 | h1; exact hn h1; omega)⟩
theorem Arr.cp {p B : Nat} {w w' : World} {g : Nat} {xs : List Value} (h : Arr w g xs) (hc : Cp p B w w') (hg : g < B) (hp : g ≠ p) : Arr w' g xs := by
 obtain ⟨T, h⟩ := h
 exact ⟨T, by rw [hc.block g hg hp]; exact h⟩
theorem run_buildO {P : Program} {a : Act} {o : Oper} {w : World} (t : TypeId) (parts : Array (Nat × Operand)) (ho : o.op = .build t parts) (cells : Array Value) (hc : P.built t (parts.map fun (i, x) => (i, a.eval x)).toList = some cells) :
 (execOp a.eval o).run P w = .ok (.value (.agg cells)) w := by
 unfold execOp
 simp only [ho, Sem.run_bind, run_build w t _ cells hc, Result.andThen_ok]
 rfl
def Ph.sx (n : Nat) (xs : List Value) : Ph := ⟨fun v w => ∃ d : Nat × Nat, v = .slice (some ⟨d.1, 0, none⟩) n d.2 ∧ Sl w (.slice (some ⟨d.1, 0, none⟩) n d.2) xs, fun _ _ _ ⟨d, h1, h2⟩ hb => ⟨d, h1, h2.below hb⟩, false, fun h => by cases h⟩
def Ph.tx (B : Nat) (v b : Int) (root : Nat) (i : Int) (k R1 s1 R s : Nat) (wl : List UInt8) : Ph := ⟨fun x w => ∃ d : Nat × Nat, x = .tuple #[.agg (mnfL v b root (.slice (some ⟨d.1, 0, none⟩) 80 d.2) i k R1 s1 R s).toArray, .int .i64 0] ∧ w.ownsRow B 5 1 (.slice (some ⟨d.1, 0, none⟩) 80 d.2) 80 (u8s wl), fun _ _ _ ⟨d, h1, h2⟩ hb => ⟨d, h1, own_below h2 hb⟩, false, fun h => by cases h⟩
def Ph.mx (B : Nat) (v b : Int) (root : Nat) (i : Int) (k R1 s1 R s : Nat) (wl : List UInt8) : Ph := ⟨fun x w => ∃ d : Nat × Nat, x = .agg (mnfL v b root (.slice (some ⟨d.1, 0, none⟩) 80 d.2) i k R1 s1 R s).toArray ∧ w.ownsRow B 5 1 (.slice (some ⟨d.1, 0, none⟩) 80 d.2) 80 (u8s wl), fun _ _ _ ⟨d, h1, h2⟩ hb => ⟨d, h1, own_below h2 hb⟩, false, fun h => by cases h⟩
def Ph.at (B : Nat) (xs : List Value) (T : TypeId) : Ph := ⟨fun x w => ∃ g : Nat, x = .pointer (some ⟨g, 0, none⟩) ∧ B ≤ g ∧ w.heap[g]? = some (.cells xs.toArray T (0, 0)), fun _ _ _ ⟨g, h1, h2, h3⟩ hb => ⟨g, h1, h2, by
 have hlt : g < _ := (Array.getElem?_eq_some_iff.1 h3).1
 rw [hb.block g hlt]
 exact h3⟩, false, fun h => by cases h⟩
def ikeyN (k : Nat) (v : Int) : Nat := shaa (nb 32 k ++ be8s [v])
theorem setL_key {w : World} {g r s d k : Nat} (h : Arr w g (setL r s d k)) : Sl w (.slice (some ⟨g, 96, none⟩) 32 32) (u8s (nb 32 k)) :=
 Sl.ofMid h (bytn 32 r ++ (bytn 32 s ++ bytn 32 d)) [] (nb 32 k) (by simp only [setL, nb_u8s, List.append_assoc, List.append_nil]) (by simp [bytn_len]) (nb_len _ _) zDc
theorem setL_r {w : World} {g r s d k : Nat} (h : Arr w g (setL r s d k)) : w.rangeAt g 0 (bytn 32 r) := h.range (fun j hj => get_mid (A := []) rfl j hj)
theorem setL_s {w : World} {g r s d k : Nat} (h : Arr w g (setL r s d k)) : w.rangeAt g 32 (bytn 32 s) := h.range (fun j hj => get_mid (A := bytn 32 r) (bytn_len _ _) j hj)
theorem setL_d {w : World} {g r s d k : Nat} (h : Arr w g (setL r s d k)) : w.rangeAt g 64 (bytn 32 d) := h.range (fun j hj => by
 have q := get_mid (A := bytn 32 r ++ bytn 32 s) (B := bytn 32 d) (C := bytn 32 k) (o := 64) (by simp [bytn_len]) j hj
 rwa [List.append_assoc] at q)
theorem imanifest_r (r s d k : Nat) (id v : Int) (a : Option Addr) (c : Nat) (bs : List UInt8) {KEY PK R1 s1 DR LP RT RS SS n : Nat} {wl : List UInt8} {E : List (List UInt8)}
 (eK : Hid (ikeyN k v = KEY)) (eP : Hid (pubN s = PK)) (e1 : Hid (sgR r (pcct ++ (be8s [id] ++ nb 32 PK)) = R1)) (e2 : Hid (sgS r (pcct ++ (be8s [id] ++ nb 32 PK)) = s1)) (eL : Hid (lmulN d 9 = LP)) (eD : Hid (shaa (nb 32 KEY) = DR)) (eW : Hid (wrapB LP DR KEY = wl))
 (eE : Hid (encB KEY v bs = E)) (en : Hid (nblk bs.length = n)) (eR : Hid (rootN E = RT)) (e3 : Hid (sgR s (mbodyB v n RT wl id PK R1 s1) = RS)) (e4 : Hid (sgS s (mbodyB v n RT wl id PK R1 s1) = SS))
 (hL : bs.length ≤ 2048) (hv : 0 ≤ v) (hv2 : v ≤ 2147483647) (hid : mayI id = true) (hok : (readP PK).2 = true) (hd : d < 256 ^ 32) (hz : lmulN DR LP ≠ 0) (w : World) (h : Sl w (.slice a bs.length c) (u8s bs)) :
 Calls Tryz.prog 6 #[.agg (setL r s d k).toArray, .int .i64 id, .int .i64 v, .slice a bs.length c] w fun e w' =>
  ∃ u dl cl, e = .returned (.tuple #[u, .slice dl n cl, .int .i64 0]) ∧ w'.ownsRow w.heap.size 5 1 u 300 (u8s (mbodyB v n RT wl id PK R1 s1 ++ (nb 32 RS ++ nb 32 SS))) ∧ Sls w' (.slice dl n cl) E ∧ Below w.heap.size w w' := by
 have cI := zH (fun w vn h => packInt1_any vn v w h)
 have cK := zH (fun (w : World) g (h : Sls w (.slice g 2 2) [nb 32 k, be8s [v]]) => show Calls Tryz.prog 19 #[.slice g 2 2] w fun e w' => e = .returned (.agg (bytn 32 KEY).toArray) ∧ Below w.heap.size w w' from by
  have q := shsuma_any g 2 [nb 32 k, be8s [v]] w h
  rw [show [nb 32 k, be8s [v]].flatten = nb 32 k ++ be8s [v] by simp] at q
  rw [← eK.out]
  exact q)
 have cM := zH (fun w h => imake_any KEY v a c bs hL hv hv2 w h)
 rw [eE.out, en.out] at cM
 have cP := zH (fun w => show Calls Tryz.prog 10 #[.agg (bytn 32 s).toArray] w fun e w' => e = .returned (.agg (byts PK).toArray) ∧ Below w.heap.size w w' from by rw [← byts_bytn, ← eP.out]; exact cpublic_any s w)
 have cT := zH (fun w => show Calls Tryz.prog 22 #[.agg (bytn 32 r).toArray, .int .i64 id, .agg (byts PK).toArray] w fun e w' => e = .returned (.tuple #[.agg (crtG r id PK).toArray, .int .i64 0]) ∧ Below w.heap.size w w' from by
  have q := ctsign_any r PK id (by rw [← eP.out]; exact encP_lt _) w
  rw [crtV, crtE, if_pos hid, if_pos hok, if_pos hid, if_pos hok, byts_bytn r] at q
  exact q)
 unfold crtG at cT
 rw [e1.out, e2.out] at cT
 have hWl := wrapB_len LP DR KEY
 have cW := zH (fun w => show Calls Tryz.prog 23 #[.agg (byts LP).toArray, .agg (bytn 32 DR).toArray, .agg (bytn 32 KEY).toArray] w fun e w' => ∃ g c, e = .returned (.tuple #[.slice (some ⟨g, 0, none⟩) 80 c, .int .i64 0]) ∧ Sl w' (.slice (some ⟨g, 0, none⟩) 80 c) (u8s wl) ∧ Below w.heap.size w w' from by
  have q := wrap_any LP DR KEY (by rw [← eL.out]; exact lmul_lt _ _) (by rw [← eD.out]; exact shaa_lt _) hz w
  rw [byts_bytn DR, byts_bytn KEY, eW.out] at q
  exact q)
 rw [eW.out] at hWl
 have cD := zH (fun (w : World) g (h : Sls w (.slice g 1 1) [nb 32 KEY]) => show Calls Tryz.prog 19 #[.slice g 1 1] w fun e w' => e = .returned (.agg (bytn 32 DR).toArray) ∧ Below w.heap.size w w' from by
  have q := shsuma_any g 1 [nb 32 KEY] w h
  rw [show [nb 32 KEY].flatten = nb 32 KEY by simp, eD.out] at q
  exact q)
 have cL := zH (fun w => show Calls Tryz.prog 24 #[.agg (bytn 32 d).toArray] w fun e w' => e = .returned (.agg (byts LP).toArray) ∧ Below w.heap.size w w' from by rw [← byts_bytn, ← eL.out]; exact lpublic_r (zH rfl) hd w)
 have hEl : E.length = n := by rw [← eE.out, ← en.out, encB]; simp
 have hn1 : Hid (1 ≤ n ∧ n ≤ 32) := zH (by rw [← en.out, nblk, piecesN]; split <;> omega)
 have cR := zH (by
  have q := fun w dl cl h => root_any E (by rw [hEl]; have := hn1.out; omega) dl cl w h
  rw [hEl, eR.out] at q
  exact q)
 have cG := zH (fun (w : World) gw cw h => msign_ok s v (n : Int) RT (some ⟨gw, 0, none⟩) cw wl hWl id PK R1 s1 0 0 hv hv2 (by have := hn1.out; omega) (by have := hn1.out; omega) hid w h)
 rw [e3.out, e4.out, byts_bytn] at cG
 have cQ := zH (fun (w : World) gw cw h => mpack_ok v (n : Int) RT (some ⟨gw, 0, none⟩) cw wl hWl id PK R1 s1 RS SS hv hv2 (by have := hn1.out; omega) (by have := hn1.out; omega) hid w h)
 obtain ⟨OUT, hOUT⟩ : ∃ OUT, mbodyB v n RT wl id PK R1 s1 ++ (nb 32 RS ++ nb 32 SS) = OUT := ⟨_, rfl⟩
 rw [hOUT] at cQ ⊢
 obtain ⟨L, hLe⟩ : ∃ L, bs.length = L := ⟨_, rfl⟩
 rw [hLe] at cM h ⊢
 replace h := zH h
 clear eK eP e1 e2 eL eD eW eE en eR e3 e4 hok hd hz hLe hL hid hv hv2 hOUT hEl
 go_enter Tryz.func6, Tryz.ntmps6
 go_upto_region 1 with fail
 refine wp_new1 (fun W hsz k4 kb => ?_)
 replace k4 : Arr W w.heap.size (setL r s d k) := k4
 clear hsz
 have sK := zH (setL_key k4)
 refine Tx.start (fun w' => Below (W).heap.size (W) w') 8 9 rfl zKr ?_
 have hS_1 : Below (W).heap.size (W) (World.drew W) := (Below.refl _ _).drew
 refine Tx.seg2 (A := ?_) 6 7 zKr (by exact hS_1) [0, 1, 2] zKr ?_ ?_
 rotate_left
 · intro w' hB
   exact zRd
 refine Tx.poolB 1 255 [(3, 21), (4, 22), (5, 23), (6, 24), (7, 11)] [(false, []), (false, [(3, 21)]), (false, [(4, 22)]), (false, [(5, 23)]), (false, [])] [(3, Ph.sl 1 [.int .i64 v]), (4, Ph.sx 8 (u8s (be8s [v]))), (5, Ph.sls 2 [nb 32 k, be8s [v]]), (6, Ph.is (.agg (bytn 32 KEY).toArray)), (7, Ph.arr W.heap.size (bytn 32 0))] zKr zKr (by first | assumption | exact (Below.refl _ _).drew) ?_ ?_
 · refine ⟨⟨_, rfl, ?_⟩, ⟨_, rfl, ?_⟩, ⟨_, rfl, ?_⟩, ⟨_, rfl, ?_⟩, ⟨_, rfl, ?_⟩, trivial⟩
   · intro vs w1 hS hE hD K hK
     clear hD
     simp only [fillL, Act.put, zSa, zSz, zSs] at hK ⊢
     go_simp
     exact hK _ _ ⟨_, rfl, Sl.new1 _ _ _⟩ (below_alloc _ _) nofun
   · intro vs w1 hS hE hD K hK
     obtain ⟨q3, -⟩ := hD
     simp only [fillL, Act.put, zSa, zSz, zSs] at hK ⊢
     obtain ⟨d3, e3, hs3⟩ := q3
     rw [e3] at hK ⊢
     rw [show vs _ = _ from e3] at hs3
     clear e3
     go_simp
     refine (cI.out _ _ hs3).mono ?_
     rintro e w2 ⟨g, c', rfl, hsl, hb2⟩
     exact hK _ _ ⟨(g, c'), rfl, hsl⟩ hb2 nofun
   · intro vs w1 hS hE hD K hK
     obtain ⟨q4, -⟩ := hD
     simp only [fillL, Act.put, zSa, zSz, zSs] at hK ⊢
     obtain ⟨d4, e4, hs4⟩ := q4
     rw [e4] at hK ⊢
     clear e4
     go_simp
     exact hK _ _ ⟨_, rfl, Sls.new2 (sK.out.below hS) hs4 _⟩ (below_alloc _ _) nofun
   · intro vs w1 hS hE hD K hK
     obtain ⟨q5, -⟩ := hD
     simp only [fillL, Act.put, zSa, zSz, zSs] at hK ⊢
     obtain ⟨d5, e5, hs5⟩ := q5
     rw [e5] at hK ⊢
     rw [show vs _ = _ from e5] at hs5
     clear e5
     go_simp
     refine (cK.out _ _ hs5).mono ?_
     rintro e w2 ⟨rfl, hb2⟩
     exact hK _ _ rfl hb2 nofun
   · intro vs w1 hS hE hD K hK
     clear hD
     simp only [fillL, Act.put, zSa, zSz, zSs] at hK ⊢
     go_simp
     exact hK _ _ ⟨_, rfl, Nat.le_trans zLe hE.size, Arr.new _ _ _⟩ (below_alloc _ _) (fun _ => ⟨_, rfl, Nat.le_refl _⟩)
 intro vs w_p0 hS_p0 hE_p0 hP hD
 obtain ⟨q3, q4, q5, q6, q7, -⟩ := hP
 simp only [fillL, Act.put, zSa, zSz, zSs]
 obtain ⟨d3, e3, hs3⟩ := q3
 rw [e3]
 rw [show vs _ = _ from e3] at hs3
 clear e3
 obtain ⟨d4, e4, hs4⟩ := q4
 rw [e4]
 clear e4
 obtain ⟨d5, e5, hs5⟩ := q5
 rw [e5]
 rw [show vs _ = _ from e5] at hs5
 clear e5
 rw [show vs 6 = _ from q6]
 clear q6
 obtain ⟨g7, e7, hg7, ha7⟩ := q7
 rw [e7]
 clear e7 hD vs
 clear hs3 hs4 hs5 cI cK sK
 have lt_4 := Nat.lt_of_lt_of_le k4.lt hg7
 have k4 := k4.below hS_p0
 have kb := bel kb hS_p0
 refine Tx.bar 511 rfl zDk (fun K hK => ?_)
 refine step_store_arr rfl _ _ _ rfl _ _ rfl rfl _ zAm zLn zLm zOn ?_
 refine hK (fun _ => True) 9999 _ _ ?_
 clear hK K
 try simp only [Act.put]
 try simp only [zSa, zSz, zSs]
 refine Tx.done zKr ?_
 first | refine then_row ha7 (fun w_2 ha7 hoth hbel => ?_) | refine inb_row ha7 (fun w_2 ha7 hoth hbel => ?_)
 have k4 := hoth _ _ zOm k4
 have kb := hbel _ _ zOm kb
 clear hoth hbel
 have k11 := ha7
 clear ha7
 generalize g7 = g11 at *
 go_wp2_with (refine zLd ?_)
 refine (cM.out _ (h.out.below kb)).mono ?_
 rintro e w3 ⟨dl, cl, rfl, hS, hb⟩
 replace k4 := k4.below hb
 replace k11 := k11.below hb
 replace kb := bel kb hb
 replace hS := zH hS
 have K2 := zH kb
 have hs3 := kb.size
 replace kb : Below w3.heap.size w3 w3 := Below.refl _ _
 clear hb cM
 go_upto_region 5 with fail
 refine Tx.start (fun w' => Below (w3).heap.size (w3) w') 11 13 rfl zKr ?_
 have hS_3 : Below (w3).heap.size (w3) (World.drew w3) := (Below.refl _ _).drew
 refine Tx.seg2 (A := ?_) 8 31 zKr (by exact hS_3) [0, 1, 2, 3, 4] zKr ?_ ?_
 rotate_left
 · intro w' hB
   have yr := setL_r (k4.below hB)
   have ys := setL_s (k4.below hB)
   exact zRm
 refine Tx.poolB 2 2047 [(5, 41), (6, 42), (7, 35), (8, 43), (9, 44), (10, 14)] [(false, []), (false, [(5, 41)]), (true, [(6, 42)]), (true, [(7, 35)]), (true, [(7, 35)]), (false, [])] [(5, Ph.is (.agg (byts PK).toArray)), (6, Ph.is (.tuple #[.agg (crtL id PK R1 s1).toArray, .int .i64 0])), (7, Ph.is (.tuple #[.agg (crtL id PK R1 s1).toArray, .int .i64 0])), (8, Ph.is (.agg (crtL id PK R1 s1).toArray)), (9, Ph.is (.int .i64 0)), (10, Ph.arr (w3).heap.size (crtL 0 0 0 0))] zKr zKr (by first | assumption | exact (Below.refl _ _).drew) ?_ ?_
 · refine ⟨⟨_, rfl, ?_⟩, ⟨_, rfl, ?_⟩, ⟨_, rfl, ?_⟩, ⟨_, rfl, ?_⟩, ⟨_, rfl, ?_⟩, ⟨_, rfl, ?_⟩, trivial⟩
   · intro vs w1 hS hE hD K hK
     clear hD
     simp only [fillL, Act.put, zSa, zSz, zSs] at hK ⊢
     go_simp
     refine (cP.out _).mono ?_
     rintro e w2 ⟨rfl, hb2⟩
     exact hK _ _ rfl hb2 nofun
   · intro vs w1 hS hE hD K hK
     obtain ⟨q5, -⟩ := hD
     simp only [fillL, Act.put, zSa, zSz, zSs] at hK ⊢
     rw [show vs 5 = _ from q5] at hK ⊢
     clear q5
     go_simp
     refine (cT.out _).mono ?_
     rintro e w2 ⟨rfl, hb2⟩
     exact hK _ _ rfl hb2 nofun
   · intro vs w1 hS hE hD
     obtain ⟨q6, -⟩ := hD
     simp only [fillL, Act.put, zSa, zSz, zSs] at ⊢
     rw [show vs 6 = _ from q6] at ⊢
     clear q6
     refine ⟨_, rfl, fun w' => (by first | (go_simp; done) | (go_simp; rfl)), rfl, nofun⟩
   · intro vs w1 hS hE hD
     obtain ⟨q7, -⟩ := hD
     simp only [fillL, Act.put, zSa, zSz, zSs] at ⊢
     rw [show vs 7 = _ from q7] at ⊢
     clear q7
     refine ⟨_, rfl, fun w' => (by first | (go_simp; done) | (go_simp; rfl)), rfl, nofun⟩
   · intro vs w1 hS hE hD
     obtain ⟨q7, -⟩ := hD
     simp only [fillL, Act.put, zSa, zSz, zSs] at ⊢
     rw [show vs 7 = _ from q7] at ⊢
     clear q7
     refine ⟨_, rfl, fun w' => (by first | (go_simp; done) | (go_simp; rfl)), rfl, nofun⟩
   · intro vs w1 hS hE hD K hK
     clear hD
     simp only [fillL, Act.put, zSa, zSz, zSs] at hK ⊢
     go_simp
     exact hK _ _ ⟨_, rfl, Nat.le_trans zLe hE.size, Arr.new _ _ _⟩ (below_alloc _ _) (fun _ => ⟨_, rfl, Nat.le_refl _⟩)
 intro vs w_p5 hS_p5 hE_p5 hP hD
 obtain ⟨q5, q6, q7, q8, q9, q10, -⟩ := hP
 simp only [fillL, Act.put, zSa, zSz, zSs]
 rw [show vs 5 = _ from q5]
 clear q5
 rw [show vs 6 = _ from q6]
 clear q6
 rw [show vs 7 = _ from q7]
 clear q7
 rw [show vs 8 = _ from q8]
 clear q8
 rw [show vs 9 = _ from q9]
 clear q9
 obtain ⟨g10, e10, hg10, ha10⟩ := q10
 rw [e10]
 clear e10 hD vs
 have lt_4 := Nat.lt_of_lt_of_le k4.lt hg10
 have lt_11 := Nat.lt_of_lt_of_le k11.lt hg10
 clear cP cT
 have k4 := k4.below hS_p5
 have k11 := k11.below hS_p5
 have kb := bel kb hS_p5
 refine Tx.bar 4095 rfl zDk (fun K hK => ?_)
 refine step_store_arr rfl _ _ _ rfl _ _ rfl rfl _ zAm zLn zLm zOn ?_
 refine hK (fun _ => True) 9999 _ _ ?_
 clear hK K
 try simp only [Act.put]
 try simp only [zSa, zSz, zSs]
 refine Tx.seg2 (A := ?_) 0 8191 zKr (by exact trivial) [12] zKr ?_ ?_
 rotate_left
 · intro w' hB
   exact zRd
 refine Tx.done zKr ?_
 first | refine then_row ha10 (fun w_4 ha10 hoth hbel => ?_) | refine inb_row ha10 (fun w_4 ha10 hoth hbel => ?_)
 have k4 := hoth _ _ zOm k4
 have k11 := hoth _ _ zOm k11
 have kb := hbel _ _ zOm kb
 clear hoth hbel
 have k14 := ha10
 clear ha10
 generalize g10 = g14 at *
 have sY := zH (show Sl w_4 (.slice (some ⟨g11, 0, none⟩) 32 32) (u8s (nb 32 KEY)) from Sl.ofArrN (by rw [← nb_u8s]; exact k11) (nb_len _ _) zDc)
 go_upto_region 8 with fail
 refine Tx.start (fun w' => Below (w_4).heap.size (w_4) w') 9999 13 rfl zKr ?_
 have hS_5 : Below (w_4).heap.size (w_4) (World.drew w_4) := (Below.refl _ _).drew
 refine Tx.seg2 (A := ?_) 9 75 zKr (by exact hS_5) [0, 1, 3, 6] zKr ?_ ?_
 rotate_left
 · intro w' hB
   have yd := setL_d (k4.below hB)
   have y11 := k11.below hB
   exact zRm
 refine Tx.poolB 6 127 [(2, 51), (4, 53), (5, 54)] [(false, []), (false, []), (false, [(4, 53)])] [(2, Ph.is (.agg (byts LP).toArray)), (4, Ph.sls 1 [nb 32 KEY]), (5, Ph.is (.agg (bytn 32 DR).toArray))] zKr zKr (by first | assumption | exact (Below.refl _ _).drew) ?_ ?_
 · refine ⟨⟨_, rfl, ?_⟩, ⟨_, rfl, ?_⟩, ⟨_, rfl, ?_⟩, trivial⟩
   · intro vs w1 hS hE hD K hK
     clear hD
     simp only [fillL, Act.put, zSa, zSz, zSs] at hK ⊢
     go_simp
     refine (cL.out _).mono ?_
     rintro e w2 ⟨rfl, hb2⟩
     exact hK _ _ rfl hb2 nofun
   · intro vs w1 hS hE hD K hK
     clear hD
     simp only [fillL, Act.put, zSa, zSz, zSs] at hK ⊢
     go_simp
     exact hK _ _ ⟨_, rfl, Sls.new1 (sY.out.below hS) _⟩ (below_alloc _ _) nofun
   · intro vs w1 hS hE hD K hK
     obtain ⟨q4, -⟩ := hD
     simp only [fillL, Act.put, zSa, zSz, zSs] at hK ⊢
     obtain ⟨d4, e4, hs4⟩ := q4
     rw [e4] at hK ⊢
     rw [show vs _ = _ from e4] at hs4
     clear e4
     go_simp
     refine (cD.out _ _ hs4).mono ?_
     rintro e w2 ⟨rfl, hb2⟩
     exact hK _ _ rfl hb2 nofun
 intro vs w_p8 hS_p8 hE_p8 hP hD
 obtain ⟨q2, q4, q5, -⟩ := hP
 simp only [fillL, Act.put, zSa, zSz, zSs]
 rw [show vs 2 = _ from q2]
 clear q2
 obtain ⟨d4, e4, hs4⟩ := q4
 rw [e4]
 rw [show vs _ = _ from e4] at hs4
 clear e4
 rw [show vs 5 = _ from q5]
 clear q5
 clear  hD vs
 clear hs4 cL cD
 refine Tx.eff 7 255 rfl zDk (fun K hK => ?_)
 go_simp
 refine (cW.out _).mono ?_
 rintro e w_6 ⟨gw, cw, rfl, hW, hb_6⟩
 have hS_6 := ext_trans hS_p8 (Nat.le_refl _) hb_6
 refine hK (fun w' => Below (w_4).heap.size (w_4) w') _ _ hS_6 (fun _ h => h) ?_
 clear hK K hS_p8
 try simp only [Act.put, zSa, zSz, zSs]
 refine Tx.seg2 (A := ?_) 0 8191 zKr (by exact hS_6) [8, 9, 10, 11, 12] zKr ?_ ?_
 rotate_left
 · intro w' hB
   exact zRd
 refine Tx.done zKr ?_
 have k4 := k4.below hS_6
 have k11 := k11.below hS_6
 have k14 := k14.below hS_6
 have kb := bel kb hS_6
 clear hS_6
 have hS6 := hS.out.below kb
 have K3 := zH (bel K2.out kb)
 have hs6 := kb.size
 obtain ⟨w6, hw6⟩ : ∃ x, w_6 = x := ⟨_, rfl⟩
 rw [hw6] at hS6 K3 hs6 hW k4 k11 k14 ⊢
 have lt_6 : g14 < w6.heap.size := k14.lt
 clear hw6 hS K2 cW sY kb
 have kb : Below w6.heap.size w6 w6 := Below.refl _ _
 replace hW := zH hW
 replace hS6 := zH hS6
 go_upto_region 11 with fail
 refine Tx.start (fun w' => Below (w6).heap.size (w6) w') 15 17 rfl zKr ?_
 have hS_7 : Below (w6).heap.size (w6) (World.drew w6) := (Below.refl _ _).drew
 refine Tx.seg2 (A := ?_) 9 447 zKr (by exact hS_7) [0, 1, 2, 3, 4, 5, 7, 8] zKr ?_ ?_
 rotate_left
 · intro w' hB
   have ys := setL_s (k4.below hB)
   have y14 := k14.below hB
   exact zRm
 refine Tx.poolB 2 32767 [(6, 69), (9, 72), (10, 73), (11, 62), (12, 74), (13, 75), (14, 16)] [(false, []), (true, [(6, 69)]), (false, [(9, 72)]), (true, [(10, 73)]), (true, [(11, 62)]), (true, [(11, 62)]), (false, [])] [(6, Ph.is (.agg (bytn 32 RT).toArray)), (9, Ph.is (.agg (mnfL v n RT (.slice (some ⟨gw, 0, none⟩) 80 cw) id PK R1 s1 0 0).toArray)), (10, Ph.tx w6.heap.size v n RT id PK R1 s1 RS SS wl), (11, Ph.tx w6.heap.size v n RT id PK R1 s1 RS SS wl), (12, Ph.mx w6.heap.size v n RT id PK R1 s1 RS SS wl), (13, Ph.is (.int .i64 0)), (14, Ph.at w6.heap.size (mnfL 0 0 0 (.slice none 0 0) 0 0 0 0 0 0) 38)] zKr zKr (by first | assumption | exact (Below.refl _ _).drew) ?_ ?_
 · refine ⟨⟨_, rfl, ?_⟩, ⟨_, rfl, ?_⟩, ⟨_, rfl, ?_⟩, ⟨_, rfl, ?_⟩, ⟨_, rfl, ?_⟩, ⟨_, rfl, ?_⟩, ⟨_, rfl, ?_⟩, trivial⟩
   · intro vs w1 hS hE hD K hK
     clear hD
     simp only [fillL, Act.put, zSa, zSz, zSs] at hK ⊢
     go_simp
     refine (cR.out _ _ _ (hS6.out.below hS)).mono ?_
     rintro e w2 ⟨rfl, hb2⟩
     exact hK _ _ rfl hb2 nofun
   · intro vs w1 hS hE hD
     obtain ⟨q6, -⟩ := hD
     simp only [fillL, Act.put, zSa, zSz, zSs] at ⊢
     rw [show vs 6 = _ from q6] at ⊢
     clear q6
     refine ⟨_, rfl, fun w' => run_buildO _ _ rfl (mnfL v n RT (.slice (some ⟨gw, 0, none⟩) 80 cw) id PK R1 s1 0 0).toArray zKr, rfl, nofun⟩
   · intro vs w1 hS hE hD K hK
     obtain ⟨q9, -⟩ := hD
     simp only [fillL, Act.put, zSa, zSz, zSs] at hK ⊢
     rw [show vs 9 = _ from q9] at hK ⊢
     clear q9
     go_simp
     refine (cG.out _ _ _ (hW.out.below hS)).mono ?_
     rintro e w2 ⟨g, c', rfl, hsl, hb2⟩
     exact hK _ _ ⟨(g, c'), rfl, own_mono hsl hS.size⟩ hb2 nofun
   · intro vs w1 hS hE hD
     obtain ⟨q10, -⟩ := hD
     simp only [fillL, Act.put, zSa, zSz, zSs] at ⊢
     obtain ⟨d10, e10, hs10⟩ := q10
     rw [e10] at ⊢
     clear e10
     refine ⟨_, rfl, fun w' => (by first | (go_simp; done) | (go_simp; rfl)), ⟨d10, rfl, hs10⟩, nofun⟩
   · intro vs w1 hS hE hD
     obtain ⟨q11, -⟩ := hD
     simp only [fillL, Act.put, zSa, zSz, zSs] at ⊢
     obtain ⟨d11, e11, hs11⟩ := q11
     rw [e11] at ⊢
     clear e11
     refine ⟨_, rfl, fun w' => (by first | (go_simp; done) | (go_simp; rfl)), ⟨d11, rfl, hs11⟩, nofun⟩
   · intro vs w1 hS hE hD
     obtain ⟨q11, -⟩ := hD
     simp only [fillL, Act.put, zSa, zSz, zSs] at ⊢
     obtain ⟨d11, e11, hs11⟩ := q11
     rw [e11] at ⊢
     clear e11
     refine ⟨_, rfl, fun w' => (by first | (go_simp; done) | (go_simp; rfl)), rfl, nofun⟩
   · intro vs w1 hS hE hD K hK
     clear hD
     simp only [fillL, Act.put, zSa, zSz, zSs] at hK ⊢
     go_simp
     exact hK _ _ ⟨_, rfl, hS.size, heap_alloc_new _ _⟩ (below_alloc _ _) nofun
 intro vs w_p11 hS_p11 hE_p11 hP hD
 obtain ⟨q6, q9, q10, q11, q12, q13, q14, -⟩ := hP
 simp only [fillL, Act.put, zSa, zSz, zSs]
 rw [show vs 6 = _ from q6]
 clear q6
 rw [show vs 9 = _ from q9]
 clear q9
 obtain ⟨d10, e10, hs10⟩ := q10
 rw [e10]
 clear e10
 obtain ⟨d11, e11, hs11⟩ := q11
 rw [e11]
 clear e11
 obtain ⟨d12, e12, hs12⟩ := q12
 rw [e12]
 clear e12
 rw [show vs 13 = _ from q13]
 clear q13
 obtain ⟨d14, e14, hs14⟩ := q14
 rw [e14]
 clear e14
 clear  hD vs
 clear cR cG hs10 hs11
 obtain ⟨hd14, h14⟩ := hs14
 have k16 : Arr w_p11 d14 (mnfL 0 0 0 (.slice none 0 0) 0 0 0 0 0 0) := ⟨_, h14⟩
 refine Tx.bar 65535 rfl zDk (fun K hK => ?_)
 refine step_storeG rfl _ _ _ rfl d14 (mnfL v n RT (.slice (some ⟨d12.1, 0, none⟩) 80 d12.2) id PK R1 s1 RS SS) rfl rfl _ k16 (by rw [mnfL_len]; kernel_rfl) (by rw [mnfL_len, mnfL_len]) (mnfL_one _ _ _ _ _ _ _ _ _ _ rfl) (fun w9 k16 hg hsz => ?_)
 refine hK (fun _ => True) 9999 _ _ ?_
 clear hK K
 try simp only [Act.put]
 try simp only [zSa, zSz, zSs]
 refine Tx.seg2 (A := ?_) 0 131071 zKr (by exact trivial) [16] zKr ?_ ?_
 rotate_left
 · intro w' hB
   exact zRd
 refine Tx.done zKr ?_
 have ho12 := hs12.kept hg (.inr (Ne.symm (cells_not_row h14 zDc hs12)))
 have kb9 := below_of_gr hS_p11 hg hd14 (Below.size hS_p11)
 have hS9 := zH (hS6.out.below kb9)
 have hl12 := zH (Sl.of_own ho12)
 have K9 := zH (bel K3.out kb9)
 clear hs12 ho12 hg hsz kb9 h14 hd14 hS6 K3 hW
 go_wp2_with (refine wpList_load_arr2 rfl _ _ rfl _ rfl zDk _ k16 (by rw [mnfL_len]; kernel_rfl) ?_)
 refine (cQ.out _ _ _ hl12.out).mono ?_
 rintro e w10 ⟨u, rfl, hu, hb⟩
 replace hS9 := zH (hS9.out.below hb)
 have K10 := zH (bel K9.out hb)
 have hu2 := zH (own_mono hu (Below.size K9.out))
 clear cQ hl12 hu hb K9
 go_wp2_with fail
 go_ret3
 exact ⟨u, dl, cl, rfl, hu2.out, hS9.out, K10.out⟩
def imanB (r s d k : Nat) (id v : Int) (bs : List UInt8) : List UInt8 :=
 let KEY := ikeyN k v
 let c := pcct ++ (be8s [id] ++ nb 32 (pubN s))
 let b := mbodyB v (nblk bs.length : Nat) (rootN (encB KEY v bs)) (wrapB (lmulN d 9) (shaa (nb 32 KEY)) KEY) id (pubN s) (sgR r c) (sgS r c)
 b ++ (nb 32 (sgR s b) ++ nb 32 (sgS s b))
theorem imanifest_h (r s d k : Nat) (id v : Int) (a : Option Addr) (c : Nat) (bs : List UInt8) (hL : bs.length ≤ 2048) (hv : 0 ≤ v) (hv2 : v ≤ 2147483647) (hid : mayI id = true) (hd : d < 256 ^ 32) (hok : (readP (pubN s)).2 = true) (hz : lmulN (shaa (nb 32 (ikeyN k v))) (lmulN d 9) ≠ 0) (w : World) (h : Sl w (.slice a bs.length c) (u8s bs)) :
 Calls Tryz.prog 6 #[.agg (setL r s d k).toArray, .int .i64 id, .int .i64 v, .slice a bs.length c] w fun e w' =>
  ∃ u dl cl, e = .returned (.tuple #[u, .slice dl (nblk bs.length) cl, .int .i64 0]) ∧ w'.ownsRow w.heap.size 5 1 u 300 (u8s (imanB r s d k id v bs)) ∧ Sls w' (.slice dl (nblk bs.length) cl) (encB (ikeyN k v) v bs) ∧ Below w.heap.size w w' :=
 imanifest_r r s d k id v a c bs (zH rfl) (zH rfl) (zH rfl) (zH rfl) (zH rfl) (zH rfl) (zH rfl) (zH rfl) (zH rfl) (zH rfl) (zH rfl) (zH rfl) hL hv hv2 hid hok hd hz w h
theorem imanifest_ok (r s d k : Nat) (id v : Int) (a : Option Addr) (c : Nat) (bs : List UInt8) (hL : bs.length ≤ 2048) (hv : 0 ≤ v) (hv2 : v ≤ 2147483647) (hid : mayI id = true) (hd : d < 256 ^ 32) (w : World) (h : Sl w (.slice a bs.length c) (u8s bs)) :
 Calls Tryz.prog 6 #[.agg (setL r s d k).toArray, .int .i64 id, .int .i64 v, .slice a bs.length c] w fun e w' =>
  ∃ u dl cl, e = .returned (.tuple #[u, .slice dl (nblk bs.length) cl, .int .i64 0]) ∧ w'.ownsRow w.heap.size 5 1 u 300 (u8s (imanB r s d k id v bs)) ∧ Sls w' (.slice dl (nblk bs.length) cl) (encB (ikeyN k v) v bs) ∧ Below w.heap.size w w' :=
 imanifest_h r s d k id v a c bs hL hv hv2 hid hd (pub_ok s) (lmul_nz _ _) w h
def ofN (seed : Int) (nm : List UInt8) : Nat := shaa (be8s [seed] ++ nm)
theorem of1_any (seed : Int) (name : ByteArray) (hsz : name.size ≤ maxLen) (b : Nat) (w : World) (hs : w.cell? ⟨b, 0, none⟩ = some (.int .i64 seed)) :
 Calls Tryz.prog 18 #[.string name, .pointer (some ⟨b, 0, none⟩)] w fun e w' => e = .returned (.agg (bytn 32 (ofN seed name.data.toList)).toArray) ∧ Below w.heap.size w w' := by
 obtain ⟨R, hR⟩ : ∃ R, ofN seed name.data.toList = R := ⟨_, rfl⟩
 have hcell : Hid (Cells w ⟨b, 0, none⟩ [.int .i64 seed]) := zH (fun j u hu => by
  match j, hu with
  | 0, hu => simp at hu; subst hu; exact hs)
 have cP := zH (fun (w : World) g (h : Sl w (.slice (some ⟨g, 0, none⟩) 1 1) [.int .i64 seed]) => packInt_any (.slice none 0 0) (.slice (some ⟨g, 0, none⟩) 1 1) [] [seed] w (Sl.nil w) h (show 0 + 8 * 1 ≤ 140737488355328 by decide))
 have cv := zH (fun w => conv_str w name hsz)
 have cS := zH (fun (w : World) g (h : Sls w (.slice (some ⟨g, 0, none⟩) 2 2) [be8s [seed], name.data.toList]) => show Calls Tryz.prog 19 #[.slice (some ⟨g, 0, none⟩) 2 2] w fun e w' => e = .returned (.agg (bytn 32 R).toArray) ∧ Below w.heap.size w w' from by
  have q := shsuma_any (some ⟨g, 0, none⟩) 2 [be8s [seed], name.data.toList] w h
  rw [show [be8s [seed], name.data.toList].flatten = be8s [seed] ++ name.data.toList by simp, show shaa (be8s [seed] ++ name.data.toList) = R from hR] at q
  exact q)
 rw [hR]
 clear hR hs hsz
 go_enter Tryz.func18, Tryz.ntmps18
 go_upto_region 1 with fail
 refine wp_new1 (fun W hsz k2 kb => ?_)
 replace k2 : Arr W w.heap.size (bytn 32 0) := k2
 have hc1 : W.cell? ⟨b, 0, none⟩ = some (.int .i64 seed) := by
  have := (hcell.out.below kb) 0 _ rfl
  simpa [Addr.add] using this
 have kb2 := below_alloc W (.cells #[.int .i64 seed] 3)
 have h2 := zH (Sl.new1 W (.int .i64 seed) 3)
 clear hsz hcell
 go_wp2_with fail
 refine (cP.out _ _ h2.out).mono ?_
 rintro e w1 ⟨v, rfl, hv, hb⟩
 replace hb := bel kb2 hb
 replace k2 := k2.below hb
 replace kb := bel kb hb
 rw [List.nil_append] at hv
 obtain ⟨av, nv, cav, rfl⟩ : ∃ a n c, v = .slice a n c := by obtain ⟨a, c, h, -⟩ := Sl.of_own hv; exact ⟨_, _, _, h⟩
 have hv1 := zH (Sl.of_own hv)
 clear hb kb2 h2 cP hc1 hv
 obtain ⟨c, wB, hr, hS, hb⟩ := cv.out w1
 have hw1 := zH (hv1.out.below hb)
 replace k2 := k2.below hb
 replace kb := bel kb hb
 have kb2 := below_alloc wB (.cells #[.slice av nv cav, .slice (some ⟨w1.heap.size, 0, none⟩) name.size c] 22)
 have h2 := zH (Sls.new2 hw1.out hS 22)
 clear hS hb cv hv1
 obtain ⟨nz, hnz⟩ : ∃ n, name.size = n := ⟨_, rfl⟩
 rw [hnz] at hr kb2 h2
 clear hnz
 go_wp2_with fail
 refine (cS.out _ _ h2.out).mono ?_
 rintro e w2 ⟨rfl, hb⟩
 replace hb := bel kb2 hb
 replace k2 := k2.below hb
 replace kb := bel kb hb
 clear hb kb2 h2 cS hr
 go_wp2_with (refine zSt ?_)
 exact bodyPost_ret (results_arr2 Tryz.results18 _ _ _ rfl zKr _ (by first | assumption | exact Arr.setRow zAm _) zLn) rfl ⟨rfl, below_setRow kb (Nat.le_refl _) _⟩
def rootL : List UInt8 := [114, 111, 111, 116]
def signerL : List UInt8 := [115, 105, 103, 110, 101, 114]
def deviceL : List UInt8 := [100, 101, 118, 105, 99, 101]
def keyL : List UInt8 := [107, 101, 121]
def ofL (seed : Int) : List Value := setL (ofN seed rootL) (ofN seed signerL) (ofN seed deviceL) (ofN seed keyL)
theorem setL_one (r s d k : Nat) : ∀ v ∈ setL r s d k, v.oneCell' = true := by
 intro v hv
 simp only [setL, List.mem_append] at hv
 rcases hv with h | h | h | h <;> exact bytn_one _ _ v h
theorem of_any (seed : Int) (w : World) :
 Calls Tryz.prog 5 #[.int .i64 seed] w fun e w' => e = .returned (.agg (ofL seed).toArray) ∧ Below w.heap.size w w' := by
 have c1 := zH (fun b w h => of1_any seed ⟨#[114, 111, 111, 116]⟩ zDc b w h)
 have c2 := zH (fun b w h => of1_any seed ⟨#[115, 105, 103, 110, 101, 114]⟩ zDc b w h)
 have c3 := zH (fun b w h => of1_any seed ⟨#[100, 101, 118, 105, 99, 101]⟩ zDc b w h)
 have c4 := zH (fun b w h => of1_any seed ⟨#[107, 101, 121]⟩ zDc b w h)
 obtain ⟨r1, h1⟩ : ∃ n, ofN seed rootL = n := ⟨_, rfl⟩
 obtain ⟨r2, h2⟩ : ∃ n, ofN seed signerL = n := ⟨_, rfl⟩
 obtain ⟨r3, h3⟩ : ∃ n, ofN seed deviceL = n := ⟨_, rfl⟩
 obtain ⟨r4, h4⟩ : ∃ n, ofN seed keyL = n := ⟨_, rfl⟩
 rw [show (⟨#[114, 111, 111, 116]⟩ : ByteArray).data.toList = rootL from rfl] at c1
 rw [show (⟨#[115, 105, 103, 110, 101, 114]⟩ : ByteArray).data.toList = signerL from rfl] at c2
 rw [show (⟨#[100, 101, 118, 105, 99, 101]⟩ : ByteArray).data.toList = deviceL from rfl] at c3
 rw [show (⟨#[107, 101, 121]⟩ : ByteArray).data.toList = keyL from rfl] at c4
 unfold ofL
 rw [h1] at c1; rw [h2] at c2; rw [h3] at c3; rw [h4] at c4
 rw [h1, h2, h3, h4]
 clear h1 h2 h3 h4
 have hmf : ∀ (fn : Fn) (first cap : Array Value) (w : World), (Instr.makeFunc fn first cap).run Tryz.prog w = .ok (.func fn first cap) w := fun _ _ _ _ => rfl
 go_enter Tryz.func5, Tryz.ntmps5
 go_upto_region 2 with fail
 refine wp_new2 (fun W hsz k1 k2 kb => ?_)
 have k2l : Hid (∃ Z, Arr W (w.heap.size + 1) Z ∧ Z.length = 128) := zH ⟨_, k2, by rw [Array.length_toList]; kernel_rfl⟩
 obtain ⟨Z, k2, hZ⟩ := k2l.out
 replace hZ := zH hZ
 clear hsz k2l
 go_wp2_with fail
 refine (c1.out _ _ (k1.cell rfl)).mono ?_
 rintro e w1 ⟨rfl, hb⟩
 replace k1 := k1.below hb
 replace k2 := k2.below hb
 replace kb := bel kb hb
 clear hb c1
 go_wp2_with fail
 refine (c2.out _ _ (k1.cell rfl)).mono ?_
 rintro e w2 ⟨rfl, hb⟩
 replace k1 := k1.below hb
 replace k2 := k2.below hb
 replace kb := bel kb hb
 clear hb c2
 go_wp2_with fail
 refine (c3.out _ _ (k1.cell rfl)).mono ?_
 rintro e w3 ⟨rfl, hb⟩
 replace k1 := k1.below hb
 replace k2 := k2.below hb
 replace kb := bel kb hb
 clear hb c3
 go_wp2_with fail
 refine (c4.out _ _ (k1.cell rfl)).mono ?_
 rintro e w4 ⟨rfl, hb⟩
 replace k1 := k1.below hb
 replace k2 := k2.below hb
 replace kb := bel kb hb
 clear hb c4
 go_wp2_with (first | (refine wpList_builta rfl _ _ rfl (setL r1 r2 r3 r4).toArray zKr ?_) | (refine wpl_storeG rfl _ _ _ rfl _ (setL r1 r2 r3 r4) rfl rfl _ k2 (by rw [setL_len]; kernel_rfl) (by rw [setL_len, hZ.out]) (setL_one _ _ _ _) (fun w5 k3 hg hsz => ?_)))
 have qb := below_gr kb hg zOm kb.size
 exact bodyPost_ret (results_arr2 Tryz.results5 _ _ _ rfl zKr _ k3 (by rw [setL_len]; kernel_rfl)) rfl ⟨rfl, qb⟩
end Go.Proofs.YtncnlfpiondpnaaGreat
