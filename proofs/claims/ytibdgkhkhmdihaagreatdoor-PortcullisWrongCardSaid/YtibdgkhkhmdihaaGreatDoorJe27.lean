/- PortcullisWrong: part 27 of its proof: lemmas and contracts, each with its conditions in its own statement; the last part holds the law itself. -/
import Derived.Test.YtibdgkhkhmdihaaGreatDoorJe26
import Derived.Test.YtibdgkhkhmdihaaGreatDoorJe24

set_option maxHeartbeats 4000000
set_option maxRecDepth 100000
namespace Go.Proofs.YtibdgkhkhmdihaaGreatDoor
open Go.RowKit
theorem dec_18 : Lib.decDigits 18 = [49, 56] := by
 rw [Lib.decDigits, Lib.decDigits]; rfl
def iniX : Plr := ⟨ofN 0 rootL, ofN 0 signerL, ofN 0 deviceL, ofN 0 keyL, .slice none 0 0, .slice none 0 0, .pointer none, .pointer none, .pointer none⟩
def skp (x : List UInt8) : Prop := x = [] ∨ x[0]? = some 35
theorem play_ok (s : ByteArray) (hs : s.size ≤ 262144) (hl : nLn s.data.toList ≤ 8000) (w : World) (L : List UInt8) (I : Nat → Nat → World → Nat → World → Prop)
 (h0 : ∀ P r w0, Pl w0 P (iniX.cs (.pointer none) (.slice none 0 0)) → Mp w0 r cmdL → r ≠ P → I P r w0 0 w0)
 (hch : ∀ P r w0 j w', I P r w0 j w' → Ch [P] w0 w')
 (hskip : ∀ P r w0 j x w', (lns 10 s.data.toList)[j]? = some x → j < nLn s.data.toList → skp x → I P r w0 j w' → I P r w0 (j + 1) w')
 (hline : ∀ P r w0 j x w', (lns 10 s.data.toList)[j]? = some x → j < nLn s.data.toList → ¬ skp x → I P r w0 j w' →
  Calls Tryz.prog 15 #[.pointer (some ⟨P, 0, none⟩), .string ⟨x.toArray⟩, .map (some r)] w' fun e w'' => e = .returned (.tuple #[]) ∧ I P r w0 (j + 1) w'')
 (hfin : ∀ P r w0 w', I P r w0 (nLn s.data.toList) w' → Calls Tryz.prog 16 #[.pointer (some ⟨P, 133, none⟩)] w' fun e w'' => e = .returned (.string ⟨L.toArray⟩) ∧ Below w0.heap.size w' w'') :
 Calls Tryz.prog 8 #[.string s] w fun e w' => e = .returned (.string ⟨L.toArray⟩) ∧ Below w.heap.size w w' := by
 have cL := zH (lines_any s w zOm)
 have cO := zH (fun w => of_any 0 w)
 have cC := zH (fun w => commands_any w)
 have hln := lns_len 10 s.data.toList
 have hnl : nLn s.data.toList ≤ (lns 10 s.data.toList).length := by
  unfold nLn
  split <;> omega
 obtain ⟨n, hn⟩ : ∃ n, nLn s.data.toList = n := ⟨_, rfl⟩
 obtain ⟨LS, hLS⟩ : ∃ l, lns 10 s.data.toList = l := ⟨_, rfl⟩
 rw [hn, hLS] at cL hskip hline hnl
 rw [hn] at hl hfin
 have hz1 : decide ((262144 : Int) < (s.size : Int)) = false := decide_eq_false zOm
 have hz2 : decide ((8000 : Int) < (n : Int)) = false := decide_eq_false zOm
 unfold ofL at cO
 unfold iniX at h0
 obtain ⟨r1, h1⟩ : ∃ n, ofN 0 rootL = n := ⟨_, rfl⟩
 obtain ⟨r2, h2⟩ : ∃ n, ofN 0 signerL = n := ⟨_, rfl⟩
 obtain ⟨r3, h3⟩ : ∃ n, ofN 0 deviceL = n := ⟨_, rfl⟩
 obtain ⟨r4, h4⟩ : ∃ n, ofN 0 keyL = n := ⟨_, rfl⟩
 rw [h1, h2, h3, h4] at cO h0
 obtain ⟨X, hX⟩ : ∃ X : Plr, (⟨r1, r2, r3, r4, .slice none 0 0, .slice none 0 0, .pointer none, .pointer none, .pointer none⟩ : Plr) = X := ⟨_, rfl⟩
 rw [hX] at h0
 replace h0 := zH h0
 replace hch := zH hch
 replace hskip := zH hskip
 replace hline := zH hline
 replace hfin := zH hfin
 replace hnl := zH hnl
 obtain ⟨LV, hLV⟩ : ∃ v, L.toArray = v := ⟨_, rfl⟩
 rw [hLV] at hfin ⊢
 clear hn hLS hln h1 h2 h3 h4 hs hLV
 go_enter Tryz.func8, Tryz.ntmps8
 go_wp2_with fail
 refine cL.out.mono ?_
 rintro e w1 ⟨g, c, rfl, hg, kL, kb⟩
 clear cL
 replace kL := zH kL
 go_wp2_with fail
 refine (cO.out _).mono ?_
 rintro e w2 ⟨rfl, hb⟩
 replace kL := zH (kL.out.below hb)
 replace kb := bel kb hb
 clear cO hb
 go_upto_region 5 with (refine wpList_builta rfl _ _ rfl (({ root := r1, sig := r2, dev := r3, key := r4, man := .slice none 0 0, bl := .slice none 0 0, f := .pointer none, o := .pointer none, d := .pointer none } : Plr).cs (.pointer none) (.slice none 0 0)).toArray zKr ?_)
 have kP : Pl (w2.alloc (.cells (X.cs (.pointer none) (.slice none 0 0)).toArray 46)) w2.heap.size (X.cs (.pointer none) (.slice none 0 0)) := heap_alloc_new w2 _
 have hb := below_alloc w2 (.cells (X.cs (.pointer none) (.slice none 0 0)).toArray 46)
 have hP0 := kb.size
 obtain ⟨W3, hW3⟩ : ∃ W, w2.alloc (.cells (X.cs (.pointer none) (.slice none 0 0)).toArray 46) = W := ⟨_, rfl⟩
 obtain ⟨P, hP⟩ : ∃ k, w2.heap.size = k := ⟨_, rfl⟩
 have hgP : g ≠ P := by have := kL.out.lt; omega
 rw [hW3] at kP hb ⊢
 rw [hP] at kP hP0 ⊢
 have hPl := kP.arr.lt
 replace kL := zH (kL.out.below hb)
 replace kb := bel kb hb
 replace kP := zH kP
 clear hb hP hW3 hX
 go_wp2_with fail
 refine (cC.out _).mono ?_
 rintro e w0 ⟨rfl, kM, hb⟩
 obtain ⟨r, hr⟩ : ∃ k, W3.heap.size = k := ⟨_, rfl⟩
 rw [hr] at kM ⊢
 have hI0 := zH (h0.out P r w0 (kP.out.below hb) kM zOm)
 replace kL := zH (kL.out.below hb)
 replace kb := bel kb hb
 clear cC kP kM hb h0 hr
 go_upto_region 7 with fail
 go_loopw [27] (fun iv wr => ∃ j : Nat, j ≤ n ∧ iv = .int .i64 j ∧ Hid (I P r w0 j wr)) (fun iv _ => n - (intOf iv).toNat)
 case atStart => exact ⟨0, Nat.zero_le _, rfl, hI0⟩
 case round =>
 clear hI0
 obtain ⟨j, hj, rfl, hI⟩ := hrel
 have hj0 : (0 : Int) ≤ (j : Int) := by omega
 have hC := hch.out _ _ _ _ _ hI.out
 by_cases hjn : j < n
 · have hj1 : (j : Int) < (n : Int) := by omega
   have hxx : ∃ x, LS[j]? = some x := ⟨_, List.getElem?_eq_getElem (by have := hnl.out; omega)⟩
   obtain ⟨x, hx⟩ := hxx
   have y : wr.cell? ⟨g, j, none⟩ = some (.string ⟨x.toArray⟩) := (kL.out.ch hC (by simpa using hgP)).cell (by simp [strs, hx])
   have hsk := fun h => hskip.out P r w0 j x wr hx hjn h hI.out
   have hln := fun h => hline.out P r w0 j x wr hx hjn h hI.out
   clear hC hx
   by_cases hx0 : x = []
   · subst hx0
     have hI1 := zH (hsk (.inl rfl))
     clear hsk hln
     go_wp2_with fail
     exact ⟨⟨j + 1, by omega, by go_num, hI1⟩, by simp [intOf]; omega⟩
   · have hxe : (⟨x.toArray⟩ : ByteArray).toList.isEmpty = false := isE (by
      cases x with
      | nil => exact absurd rfl hx0
      | cons _ _ => rfl)
     have hs1 : 1 ≤ (⟨x.toArray⟩ : ByteArray).size := by
      cases x with
      | nil => exact absurd rfl hx0
      | cons _ _ => simp [ByteArray.size]
     obtain ⟨c0, hc0⟩ : ∃ c, x[0]? = some c := by
      cases x with
      | nil => exact absurd rfl hx0
      | cons c _ => exact ⟨c, rfl⟩
     have hq : ∀ h : 0 < (⟨x.toArray⟩ : ByteArray).size, (((⟨x.toArray⟩ : ByteArray)[0]'h).toNat : Int) = (c0.toNat : Int) := by
      intro h
      have h1 : x[0]? = some ((⟨x.toArray⟩ : ByteArray)[0]'h) := by
       rw [List.getElem?_eq_getElem (by simpa [ByteArray.size] using h)]
       rfl
      rw [hc0] at h1
      injection h1 with h1
      rw [← h1]
     have hskp : skp x ↔ c0 = 35 := by
      unfold skp
      rw [hc0]
      simp [hx0]
     obtain ⟨XS, hXS⟩ : ∃ X : ByteArray, (⟨x.toArray⟩ : ByteArray) = X := ⟨_, rfl⟩
     rw [hXS] at hxe hq y hs1 hln
     by_cases h35 : c0 = 35
     · have hI1 := zH (hsk (hskp.2 h35))
       have hc : ((c0.toNat : Int) == 35) = true := by rw [h35]; rfl
       clear hsk hln
       go_wp2_with fail
       exact ⟨⟨j + 1, by omega, by go_num, hI1⟩, by simp [intOf]; omega⟩
     · have cl := zH (hln (fun h => h35 (hskp.1 h)))
       have hc : ((c0.toNat : Int) == 35) = false := by
        have h48 : c0.toNat ≠ 35 := fun hh => h35 (UInt8.toNat_inj.1 hh)
        simp
        omega
       clear hsk hln hI
       go_wp2_with fail
       refine cl.out.mono ?_
       rintro e w9 ⟨rfl, hI9⟩
       replace hI9 := zH hI9
       go_wp2_with fail
       exact ⟨⟨j + 1, by omega, by go_num, hI9⟩, by simp [intOf]; omega⟩
 · obtain rfl : j = n := by omega
   have hj1 : ¬ (j : Int) < (j : Int) := by omega
   have cF := zH (hfin.out P r w0 wr hI.out)
   clear hI hskip hline hfin hch
   go_wp2_with fail
   refine cF.out.mono ?_
   rintro e w9 ⟨rfl, hb9⟩
   have hbe : Below w.heap.size w w9 := by
    refine Below.trans (kb.trans ⟨hC.os, hC.tape, hC.output, hC.size, fun k hk => hC.block k (Nat.lt_of_lt_of_le hk kb.size) (by simp; omega)⟩) ?_
    exact ⟨hb9.os, hb9.tape, hb9.output, hb9.size, fun k hk => hb9.block k (Nat.lt_of_lt_of_le hk kb.size)⟩
   clear cF hb9 hC
   go_wp2_with fail
   go_ret
   exact ⟨rfl, hbe⟩
theorem Plr.put_d (X : Plr) (a u x : Value) : (X.cs a u).set 132 x = ({ X with d := x } : Plr).cs a u := Plr.put X a u x (j := 4)
theorem Plr.put_o (X : Plr) (a u x : Value) : (X.cs a u).set 131 x = ({ X with o := x } : Plr).cs a u := Plr.put X a u x (j := 3)
theorem Plr.put_f (X : Plr) (a u x : Value) : (X.cs a u).set 130 x = ({ X with f := x } : Plr).cs a u := Plr.put X a u x (j := 2)
def ptr0 (k : Nat) : Value := .pointer (some ⟨k, 0, none⟩)
theorem tp_cells {p : Nat} {T : TypeId} : ∀ (cs : List Value) (o : Nat) (w : World), (∃ A, w.heap[p]? = some (.cells A T (0, 0))) → ∃ A, (w.setCells p o cs).heap[p]? = some (.cells A T (0, 0))
 | [], _, _, h => h
 | c :: cs, o, w, ⟨_, h⟩ => tp_cells cs (o + 1) _ ⟨_, heap_setCell_same w p o _ _ c h⟩
theorem Pl.of_arr {w : World} {p : Nat} {xs : List Value} (h : Arr w p xs) (ht : ∃ A, w.heap[p]? = some (.cells A 46 (0, 0))) : Pl w p xs := by
 obtain ⟨T, h⟩ := h
 obtain ⟨A, ht⟩ := ht
 rw [h] at ht
 injection ht with ht
 injection ht with h1 h2 h3
 unfold Pl
 rw [h, h2]
theorem wpl_storeMP {w : World} {ops : Array Oper} {rest : List Oper} {o : Oper} {a : Act} {Q : Exit → Act → World → Prop} (hgd : o.guard = none) (ty : TypeId) (x y : Operand) (ho : o.op = .store ty x y)
 (g off : Nat) (cs : List Value) (hx : a.eval x = .pointer (some ⟨g, off, none⟩)) (hy : a.eval y = .agg cs.toArray) (xs : List Value) (hg : Pl w g xs) (hi : (Tryz.prog.info? ty).map (·.size) = some cs.length)
 (hfit : off + cs.length ≤ xs.length) (h1 : ∀ v ∈ cs, v.oneCell' = true)
 (h : ∀ W, Pl W g (putAt off cs xs) → w.grownBy W (some g) → wpList Tryz.prog ops Q rest (a.put o.dst undef) W) : wpList Tryz.prog ops Q (o :: rest) a w := by
 refine wpList_store_mid hgd ty x y ho g off cs.toArray hx hy (by simpa using hg.arr.there hfit) (by simpa using hi) (all_oneCell_toArray h1) ?_
 refine h _ (Pl.of_arr (Arr.setCells _ _ hg.arr (by simpa using hfit)) ?_) (gr_cells _ _ _)
 exact tp_cells _ _ _ ⟨_, hg⟩
def OpNew (P pf q g r s m : Nat) (X : Plr) (a u : Value) (w : World) (e : Ending) (w' : World) : Prop := ∃ d c k F', e = .returned (.tuple #[]) ∧ w.heap.size ≤ d ∧ w.heap.size ≤ c ∧ d ≠ c ∧
 F'.dead = false ∧ Arr w' d (dvv pf c false) ∧ Arr w' c (coZ k r s (-1)) ∧ Arr w' q (otv (some ⟨pf, 0, none⟩) r s 1 (m : Int)) ∧ FlAt w' pf g F' ∧ Pl w' P (({ X with d := ptr0 d } : Plr).cs a u) ∧ Ch [P, pf, g, q] w w'
theorem open_fresh (P pf q g r s m : Nat) (X : Plr) (a u : Value) (F : Fl) (w : World) (kp : Pl w P (X.cs a u)) (hxf : X.f = ptr0 pf) (hxo : X.o = ptr0 q)
 (ko : Arr w q (otv (some ⟨pf, 0, none⟩) r s 0 (m : Int))) (kf : FlAt w pf g F) (hqp : q ≠ pf) (hqg : q ≠ g) (hlen : 32768 ≤ F.b.length) (hop : F.op = -1) (hd : F.dead = false) (hm0 : 0 < m) (hm : m ≤ 1000000) (hf : Unmarked F)
 (hP : P ∉ [pf, g, q]) :
 Calls Tryz.prog 49 #[.pointer (some ⟨P, 0, none⟩)] w (OpNew P pf q g r s m X a u w) := by
 obtain ⟨x1, x2, x3, x4, x5, x6, x7, x8, x9⟩ := X
 simp only at hxf hxo
 subst hxf hxo
 have hPl := kp.arr.lt
 have cO := zH (fun (w' : World) (hb : Below w.heap.size w w') => dopen_fresh pf q g r s m F w' (ko.below hb) (kf.below hb) hqp hqg hlen hop hd hm0 hm hf)
 have cM := zH must_ok
 replace kp := zH kp
 clear ko kf hqp hqg hlen hop hd hm0 hm hf
 go_enter Tryz.func49, Tryz.ntmps49
 refine wp_seq ?_
 refine Tx.start (fun w' => Ch [pf, g, q] w w') 9999 14 rfl zKr ?_
 have hb0 : Below w.heap.size w w.drew := (Below.refl _ _).drew
 have hS0 : Ch [pf, g, q] w w.drew := Ch.of_below hb0
 refine Tx.seg (A := ?_) 6 255 zKr (by exact hS0) [0, 1, 2, 3, 4, 5, 6, 7] zKr ?_ ?_
 rotate_left
 · intro w' hB
   have y6 := (kp.out.ch hB hP).arr.cell (Plr.at _ _ _ (j := 2))
   have y7 := (kp.out.ch hB hP).arr.cell (Plr.at _ _ _ (j := 3))
   exact zRd
 refine Tx.eff 8 511 rfl zDk (fun K hK => ?_)
 go_simp
 refine (cO.out _ hb0).mono ?_
 rintro e w1 ⟨d, c, k, F', rfl, hd, hc, hdc, hdd, -, -, kd, k0, kq, kf, hC⟩
 have hd : w.heap.size ≤ d := Nat.le_trans hb0.size hd
 have hc : w.heap.size ≤ c := Nat.le_trans hb0.size hc
 have hS1 : Ch [pf, g, q] w w1 := hS0.trans hC
 refine hK (fun w' => Ch [pf, g, q] w w') _ _ hS1 (fun _ h => h) ?_
 clear hK K hS0 hb0 cO hC
 try simp only [Act.put, zSa, zSz, zSs]
 refine Tx.seg (A := ?_) 0 16383 zKr (by exact hS1) [9, 10, 11, 12, 13] zKr ?_ ?_
 rotate_left
 · intro w' hB
   exact zRd
 refine Tx.done zKr ?_
 have kp1 := kp.out.ch hS1 hP
 have z8 := kp1.arr.cell (Plr.at _ _ _ (j := 4))
 have zf := kp1.arr.frozen 132
 replace kd := zH kd
 replace k0 := zH k0
 replace kq := zH kq
 replace kf := zH kf
 replace kp1 := zH kp1
 clear kp
 go_upto_region 2 with fail
 have hPn : P ≠ pf ∧ P ≠ g ∧ P ≠ q := by simpa using hP
 have k2 : Pl (w1.setCell ⟨P, 132, none⟩ (ptr0 d)) P (({ root := x1, sig := x2, dev := x3, key := x4, man := x5, bl := x6, f := ptr0 pf, o := ptr0 q, d := ptr0 d } : Plr).cs a u) := by
  have := kp1.out.set 132 (ptr0 d)
  rwa [Plr.put_d] at this
 have hg : Ch [P] w1 (w1.setCell ⟨P, 132, none⟩ (ptr0 d)) := Ch.of_gr (gr_cell w1 P 132 (ptr0 d)) (by simp)
 change Code.wp _ _ _ _ (w1.setCell ⟨P, 132, none⟩ (ptr0 d))
 generalize w1.setCell ⟨P, 132, none⟩ (ptr0 d) = W at k2 hg ⊢
 have kdW := zH (kd.out.ch hg (by simp; omega))
 have k0W := zH (k0.out.ch hg (by simp; omega))
 have kqW := zH (kq.out.ch hg (by simp; omega))
 have kfW := zH (kf.out.ch hg (by simp; omega) (by simp; omega))
 have hSW : Ch [P, pf, g, q] w W := (hS1.mono (M' := [P, pf, g, q]) (fun k hk => List.mem_cons_of_mem _ hk)).trans (hg.mono (fun k hk => by simp at hk; simp [hk]))
 replace k2 := zH k2
 clear kd k0 kq kf kp1 z8 zf hg hS1
 go_wp2_with fail
 refine (cM.out _).mono ?_
 rintro e w2 ⟨rfl, rfl⟩
 go_wp2_with fail
 go_end0
 exact ⟨d, c, k, F', rfl, hd, hc, hdc, hdd, kdW.out, k0W.out, kqW.out, kfW.out, k2.out, hSW⟩
theorem Plr.put_set (X : Plr) (a u : Value) (r s d k : Nat) : putAt 0 (setL r s d k) (X.cs a u) = ({ X with root := r, sig := s, dev := d, key := k } : Plr).cs a u := by
 rw [putAt, List.take_zero, List.nil_append, Nat.zero_add, setL_len, Plr.cs, ← setL_len X.root X.sig X.dev X.key, List.drop_left, Plr.cs]
theorem Plr.rg_root {w : World} {p : Nat} {X : Plr} {a u : Value} (h : Pl w p (X.cs a u)) : w.rangeAt p 0 (bytn 32 X.root) := h.arr.range (fun j hj => by
 rw [Nat.zero_add, Plr.cs, setL, List.append_assoc, List.getElem?_append_left hj])
theorem Plr.rg_dev {w : World} {p : Nat} {X : Plr} {a u : Value} (h : Pl w p (X.cs a u)) : w.rangeAt p 64 (bytn 32 X.dev) := h.arr.range (fun j hj => by
 have hj' := hj
 rw [bytn_len] at hj'
 rw [Plr.cs, setL, List.append_assoc, List.getElem?_append_right (by rw [bytn_len]; omega), List.append_assoc, List.getElem?_append_right (by rw [bytn_len, bytn_len]; omega), bytn_len, bytn_len, List.append_assoc, List.getElem?_append_left (by rw [bytn_len]; omega)]
 congr 1
 omega)
theorem sl_cell {w : World} {g n c j : Nat} {vs : List Value} {u : Value} (h : Sl w (.slice (some ⟨g, 0, none⟩) n c) vs) (hj : vs[j]? = some u) : w.cell? ⟨g, j, none⟩ = some u := by
 obtain ⟨a, cap, he, -, -, -, h5⟩ := h
 injection he with h1 h2 h3
 have := h5 _ h1.symm j u hj
 rwa [Addr.add_lit, Nat.zero_add] at this
theorem fl_new_len : (Fl.new 128).b.length = 32768 := by
 show (List.replicate (128 * 256) (255 : UInt8)).length = 32768
 rw [List.length_replicate]
theorem FlAt.cp {P B : Nat} {w w' : World} {p g : Nat} {F : Fl} (h : FlAt w p g F) (hc : Cp P B w w') (hp : p < B) (hg : g < B) (hpP : p ≠ P) (hgP : g ≠ P) : FlAt w' p g F := by
 obtain ⟨h1, ⟨pad, h2⟩, h3, h4, h5, h6⟩ := h
 exact ⟨h1.cp hc hp hpP, ⟨pad, h2.cp hc hg hgP⟩, h3, h4, h5, h6⟩
theorem Ch.cp {M : List Nat} {P B : Nat} {w w1 w2 : World} (h : Ch M w w1) (hc : Cp P B w1 w2) (hP : P ∈ M) (hB : w.heap.size ≤ B) : Ch M w w2 :=
 ⟨hc.os.trans h.os, hc.tape.trans h.tape, hc.output.trans h.output, Nat.le_trans h.size hc.size, fun k hk hn => (hc.block k zOm (fun e => hn (e ▸ hP))).trans (h.block k hk hn)⟩
def okL : List UInt8 := [111, 107]
def FrNew (P : Nat) (seed : Int) (m : Nat) (w : World) (e : Ending) (w' : World) : Prop := ∃ (pf q g d c k r s B : Nat) (X : Plr) (u : Value) (F : Fl), e = .returned (.tuple #[]) ∧
 F.dead = false ∧ Arr w' d (dvv pf c false) ∧ Arr w' c (coZ k r s (-1)) ∧ Arr w' q (otv (some ⟨pf, 0, none⟩) r s 1 (m : Int)) ∧ FlAt w' pf g F ∧ d ≠ c ∧
 X.f = ptr0 pf ∧ X.o = ptr0 q ∧ X.d = ptr0 d ∧ X.root = ofN seed rootL ∧ Pl w' P (X.cs (slf P) u) ∧ w'.ownsRow B 5 1 u (okL ++ [10]).length (u8s (okL ++ [10])) ∧ (∀ b, u.ownBlock = some b → B ≤ b) ∧
 w.heap.size ≤ B ∧ B ≤ w'.heap.size ∧ pf < B ∧ g < B ∧ q < B ∧ d < B ∧ c < B ∧ w.heap.size ≤ pf ∧ w.heap.size ≤ g ∧ w.heap.size ≤ q ∧ w.heap.size ≤ d ∧ w.heap.size ≤ c ∧ Ch [P] w w'
theorem fresh_any (P gn cn : Nat) (seed : Int) (m : Nat) (hm0 : 0 < m) (hm : m ≤ 1000000) (tv : Value) (X : Plr) (w : World) (kp : Pl w P (X.cs (.pointer none) (.slice none 0 0)))
 (hn : Sl w (.slice (some ⟨gn, 0, none⟩) 2 cn) [.int .i64 seed, .int .i64 (m : Int)]) (hgP : gn ≠ P) :
 Calls Tryz.prog 22 #[.pointer (some ⟨P, 0, none⟩), .agg #[.slice (some ⟨gn, 0, none⟩) 2 cn, tv]] w (FrNew P seed m w) := by
 obtain ⟨x1, x2, x3, x4, x5, x6, x7, x8, x9⟩ := X
 have cI := zH (fun w => of_any seed w)
 have cF := zH (fun w => show Calls Tryz.prog 46 #[.int .i64 128] w _ from fnew_any 128 zDc w)
 have cP := zH (fun K w => cpublic_any K w)
 have cO := zH (fun fv r s w => onew_any fv r s m hm0 hm w)
 obtain ⟨mI, hmI⟩ : ∃ k : Int, (m : Int) = k := ⟨_, rfl⟩
 have hPl := kp.arr.lt
 obtain ⟨r1, h1⟩ : ∃ n, ofN seed rootL = n := ⟨_, rfl⟩
 obtain ⟨r2, h2⟩ : ∃ n, ofN seed signerL = n := ⟨_, rfl⟩
 obtain ⟨r3, h3⟩ : ∃ n, ofN seed deviceL = n := ⟨_, rfl⟩
 obtain ⟨r4, h4⟩ : ∃ n, ofN seed keyL = n := ⟨_, rfl⟩
 simp only [ofL, h1, h2, h3, h4] at cI
 replace h1 := zH h1
 clear h2 h3 h4
 replace kp := zH kp
 replace hn := zH hn
 replace hmI := zH hmI
 go_enter Tryz.func22, Tryz.ntmps22
 go_upto_region 1 with fail
 refine wp_new1 (fun W hsz kA kb => ?_)
 have kA := kA
 replace kA : Arr W w.heap.size [.slice (some ⟨gn, 0, none⟩) 2 cn, tv] := kA
 obtain ⟨ga, hga⟩ : ∃ k, w.heap.size = k := ⟨_, rfl⟩
 have hgaP : ga ≠ P := by omega
 have kp1 := zH (kp.out.below kb)
 have hn1 := zH (hn.out.below kb)
 have y0 := sl_cell hn1.out (j := 0) rfl
 have yA := kA.cell (j := 0) rfl
 have hC := Ch.of_below (M := [P]) kb
 rw [hga] at kA yA ⊢
 clear hsz kb kp hn
 go_wp2_with fail
 refine (cI.out _).mono ?_
 rintro e w1 ⟨rfl, hb⟩
 replace kp1 := zH (kp1.out.below hb)
 replace hn1 := zH (hn1.out.below hb)
 replace kA := zH (kA.below hb)
 replace hC := hC.trans (Ch.of_below hb)
 clear y0 yA cI hb
 go_upto_region 2 with (refine wpl_storeMP rfl _ _ _ rfl P 0 (setL r1 r2 r3 r4) rfl rfl _ kp1.out (by rw [setL_len]; kernel_rfl) (by rw [setL_len, Plr.len]; decide) (setL_one _ _ _ _) (fun W2 k2 hg => ?_))
 rw [Plr.put_set] at k2
 have hc2 := Ch.of_gr (M := [P]) hg (by simp)
 replace k2 := zH k2
 replace hn1 := zH (hn1.out.ch hc2 (by simpa using hgP))
 replace kA := zH (kA.out.ch hc2 (by simpa using hgaP))
 replace hC := hC.trans hc2
 clear kp1 hc2 hg
 go_wp2_with fail
 refine (cF.out _).mono ?_
 rintro e w3 ⟨pf, g, rfl, hpf, hg, kf, hb⟩
 have hP2 : P < W2.heap.size := k2.out.arr.lt
 have hsz2 : w.heap.size ≤ W2.heap.size := hC.size
 have hpf0 : w.heap.size ≤ pf := Nat.le_trans hsz2 hpf
 have hg0 : w.heap.size ≤ g := Nat.le_trans hsz2 hg
 have k3 := k2.out.below hb
 replace hn1 := zH (hn1.out.below hb)
 replace kA := zH (kA.out.below hb)
 replace hC := hC.trans (Ch.of_below hb)
 have z3 := k3.arr.cell (Plr.at _ _ _ (j := 2))
 have zf := k3.arr.frozen 130
 replace k3 := zH k3
 replace kf := zH kf
 clear k2 cF hb
 go_upto_region 3 with fail
 have k4 : Pl (w3.setCell ⟨P, 130, none⟩ (ptr0 pf)) P (({ root := r1, sig := r2, dev := r3, key := r4, man := x5, bl := x6, f := ptr0 pf, o := x8, d := x9 } : Plr).cs (.pointer none) (.slice none 0 0)) := by
  have := k3.out.set 130 (ptr0 pf)
  rwa [Plr.put_f] at this
 have hg4 : Ch [P] w3 (w3.setCell ⟨P, 130, none⟩ (ptr0 pf)) := Ch.of_gr (gr_cell w3 P 130 (ptr0 pf)) (by simp)
 change Code.wp _ _ _ _ (w3.setCell ⟨P, 130, none⟩ (ptr0 pf))
 generalize w3.setCell ⟨P, 130, none⟩ (ptr0 pf) = W4 at k4 hg4 ⊢
 have hpfP : pf ≠ P := by omega
 have hgP' : g ≠ P := by omega
 replace hn1 := zH (hn1.out.ch hg4 (by simpa using hgP))
 replace kA := zH (kA.out.ch hg4 (by simpa using hgaP))
 replace kf := zH (kf.out.ch hg4 (by simpa using hpfP) (by simpa using hgP'))
 replace hC := hC.trans hg4
 replace k4 := zH k4
 clear k3 z3 zf hg4
 refine Tx.start (fun w' => Below (W4).heap.size (W4) w') 23 24 rfl zKr ?_
 have hS_1 : Below (W4).heap.size (W4) (World.drew W4) := (Below.refl _ _).drew
 refine Tx.seg (A := ?_) 5 1047551 zKr (by exact hS_1) [0, 1, 2, 3, 4, 5, 6, 7, 8, 9, 11, 12, 13, 14, 15, 16, 17, 18, 19] zKr ?_ ?_
 rotate_left
 · intro w' hB
   have kq := k4.out.below hB
   have y4 := kq.arr.cell (Plr.at _ _ _ (j := 2))
   have y9 := Plr.rg_root kq
   have y15 := Plr.rg_dev kq
   have y17 := (kA.out.below hB).cell (j := 0) rfl
   have y19 := sl_cell (hn1.out.below hB) (j := 1) rfl
   exact zRm
 refine Tx.eff 10 1048575 rfl zDk (fun K hK => ?_)
 go_simp
 refine (cP.out r1 _).mono ?_
 rintro e w_2 ⟨rfl, hb_2⟩
 have hS_2 := ext_trans hS_1 (Nat.le_refl _) hb_2
 refine hK (fun w' => Below (W4).heap.size (W4) w') _ _ hS_2 (fun _ h => h) ?_
 clear hK K hb_2 hS_1
 try simp only [Act.put, zSa, zSz, zSs]
 have hs2 : W4.heap.size ≤ (w_2).heap.size := Below.size zAm
 obtain ⟨rk, hrk⟩ : ∃ n, pubN r1 = n := ⟨_, rfl⟩
 rw [hrk]
 clear hrk
 refine Tx.eff 20 2097151 rfl zDk (fun K hK => ?_)
 go_simp
 refine (cO.out (some ⟨pf, 0, none⟩) rk r3 _).mono ?_
 rintro e w_3 ⟨q, rfl, hq, kq, hb_3⟩
 have hS_3 := ext_trans hS_2 (Nat.le_refl _) hb_3
 refine hK (fun w' => Below (W4).heap.size (W4) w') _ _ hS_3 (fun _ h => h) ?_
 clear hK K hS_2
 try simp only [Act.put, zSa, zSz, zSs]
 have hqs : W4.heap.size ≤ q := Nat.le_trans hs2 hq
 refine Tx.pure (A := ?_) 1 8388607 zKr (by exact hS_3) [21, 22] zKr ?_ ?_
 rotate_left
 · intro w'
   iterate 2 (first | (refine rd_skip rfl rfl ?_; simp only [Act.put, zSa, zSz, zSs]) | (refine rd_take (v := ?_) rfl rfl ?_ ?_; rotate_left; (focus (go_simp; try (with_reducible rfl))); simp only [Act.put, zSa, zSz, zSs]))
   exact rd_nil
 have k5 := k4.out.below zAm
 have kf5 := kf.out.below zAm
 have kb5 : Below W4.heap.size W4 w_3 := by assumption
 have z5 := k5.arr.cell (Plr.at _ _ _ (j := 3))
 have zf5 := k5.arr.frozen 131
 refine Tx.bar 16777215 rfl zDk (fun K hK => ?_)
 go_simp
 refine hK (fun _ => True) 9999 _ _ ?_
 clear hK K
 try simp only [Act.put]
 try simp only [zSa, zSz, zSs]
 refine Tx.done zKr ?_
 have hqP : q ≠ P := by have := k4.out.arr.lt; omega
 have hlf := kf.out.lt
 have hqp : q ≠ pf := by omega
 have hqg : q ≠ g := by omega
 have hq0 : w.heap.size ≤ q := by have := hC.size; omega
 have k6 : Pl (w_3.setCell ⟨P, 131, none⟩ (ptr0 q)) P (({ root := r1, sig := r2, dev := r3, key := r4, man := x5, bl := x6, f := ptr0 pf, o := ptr0 q, d := x9 } : Plr).cs (.pointer none) (.slice none 0 0)) := by
  have := k5.set 131 (ptr0 q)
  rwa [Plr.put_o] at this
 have hg6 : Ch [P] w_3 (w_3.setCell ⟨P, 131, none⟩ (ptr0 q)) := Ch.of_gr (gr_cell _ P 131 (ptr0 q)) (by simp)
 change Exit.then _ _ _ _ (w_3.setCell ⟨P, 131, none⟩ (ptr0 q))
 generalize w_3.setCell ⟨P, 131, none⟩ (ptr0 q) = W6 at k6 hg6 ⊢
 have kq6 := kq.ch hg6 (by simpa using hqP)
 have kf6 := kf5.ch hg6 (by simpa using hpfP) (by simpa using hgP')
 have hC6 := (hC.trans (Ch.of_below kb5)).trans hg6
 have cN := zH (open_fresh P pf q g rk r3 m _ _ _ _ W6 k6 rfl rfl kq6 kf6 hqp hqg (Nat.le_of_eq fl_new_len.symm) rfl rfl hm0 hm (unmarked_new 128 zDc) (by simp; omega))
 have hP6 := k6.arr.lt
 have hs6 : q < W6.heap.size := kq6.lt
 clear k6 kq6 kf6 hg6 z5 zf5 k5 kf5 kb5 kq kA hn1 kf k4 hC hqs hq hs2
 go_wp2_with fail
 refine cN.out.mono ?_
 rintro e w7 ⟨d, c, k, F', rfl, hd, hc, hdc, hdd, kd, k0, kq7, kf7, k7, hC7⟩
 have hP7 := k7.arr.lt
 have hl7 := kf7.lt
 have hq7 := kq7.lt
 have hd7 := kd.lt
 have hc7 := k0.lt
 have hs7 := hC7.size
 have hb8 := below_alloc w7 (.cells #[.string ⟨#[111, 107]⟩] 9)
 have cY := zH (say_any P w7.heap.size _ (.pointer none) (.slice none 0 0) _ [] [okL] _ (k7.below hb8) (.inl rfl) (World.ownsRow_nil _ _ _ _) hP7 hb8.size (Sts.new1 w7 okL 9) zDc zDc)
 have hsw := hC6.size
 have hg7 := gr_below (row := none) hb8
 clear cN
 replace kd := zH (kd.below hb8)
 replace k0 := zH (k0.below hb8)
 replace kq7 := zH (kq7.below hb8)
 replace kf7 := zH (kf7.below hb8)
 go_wp2_with fail
 refine cY.out.mono ?_
 rintro e w9 ⟨u', rfl, k9, o9, g9, c9⟩
 have hdP : d ≠ P := by omega
 have hcP : c ≠ P := by omega
 have hC9 : Ch [P] w w9 := ((hC6.drop hC7 (fun k hk => by
  simp only [List.mem_cons, List.not_mem_nil, or_false] at hk ⊢
  omega)).trans (Ch.of_below hb8)).cp c9 (by simp) zOm
 have f1 := kd.out.cp c9 hd7 hdP
 have f2 := k0.out.cp c9 hc7 hcP
 have f3 := kq7.out.cp c9 hq7 hqP
 have f4 := kf7.out.cp c9 hl7.1 hl7.2 hpfP hgP'
 have hs9 := Nat.le_trans hb8.size c9.size
 rw [List.nil_append, show joinL [okL] = okL from Lib.join_one _ _] at o9
 replace f1 := zH f1
 replace f2 := zH f2
 replace f3 := zH f3
 replace f4 := zH f4
 replace k9 := zH k9
 replace o9 := zH o9
 clear cY kd k0 kq7 kf7 k7 c9 hC7 hC6 hb8 hg7
 go_wp2_with fail
 go_end0
 exact ⟨pf, q, g, d, c, k, rk, r3, w7.heap.size, _, u', F', rfl, hdd, f1.out, f2.out, f3.out, f4.out, hdc, rfl, rfl, rfl, h1.out.symm, k9.out, o9.out, g9, by omega, hs9, hl7.1, hl7.2, hq7, hd7, hc7, hpf0, hg0, hq0, by omega, by omega, hC9⟩
theorem do_nought (P d p g c k r s : Nat) (F : Fl) (X : Plr) (a u : Value) (w : World) (kp : Pl w P (X.cs a u)) (hxd : X.d = ptr0 d) (kd : Arr w d (dvv p c false)) (k0 : Arr w c (coZ k r s (-1))) (kf : FlAt w p g F) (hd : F.dead = false) (hdc : d ≠ c) (hcP : c ≠ P) :
 Calls Tryz.prog 51 #[.pointer (some ⟨P, 0, none⟩), .agg #[.int .i64 4, .slice none 0 0, .int .i64 0]] w fun e w' => e = .panicked [{ v := refu 18, recovered := false }] ∧ Ch [c] w w' := by
 obtain ⟨x1, x2, x3, x4, x5, x6, x7, x8, x9⟩ := X
 simp only at hxd
 subst hxd
 have cN := zH needs_ok
 have cM := zH (must_no 18 zDc)
 have cD := zH (fun w' (hb : Below w.heap.size w w') => ddo4 d p g c k r s F (.slice none 0 0) 0 w' (kd.below hb) (k0.below hb) (kf.below hb) hd hdc)
 have hcl := k0.lt
 clear kd k0 kf hd hdc
 replace kp := zH kp
 go_enter Tryz.func51, Tryz.ntmps51
 go_upto_region 1 with fail
 refine wp_new1 (fun W hsz kA kb => ?_)
 replace kA : Arr W w.heap.size [.int .i64 4, .slice none 0 0, .int .i64 0] := kA
 have kp1 := zH (kp.out.below kb)
 have y5 : W.cell? ⟨P, 132, none⟩ = some (.pointer (some ⟨d, 0, none⟩)) := kp1.out.arr.cell (Plr.at _ _ _ (j := 4))
 clear hsz
 go_wp2_with fail
 refine (cN.out _).mono ?_
 rintro e w1 ⟨rfl, hw⟩
 obtain rfl : W = w1 := hw.symm
 clear cN y5
 go_upto_region 2 with fail
 refine Tx.start (fun w' => Ch [c] W w') 9999 11 rfl zKr ?_
 have hS0 : Ch [c] W W.drew := Ch.of_below (Below.refl _ _).drew
 have hcA : w.heap.size ≠ c := by omega
 refine Tx.seg (A := ?_) 6 31 zKr (by exact hS0) [0, 1, 2, 3, 4] zKr ?_ ?_
 rotate_left
 · intro w' hB
   have y5 : w'.cell? ⟨P, 132, none⟩ = some (.pointer (some ⟨d, 0, none⟩)) := (kp1.out.ch hB (by simpa using hcP.symm)).arr.cell (Plr.at _ _ _ (j := 4))
   have yA := kA.ch hB (by simpa using hcA)
   exact zRd
 refine Tx.eff 5 63 rfl zDk (fun K hK => ?_)
 go_simp
 refine (cD.out _ kb.drew).mono ?_
 rintro e w2 ⟨rfl, -, hc⟩
 have hS1 : Ch [c] W w2 := hS0.trans hc
 refine hK (fun w' => Ch [c] W w') _ _ hS1 (fun _ h => h) ?_
 clear hK K hS0
 try simp only [Act.put, zSa, zSz, zSs]
 refine Tx.seg (A := ?_) 0 2047 zKr (by exact hS1) [6, 7, 8, 9, 10] zKr ?_ ?_
 rotate_left
 · intro w' hB
   exact zRd
 refine Tx.done zKr ?_
 have hq := (Ch.of_below (M := [c]) kb).trans hS1
 clear hS1 cD kb hc
 go_wp2_with fail
 refine (cM.out _).mono ?_
 rintro e w3 ⟨rfl, rfl⟩
 exact ⟨rfl, rfl, hq⟩
theorem boot_nought (P d p g c k r s : Nat) (F : Fl) (X : Plr) (a u nv tv : Value) (w : World) (kp : Pl w P (X.cs a u)) (hxd : X.d = ptr0 d) (kd : Arr w d (dvv p c false)) (k0 : Arr w c (coZ k r s (-1))) (kf : FlAt w p g F) (hd : F.dead = false) (hdc : d ≠ c) (hcP : c ≠ P) :
 Calls Tryz.prog 29 #[.pointer (some ⟨P, 0, none⟩), .agg #[nv, tv]] w fun e w' => e = .panicked [{ v := refu 18, recovered := false }] ∧ Ch [c] w w' := by
 have cD := zH (fun w' (hb : Below w.heap.size w w') => do_nought P d p g c k r s F X a u w' (kp.below hb) hxd (kd.below hb) (k0.below hb) (kf.below hb) hd hdc hcP)
 clear kd k0 kf hd hdc kp hxd hcP
 go_enter Tryz.func29, Tryz.ntmps29
 go_upto_region 1 with fail
 refine wp_new1 (fun W hsz kA kb => ?_)
 clear hsz kA
 go_wp2_with fail
 refine (cD.out _ kb).mono ?_
 rintro e w1 ⟨rfl, hc⟩
 exact ⟨rfl, rfl, (Ch.of_below kb).trans hc⟩
theorem numF_ok {l : List UInt8} {n : Int} (h0 : l ≠ []) (h6 : l.length ≤ 6) (hd : ∀ b ∈ l, b ∈ digL) (hz : l = [48] ∨ l[0]? ≠ some 48) (ha : Lib.atoi l = some n) : numF l = some n := by
 classical
 unfold numF
 rw [if_neg, ha]
 rintro (h | h | ⟨b, hb, hn⟩ | ⟨h1, h2⟩)
 · exact h0 h
 · have : (⟨l.toArray⟩ : ByteArray).size = l.length := by simp [ByteArray.size]
   omega
 · exact hn (hd b hb)
 · rcases hz with h | h
   · exact h2 h
   · exact h h1
theorem num_1 : numF [49] = some 1 := numF_ok zDc zDc zDc (.inr zDc) zDc
theorem num_100 : numF [49, 48, 48] = some 100 := numF_ok zDc zDc zDc (.inr zDc) zDc
theorem prs_new : prsL [[110, 101, 119], [49], [49, 48, 48]] = some (22, [1, 100], []) := by
 have h : cmdF [110, 101, 119] cmdT = some ([78, 78], 22) := by decide
 simp [prsL, h, prs, num_1, num_100]
theorem prs_boot : prsL [[98, 111, 111, 116]] = some (29, [], []) := by
 have h : cmdF [98, 111, 111, 116] cmdT = some ([], 29) := by decide
 simp [prsL, h, prs]
theorem own_ch1 {w w' : World} {c B : Nat} {e : TypeId} {v : Value} {n : Nat} {xs : List Value} (h : w.ownsRow B e 1 v n xs) (hc : Ch [c] w w') (hcB : c < B) : w'.ownsRow B e 1 v n xs :=
 h.kept (⟨hc.os, hc.tape, hc.output, hc.size, fun k hk hn => hc.block k hk (by simpa using fun e => hn (by rw [e]))⟩ : w.grownBy w' (some c)) (.inr (fun e => by have := own_block h c e; omega))
def alvT : List UInt8 := [110, 101, 119, 32, 49, 32, 49, 48, 48, 10, 98, 111, 111, 116, 10]
def alvO : List UInt8 := [111, 107, 10, 101, 114, 114, 111, 114, 32, 49, 56, 10]
def AlvI (P r : Nat) (w0 : World) (j : Nat) (w' : World) : Prop := Ch [P] w0 w' ∧ (P < w0.heap.size ∧ r < w0.heap.size) ∧ r ≠ P ∧ Mp w' r cmdL ∧ (match j with
 | 0 => Pl w' P (iniX.cs (.pointer none) (.slice none 0 0))
 | 1 => ∃ (pf g d c k r1 s1 B : Nat) (X : Plr) (u : Value) (F : Fl), F.dead = false ∧ Arr w' d (dvv pf c false) ∧ Arr w' c (coZ k r1 s1 (-1)) ∧ FlAt w' pf g F ∧ d ≠ c ∧ c ≠ P ∧ X.d = ptr0 d ∧ Pl w' P (X.cs (slf P) u) ∧
  w'.ownsRow B 5 1 u (okL ++ [10]).length (u8s (okL ++ [10])) ∧ w0.heap.size ≤ B ∧ B ≤ w'.heap.size ∧ w0.heap.size ≤ c ∧ c < B
 | _ => ∃ (B : Nat) (X : Plr) (u : Value), Pl w' P (X.cs (slf P) u) ∧ w'.ownsRow B 5 1 u alvO.length (u8s alvO) ∧ w0.heap.size ≤ B)
theorem Mp.grown {w w' : World} {r : Nat} {l : List (ByteArray × Value)} (h : Mp w r l) (hb : w'.heap[r]? = w.heap[r]?) : Mp w' r l := by
 unfold Mp; rw [hb]; exact h
theorem alv_new (P r : Nat) (w0 w : World) (h : AlvI P r w0 0 w) : Calls Tryz.prog 15 #[.pointer (some ⟨P, 0, none⟩), .string ⟨#[110, 101, 119, 32, 49, 32, 49, 48, 48]⟩, .map (some r)] w fun e w'' => e = .returned (.tuple #[]) ∧ AlvI P r w0 1 w'' := by
 obtain ⟨hC, hP0, hrP, kM, kp⟩ := h
 have kp : Pl w P (iniX.cs (.pointer none) (.slice none 0 0)) := kp
 have hl : lns 32 (⟨#[110, 101, 119, 32, 49, 32, 49, 48, 48]⟩ : ByteArray).data.toList = [[110, 101, 119], [49], [49, 48, 48]] := by decide
 refine line_any P r w kM _ zDc (AlvI P r w0 1) (fun h => ?_) (fun f ns ts h W nv tv hb hn ht => ?_)
 · rw [hl, prs_new] at h
   cases h
 · rw [hl, prs_new] at h
   injection h with h
   injection h with h1 h2
   injection h2 with h2 h3
   subst h1 h2 h3
   obtain ⟨gn, cn, rfl, hgn⟩ : ∃ gn cn, nv = .slice (some ⟨gn, 0, none⟩) 2 cn ∧ w.heap.size ≤ gn := by
    rcases hn.2 with ⟨_, hz⟩ | ⟨g, cap, cur, hv, hg, _⟩
    · cases hz
    · exact ⟨g, cap, hv, hg⟩
   have hPl := kp.arr.lt
   have q := fresh_any P gn cn 1 100 zDc zDc tv iniX W (kp.below hb) (Sl.of_own hn) zOm
   refine q.mono ?_
   rintro e W' ⟨pf, q, g, d, c, k, r1, s1, B, X, u, F, he, hd, kd, k0, -, kf, hdc, -, -, hxd, -, kp', ko, hbB, hwB, hBs, -, -, -, -, hcB, -, -, -, -, hwc, hc⟩
   have hs1 := hC.size
   have hs2 := hb.size
   have hcw : Ch [P] w W' := (Ch.of_below hb).trans hc
   exact .inl ⟨he, hC.trans hcw, hP0, hrP, kM.ch hcw (by simpa using hrP), pf, g, d, c, k, r1, s1, B, X, u, F, hd, kd, k0, kf, hdc, by omega, hxd, kp', ko, by omega, hBs, by omega, hcB⟩
theorem alv_boot (P r : Nat) (w0 w : World) (h : AlvI P r w0 1 w) : Calls Tryz.prog 15 #[.pointer (some ⟨P, 0, none⟩), .string ⟨#[98, 111, 111, 116]⟩, .map (some r)] w fun e w'' => e = .returned (.tuple #[]) ∧ AlvI P r w0 2 w'' := by
 obtain ⟨hC, hP0, hrP, kM, pf, g, d, c, k, r1, s1, B, X, u, F, hd, kd, k0, kf, hdc, hcP, hxd, kp, ko, hwB, hBs, hwc, hcB⟩ := h
 have hl : lns 32 (⟨#[98, 111, 111, 116]⟩ : ByteArray).data.toList = [[98, 111, 111, 116]] := by decide
 refine line_any P r w kM _ zDc (AlvI P r w0 2) (fun h => ?_) (fun f ns ts h W nv tv hb hn ht => ?_)
 · rw [hl, prs_boot] at h
   cases h
 · rw [hl, prs_boot] at h
   injection h with h
   injection h with h1 h2
   injection h2 with h2 h3
   subst h1 h2 h3
   have hPl := kp.arr.lt
   have hcl := k0.lt
   have q := boot_nought P d pf g c k r1 s1 F X (slf P) u nv tv W (kp.below hb) hxd (kd.below hb) (k0.below hb) (kf.below hb) hd hdc hcP
   refine q.mono ?_
   rintro e W' ⟨he, hc⟩
   have hs0 := hC.size
   have hs1 := hb.size
   have hs2 := hc.size
   refine .inr ⟨18, by decide, he, ⟨hc.size, fun j hj1 hj2 => hc.block j hj2 (by simp; omega)⟩, fun W2 v hb2 hv => ?_⟩
   have hkp2 : Pl W2 P (X.cs (slf P) u) := ((kp.below hb).ch hc (by simpa using hcP.symm)).below hb2
   have hko2 : W2.ownsRow B 5 1 u (okL ++ [10]).length (u8s (okL ++ [10])) := own_below (own_ch1 (own_below ko hb) hc hcB) hb2
   have hs3 := hb2.size
   have qs := say_any P B X (slf P) u v (okL ++ [10]) [errorL, Lib.decDigits 18] W2 hkp2 (.inr rfl) hko2 zOm zOm hv zDc (by rw [dec_18]; decide)
   refine qs.mono ?_
   rintro e w3 ⟨u', rfl, kp3, ko3, -, hcp⟩
   rw [dec_18] at ko3
   have hc0 : Ch [P] w0 W2 := ((hC.trans (Ch.of_below hb)).drop hc (fun j hj => by simp at hj; subst hj; exact .inr hwc)).trans (Ch.of_below hb2)
   have hM2 : Mp W2 r cmdL := ((kM.below hb).ch hc (by
    intro hr
    simp at hr
    have h1 : w.heap[r]? = some (.map (mpE cmdL 0).toArray cmdL.length) := kM
    obtain ⟨T, h2⟩ := k0
    rw [← hr, h1] at h2
    cases h2)).below hb2
   refine ⟨rfl, hc0.cp hcp (by simp) hwB, hP0, hrP, hM2.cp hcp zOm hrP, B, X, u', kp3, ko3, hwB⟩
theorem alive_play (w : World) : Calls Tryz.prog 8 #[.string ⟨alvT.toArray⟩] w fun e w' => e = .returned (.string ⟨alvO.toArray⟩) ∧ Below w.heap.size w w' := by
 have hn : nLn (⟨alvT.toArray⟩ : ByteArray).data.toList = 2 := by decide
 have hl : lns 10 (⟨alvT.toArray⟩ : ByteArray).data.toList = [[110, 101, 119, 32, 49, 32, 49, 48, 48], [98, 111, 111, 116], []] := by decide
 refine play_ok _ zDc (by rw [hn]; decide) w alvO AlvI (fun P r w0 kp kM hrP => ⟨Ch.refl _ _, ⟨kp.arr.lt, kM.lt⟩, hrP, kM, kp⟩) (fun P r w0 j w' h => h.1) ?_ ?_ ?_
 · intro P r w0 j x w' hx hj hs hI
   rw [hl] at hx
   rw [hn] at hj
   exfalso
   rcases j with _ | _ | j
   · simp at hx; subst hx; rcases hs with hs | hs <;> simp at hs
   · simp at hx; subst hx; rcases hs with hs | hs <;> simp at hs
   · omega
 · intro P r w0 j x w' hx hj hs hI
   rw [hl] at hx
   rw [hn] at hj
   rcases j with _ | _ | j
   · simp at hx; subst hx; exact alv_new P r w0 w' hI
   · simp at hx; subst hx; exact alv_boot P r w0 w' hI
   · omega
 · intro P r w0 w' hI
   rw [hn] at hI
   obtain ⟨hC, hP0, hrP, kM, B, X, u, kp, ko, hwB⟩ := hI
   refine (bstr_some P B X (slf P) u alvO w' kp ko zDc).mono ?_
   rintro e w'' ⟨he, hb⟩
   exact ⟨he, hb.os, hb.tape, hb.output, hb.size, fun k hk => hb.block k zOm⟩
theorem sl_cell0 {w : World} {g n c : Nat} {u : Value} {vs : List Value} (h : Sl w (.slice (some ⟨g, 0, none⟩) n c) (u :: vs)) : w.cell? ⟨g, 0, none⟩ = some u := by
 obtain ⟨a, cap, he, -, -, -, h5⟩ := h
 injection he with h1 h2 h3
 have := h5 _ h1.symm 0 u rfl
 rwa [Addr.add_lit, Nat.zero_add] at this
def No1 (w : World) (e : Ending) (w' : World) : Prop := e = .panicked [{ v := refu 1, recovered := false }] ∧ Below w.heap.size w w'
theorem do_no (P : Nat) (X : Plr) (a u x y z : Value) (w : World) (kp : Pl w P (X.cs a u)) (hxd : X.d = .pointer none) :
 Calls Tryz.prog 51 #[.pointer (some ⟨P, 0, none⟩), .agg #[x, y, z]] w (No1 w) := by
 obtain ⟨x1, x2, x3, x4, x5, x6, x7, x8, x9⟩ := X
 simp only at hxd
 subst hxd
 have cN := zH needs_no
 replace kp := zH kp
 go_enter Tryz.func51, Tryz.ntmps51
 go_upto_region 1 with fail
 refine wp_new1 (fun W hsz kA kb => ?_)
 have y5 : W.cell? ⟨P, 132, none⟩ = some (.pointer none) := (kp.out.below kb).arr.cell (Plr.at _ _ _ (j := 4))
 clear hsz kA
 go_wp2_with fail
 refine (cN.out _).mono ?_
 rintro e w1 ⟨rfl, hw⟩
 obtain rfl : W = w1 := hw.symm
 exact ⟨rfl, rfl, kb⟩
theorem all_no (P : Nat) (X : Plr) (a u nv tv : Value) (w : World) (kp : Pl w P (X.cs a u)) (hx : X.d = .pointer none) :
 Calls Tryz.prog 26 #[.pointer (some ⟨P, 0, none⟩), .agg #[nv, tv]] w (No1 w) := by
 obtain ⟨x1, x2, x3, x4, x5, x6, x7, x8, x9⟩ := X
 simp only at hx
 subst hx
 have cN := zH needs_no
 replace kp := zH kp
 go_enter Tryz.func26, Tryz.ntmps26
 go_upto_region 1 with fail
 refine wp_new1 (fun W hsz kA kb => ?_)
 have y5 : W.cell? ⟨P, 132, none⟩ = some (.pointer none) := (kp.out.below kb).arr.cell (Plr.at _ _ _ (j := 4))
 clear hsz kA
 go_wp2_with fail
 refine (cN.out _).mono ?_
 rintro e w1 ⟨rfl, hw⟩
 obtain rfl : W = w1 := hw.symm
 exact ⟨rfl, rfl, kb⟩
theorem revoke_no (P : Nat) (X : Plr) (a u nv tv : Value) (w : World) (kp : Pl w P (X.cs a u)) (hx : X.d = .pointer none) :
 Calls Tryz.prog 31 #[.pointer (some ⟨P, 0, none⟩), .agg #[nv, tv]] w (No1 w) := by
 obtain ⟨x1, x2, x3, x4, x5, x6, x7, x8, x9⟩ := X
 simp only at hx
 subst hx
 have cN := zH needs_no
 replace kp := zH kp
 go_enter Tryz.func31, Tryz.ntmps31
 go_upto_region 1 with fail
 refine wp_new1 (fun W hsz kA kb => ?_)
 have y5 : W.cell? ⟨P, 132, none⟩ = some (.pointer none) := (kp.out.below kb).arr.cell (Plr.at _ _ _ (j := 4))
 clear hsz kA
 go_wp2_with fail
 refine (cN.out _).mono ?_
 rintro e w1 ⟨rfl, hw⟩
 obtain rfl : W = w1 := hw.symm
 exact ⟨rfl, rfl, kb⟩
theorem crash_no (P : Nat) (X : Plr) (a u nv tv : Value) (w : World) (kp : Pl w P (X.cs a u)) (hx : X.f = .pointer none) :
 Calls Tryz.prog 32 #[.pointer (some ⟨P, 0, none⟩), .agg #[nv, tv]] w (No1 w) := by
 obtain ⟨x1, x2, x3, x4, x5, x6, x7, x8, x9⟩ := X
 simp only at hx
 subst hx
 have cN := zH needs_no
 replace kp := zH kp
 go_enter Tryz.func32, Tryz.ntmps32
 go_upto_region 1 with fail
 refine wp_new1 (fun W hsz kA kb => ?_)
 have y5 : W.cell? ⟨P, 130, none⟩ = some (.pointer none) := (kp.out.below kb).arr.cell (Plr.at _ _ _ (j := 2))
 clear hsz kA
 go_wp2_with fail
 refine (cN.out _).mono ?_
 rintro e w1 ⟨rfl, hw⟩
 obtain rfl : W = w1 := hw.symm
 exact ⟨rfl, rfl, kb⟩
theorem cycle_no (P : Nat) (X : Plr) (a u nv tv : Value) (w : World) (kp : Pl w P (X.cs a u)) (hx : X.f = .pointer none) :
 Calls Tryz.prog 33 #[.pointer (some ⟨P, 0, none⟩), .agg #[nv, tv]] w (No1 w) := by
 obtain ⟨x1, x2, x3, x4, x5, x6, x7, x8, x9⟩ := X
 simp only at hx
 subst hx
 have cN := zH needs_no
 replace kp := zH kp
 go_enter Tryz.func33, Tryz.ntmps33
 go_upto_region 1 with fail
 refine wp_new1 (fun W hsz kA kb => ?_)
 have y5 : W.cell? ⟨P, 130, none⟩ = some (.pointer none) := (kp.out.below kb).arr.cell (Plr.at _ _ _ (j := 2))
 clear hsz kA
 go_wp2_with fail
 refine (cN.out _).mono ?_
 rintro e w1 ⟨rfl, hw⟩
 obtain rfl : W = w1 := hw.symm
 exact ⟨rfl, rfl, kb⟩
theorem poke_no (P : Nat) (X : Plr) (a u nv tv : Value) (w : World) (kp : Pl w P (X.cs a u)) (hx : X.f = .pointer none) :
 Calls Tryz.prog 34 #[.pointer (some ⟨P, 0, none⟩), .agg #[nv, tv]] w (No1 w) := by
 obtain ⟨x1, x2, x3, x4, x5, x6, x7, x8, x9⟩ := X
 simp only at hx
 subst hx
 have cN := zH needs_no
 replace kp := zH kp
 go_enter Tryz.func34, Tryz.ntmps34
 go_upto_region 1 with fail
 refine wp_new1 (fun W hsz kA kb => ?_)
 have y5 : W.cell? ⟨P, 130, none⟩ = some (.pointer none) := (kp.out.below kb).arr.cell (Plr.at _ _ _ (j := 2))
 clear hsz kA
 go_wp2_with fail
 refine (cN.out _).mono ?_
 rintro e w1 ⟨rfl, hw⟩
 obtain rfl : W = w1 := hw.symm
 exact ⟨rfl, rfl, kb⟩
theorem quote_no (P : Nat) (X : Plr) (a u nv tv : Value) (w : World) (kp : Pl w P (X.cs a u)) (hx : X.d = .pointer none) :
 Calls Tryz.prog 35 #[.pointer (some ⟨P, 0, none⟩), .agg #[nv, tv]] w (No1 w) := by
 obtain ⟨x1, x2, x3, x4, x5, x6, x7, x8, x9⟩ := X
 simp only at hx
 subst hx
 have cN := zH needs_no
 replace kp := zH kp
 go_enter Tryz.func35, Tryz.ntmps35
 go_upto_region 1 with fail
 refine wp_new1 (fun W hsz kA kb => ?_)
 have y5 : W.cell? ⟨P, 132, none⟩ = some (.pointer none) := (kp.out.below kb).arr.cell (Plr.at _ _ _ (j := 4))
 clear hsz kA
 go_wp2_with fail
 refine (cN.out _).mono ?_
 rintro e w1 ⟨rfl, hw⟩
 obtain rfl : W = w1 := hw.symm
 exact ⟨rfl, rfl, kb⟩
theorem state_no (P : Nat) (X : Plr) (a u nv tv : Value) (w : World) (kp : Pl w P (X.cs a u)) (hx : X.d = .pointer none) :
 Calls Tryz.prog 36 #[.pointer (some ⟨P, 0, none⟩), .agg #[nv, tv]] w (No1 w) := by
 obtain ⟨x1, x2, x3, x4, x5, x6, x7, x8, x9⟩ := X
 simp only at hx
 subst hx
 have cN := zH needs_no
 replace kp := zH kp
 go_enter Tryz.func36, Tryz.ntmps36
 go_upto_region 1 with fail
 refine wp_new1 (fun W hsz kA kb => ?_)
 have y5 : W.cell? ⟨P, 132, none⟩ = some (.pointer none) := (kp.out.below kb).arr.cell (Plr.at _ _ _ (j := 4))
 clear hsz kA
 go_wp2_with fail
 refine (cN.out _).mono ?_
 rintro e w1 ⟨rfl, hw⟩
 obtain rfl : W = w1 := hw.symm
 exact ⟨rfl, rfl, kb⟩
theorem commit_no (P : Nat) (X : Plr) (a u nv tv : Value) (w : World) (kp : Pl w P (X.cs a u)) (hx : X.d = .pointer none) :
 Calls Tryz.prog 27 #[.pointer (some ⟨P, 0, none⟩), .agg #[nv, tv]] w (No1 w) := by
 have cD := zH (fun x y z w' (hb : Below w.heap.size w w') => do_no P X a u x y z w' (kp.below hb) hx)
 clear kp hx
 go_enter Tryz.func27, Tryz.ntmps27
 go_upto_region 1 with fail
 refine wp_new1 (fun W hsz kA kb => ?_)
 clear hsz kA
 go_wp2_with fail
 refine (cD.out _ _ _ _ kb).mono ?_
 rintro e w1 ⟨rfl, hb⟩
 exact ⟨rfl, rfl, bel kb hb⟩
theorem confirm_no (P : Nat) (X : Plr) (a u nv tv : Value) (w : World) (kp : Pl w P (X.cs a u)) (hx : X.d = .pointer none) :
 Calls Tryz.prog 28 #[.pointer (some ⟨P, 0, none⟩), .agg #[nv, tv]] w (No1 w) := by
 have cD := zH (fun x y z w' (hb : Below w.heap.size w w') => do_no P X a u x y z w' (kp.below hb) hx)
 clear kp hx
 go_enter Tryz.func28, Tryz.ntmps28
 go_upto_region 1 with fail
 refine wp_new1 (fun W hsz kA kb => ?_)
 clear hsz kA
 go_wp2_with fail
 refine (cD.out _ _ _ _ kb).mono ?_
 rintro e w1 ⟨rfl, hb⟩
 exact ⟨rfl, rfl, bel kb hb⟩
theorem boot_no (P : Nat) (X : Plr) (a u nv tv : Value) (w : World) (kp : Pl w P (X.cs a u)) (hx : X.d = .pointer none) :
 Calls Tryz.prog 29 #[.pointer (some ⟨P, 0, none⟩), .agg #[nv, tv]] w (No1 w) := by
 have cD := zH (fun x y z w' (hb : Below w.heap.size w w') => do_no P X a u x y z w' (kp.below hb) hx)
 clear kp hx
 go_enter Tryz.func29, Tryz.ntmps29
 go_upto_region 1 with fail
 refine wp_new1 (fun W hsz kA kb => ?_)
 clear hsz kA
 go_wp2_with fail
 refine (cD.out _ _ _ _ kb).mono ?_
 rintro e w1 ⟨rfl, hb⟩
 exact ⟨rfl, rfl, bel kb hb⟩
theorem feed_no (P : Nat) (X : Plr) (a u nv tv : Value) (w : World) (kp : Pl w P (X.cs a u)) (hx : X.d = .pointer none) (hxm : X.man = .slice none 0 0) :
 Calls Tryz.prog 24 #[.pointer (some ⟨P, 0, none⟩), .agg #[nv, tv]] w (No1 w) := by
 have cD := zH (fun x y z w' (hb : Below w.heap.size w w') => do_no P X a u x y z w' (kp.below hb) hx)
 obtain ⟨x1, x2, x3, x4, x5, x6, x7, x8, x9⟩ := X
 simp only at hxm
 subst hxm
 replace kp := zH kp
 clear hx
 go_enter Tryz.func24, Tryz.ntmps24
 go_upto_region 1 with fail
 refine wp_new1 (fun W hsz kA kb => ?_)
 have y5 : W.cell? ⟨P, 128, none⟩ = some (.slice none 0 0) := (kp.out.below kb).arr.cell (Plr.at _ _ _ (j := 0))
 clear hsz kA
 go_wp2_with fail
 refine (cD.out _ _ _ _ kb).mono ?_
 rintro e w1 ⟨rfl, hb⟩
 exact ⟨rfl, rfl, bel kb hb⟩
theorem read_no (P gn cn : Nat) (i : Int) (X : Plr) (a u tv : Value) (w : World) (kp : Pl w P (X.cs a u)) (hx : X.d = .pointer none) (hn : Sl w (.slice (some ⟨gn, 0, none⟩) 1 cn) [.int .i64 i]) :
 Calls Tryz.prog 30 #[.pointer (some ⟨P, 0, none⟩), .agg #[.slice (some ⟨gn, 0, none⟩) 1 cn, tv]] w (No1 w) := by
 have cD := zH (fun x y z w' (hb : Below w.heap.size w w') => do_no P X a u x y z w' (kp.below hb) hx)
 obtain ⟨x1, x2, x3, x4, x5, x6, x7, x8, x9⟩ := X
 replace hn := zH hn
 clear hx kp
 go_enter Tryz.func30, Tryz.ntmps30
 go_upto_region 1 with fail
 refine wp_new1 (fun W hsz kA kb => ?_)
 have yA := kA.cell (j := 0) rfl
 have y5 : W.cell? ⟨gn, 0, none⟩ = some (.int .i64 i) := sl_cell0 (hn.out.below kb)
 clear hsz kA
 go_wp2_with fail
 refine (cD.out _ _ _ _ kb).mono ?_
 rintro e w1 ⟨rfl, hb⟩
 exact ⟨rfl, rfl, bel kb hb⟩
theorem block_no (P gn cn : Nat) (i : Int) (hi : 0 ≤ i) (X : Plr) (a u tv : Value) (w : World) (kp : Pl w P (X.cs a u)) (hx : X.d = .pointer none) (hxb : X.bl = .slice none 0 0) (hn : Sl w (.slice (some ⟨gn, 0, none⟩) 1 cn) [.int .i64 i]) :
 Calls Tryz.prog 25 #[.pointer (some ⟨P, 0, none⟩), .agg #[.slice (some ⟨gn, 0, none⟩) 1 cn, tv]] w (No1 w) := by
 have cD := zH (fun x y z w' (hb : Below w.heap.size w w') => do_no P X a u x y z w' (kp.below hb) hx)
 obtain ⟨x1, x2, x3, x4, x5, x6, x7, x8, x9⟩ := X
 simp only at hxb
 subst hxb
 replace hn := zH hn
 replace kp := zH kp
 have hi' : ¬ i < 0 := by omega
 clear hx
 go_enter Tryz.func25, Tryz.ntmps25
 go_upto_region 1 with fail
 refine wp_new1 (fun W hsz kA kb => ?_)
 have yA := kA.cell (j := 0) rfl
 have y5 : W.cell? ⟨gn, 0, none⟩ = some (.int .i64 i) := sl_cell0 (hn.out.below kb)
 clear hsz kA
 go_upto_region 2 with fail
 have kM : Arr (W.alloc (.cells #[.int .i64 2, .slice none 0 0, .int .i64 i] 90)) W.heap.size [.int .i64 2, .slice none 0 0, .int .i64 i] := Arr.new _ _ _
 have kb2 := bel kb (below_alloc W (.cells #[.int .i64 2, .slice none 0 0, .int .i64 i] 90))
 obtain ⟨W2, hW2⟩ : ∃ x, W.alloc (.cells #[.int .i64 2, .slice none 0 0, .int .i64 i] 90) = x := ⟨_, rfl⟩
 obtain ⟨gM, hgM⟩ : ∃ x, W.heap.size = x := ⟨_, rfl⟩
 rw [hW2] at kM kb2 ⊢
 rw [hgM] at kM ⊢
 have k2 := zH (kp.out.below kb2)
 clear hW2 hgM kb yA y5 kp hn
 refine Tx.start (fun w' => Below (W2).heap.size (W2) w') 9999 8 rfl zKr ?_
 have hS_1 : Below (W2).heap.size (W2) (World.drew W2) := (Below.refl _ _).drew
 refine Tx.seg (A := ?_) 0 255 zKr (by exact hS_1) [0, 1, 2, 3, 4, 5, 6, 7] zKr ?_ ?_
 rotate_left
 · intro w' hB
   have yb : w'.cell? ⟨P, 129, none⟩ = some (.slice none 0 0) := (k2.out.below hB).arr.cell (Plr.at _ _ _ (j := 1))
   have y2 := (kM.below hB).cell (j := 2) rfl
   exact zRd
 refine Tx.done zKr ?_
 have kM2 := kM.below hS_1
 have kb3 := bel kb2 hS_1
 clear kM k2
 go_wp2_with (refine wpList_load_arr2 rfl _ _ rfl _ rfl zDk _ kM2 zKr ?_)
 refine (cD.out _ _ _ _ kb3).mono ?_
 rintro e w1 ⟨rfl, hb⟩
 exact ⟨rfl, rfl, bel kb3 hb⟩
theorem Plr.put_man (X : Plr) (a u x : Value) : (X.cs a u).set 128 x = ({ X with man := x } : Plr).cs a u := Plr.put X a u x (j := 0)
theorem Plr.put_bl (X : Plr) (a u x : Value) : (X.cs a u).set 129 x = ({ X with bl := x } : Plr).cs a u := Plr.put X a u x (j := 1)
theorem Plr.rg_set {w : World} {p : Nat} {X : Plr} {a u : Value} (h : Pl w p (X.cs a u)) : w.rangeAt p 0 (setL X.root X.sig X.dev X.key) := h.arr.range (fun j hj => by
 rw [Nat.zero_add, Plr.cs, List.getElem?_append_left hj])
theorem wpl_cellP {w : World} {ops : Array Oper} {rest : List Oper} {o : Oper} {a : Act} {Q : Exit → Act → World → Prop} (hgd : o.guard = none) (ty : TypeId) (x y : Operand) (ho : o.op = .store ty x y)
 (g j : Nat) (u : Value) (hx : a.eval x = .pointer (some ⟨g, j, none⟩)) (hy : a.eval y = u) (xs : List Value) (hg : Pl w g xs) (hi : (Tryz.prog.info? ty).map (·.size) = some 1) (hj : j < xs.length) (hu : u.oneCell' = true)
 (h : ∀ W, Pl W g (xs.set j u) → w.grownBy W (some g) → W.heap.size = w.heap.size → wpList Tryz.prog ops Q rest (a.put o.dst undef) W) : wpList Tryz.prog ops Q (o :: rest) a w := by
 refine wpList_plain hgd fun K hK => ?_
 unfold Oper.wp execOp
 simp only [ho, hx, hy, Sem.run_bind, Sem.run_pure, Result.andThen_ok, run_store_one hg.arr hj hi hu]
 exact hK _ _ (h _ (hg.set j u) (gr_cell w g j u) (by simp [World.setCell]))
theorem Cp.of_ch {p B : Nat} {w w' : World} (h : Ch [p] w w') (hB : B ≤ w.heap.size) : Cp p B w w' := ⟨h.os, h.tape, h.output, h.size, fun k hk hn => h.block k zOm (by simpa using hn)⟩
theorem image_any (P B gn cn gt ct : Nat) (id v : Int) (t : ByteArray) (X : Plr) (a u : Value) (L : List UInt8) (w : World) (kp : Pl w P (X.cs a u)) (ha : a = .pointer none ∨ a = slf P)
 (ko : w.ownsRow B 5 1 u L.length (u8s L)) (hPB : P < B) (hB : B ≤ w.heap.size) (hL : L.length ≤ 100000000)
 (hn : Sl w (.slice (some ⟨gn, 0, none⟩) 2 cn) [.int .i64 id, .int .i64 v]) (ht : Sl w (.slice (some ⟨gt, 0, none⟩) 1 ct) [.string t])
 (hsz : t.size ≤ 2048) (hv : 0 ≤ v) (hv2 : v ≤ 2147483647) (hid : mayI id = true) (hd : X.dev < 256 ^ 32) (hok : (readP (pubN X.sig)).2 = true) (hz : lmulN (shaa (nb 32 (ikeyN X.key v))) (lmulN X.dev 9) ≠ 0) :
 Calls Tryz.prog 23 #[.pointer (some ⟨P, 0, none⟩), .agg #[.slice (some ⟨gn, 0, none⟩) 2 cn, .slice (some ⟨gt, 0, none⟩) 1 ct]] w fun e w' => e = .returned (.tuple #[]) ∧
  ∃ (um ul u' : Value), Pl w' P (({ X with man := um, bl := ul } : Plr).cs (slf P) u') ∧ w'.ownsRow B 5 1 u' (L ++ okL ++ [10]).length (u8s (L ++ okL ++ [10])) ∧ Cp P B w w' := by
 have cv := zH (fun w => conv_str w t (by unfold maxLen; omega))
 have cM := zH (fun w a c h => imanifest_h X.root X.sig X.dev X.key id v a c t.data.toList (by simpa using hsz) hv hv2 hid hd hok hz w h)
 obtain ⟨n, hn1⟩ : ∃ n, nblk t.data.toList.length = n := ⟨_, rfl⟩
 obtain ⟨OUT, hO⟩ : ∃ O, imanB X.root X.sig X.dev X.key id v t.data.toList = O := ⟨_, rfl⟩
 obtain ⟨E, hE⟩ : ∃ E, encB (ikeyN X.key v) v t.data.toList = E := ⟨_, rfl⟩
 have hlen : t.data.toList.length = t.size := by simp
 rw [hn1, hO, hE] at cM
 rw [hlen] at cM
 obtain ⟨z, hze⟩ : ∃ z, t.size = z := ⟨_, rfl⟩
 rw [hze] at cM cv
 obtain ⟨bs, hbs⟩ : ∃ bs, t.data.toList = bs := ⟨_, rfl⟩
 rw [hbs] at cM cv
 replace kp := zH kp
 replace hn := zH hn
 replace ht := zH ht
 replace ko := zH ko
 clear hn1 hO hE hlen hze hbs hsz hok hz hv hv2 hid hd
 go_enter Tryz.func23, Tryz.ntmps23
 go_upto_region 1 with fail
 refine wp_new1 (fun W hs0 kA kb => ?_)
 replace kA : Arr W w.heap.size [.slice (some ⟨gn, 0, none⟩) 2 cn, .slice (some ⟨gt, 0, none⟩) 1 ct] := kA
 have k1 := zH (kp.out.below kb)
 have hn1 := zH (hn.out.below kb)
 have ht1 := zH (ht.out.below kb)
 have ko1 := zH (own_below ko.out kb)
 have hPl := kp.out.arr.lt
 obtain ⟨ga, hga⟩ : ∃ g, w.heap.size = g := ⟨_, rfl⟩
 rw [hga] at kA
 rw [hga]
 have hgA : ga < W.heap.size := kA.lt
 have hbW : ga ≤ W.heap.size := Nat.le_of_lt hgA
 clear hs0 kp hn ht ko
 refine Tx.start (fun w' => Below (W).heap.size (W) w') 9999 25 rfl zKr ?_
 have hS_1 : Below (W).heap.size (W) (World.drew W) := (Below.refl _ _).drew
 refine Tx.seg (A := ?_) 9 65535 zKr (by exact hS_1) [0, 1, 2, 3, 4, 5, 6, 7, 8, 9, 10, 11, 12, 13, 14, 15] zKr ?_ ?_
 rotate_left
 · intro w' hB
   have y3 := Plr.rg_set (k1.out.below hB)
   have yA := (kA.below hB).cell (j := 0) rfl
   have yB := (kA.below hB).cell (j := 1) rfl
   have y0 := sl_cell (hn1.out.below hB) (j := 0) rfl
   have y1 := sl_cell (hn1.out.below hB) (j := 1) rfl
   have yt := sl_cell (ht1.out.below hB) (j := 0) rfl
   exact zRm
 obtain ⟨cc, w1, hr, hSb, hb1⟩ := cv.out W.drew
 refine Tx.eff 16 131071 rfl zDk (fun K hK => ?_)
 go_simp
 have hS9 : Below W.heap.size W w1 := ext_trans hS_1 (Nat.le_refl _) hb1
 refine hK (fun w' => Below W.heap.size W w') _ _ hS9 (fun _ h => h) ?_
 clear hK K hr
 try simp only [Act.put, zSa, zSz, zSs]
 refine Tx.eff 17 262143 rfl zDk (fun K hK => ?_)
 go_simp
 refine (cM.out _ _ _ hSb).mono ?_
 rintro e w_2 ⟨um, dl, cl, rfl, hm, hl, hb_2⟩
 have hS_2 := ext_trans hS9 (Nat.le_refl _) hb_2
 refine hK (fun w' => Below (W).heap.size (W) w') _ _ hS_2 (fun _ h => h) ?_
 clear hK K hS9
 try simp only [Act.put, zSa, zSz, zSs]
 refine Tx.seg (A := ?_) 0 33554431 zKr (by exact hS_2) [18, 19, 20, 21, 22, 23, 24] zKr ?_ ?_
 rotate_left
 · intro w' hB
   exact zRd
 refine Tx.done zKr ?_
 obtain ⟨gm, cm, rfl, hgm, -⟩ := own_range hm zDc
 have k2 := zH (k1.out.below hS_2)
 have ko2 := zH (own_below ko1.out hS_2)
 have kb2 := zH (bel kb hS_2)
 have hPW : P < w_2.heap.size := k2.out.arr.lt
 have cN := zH must_ok
 have hlen2 : ∀ a u, (X.cs a u).length = 135 := fun a u => Plr.len X a u
 clear k1 hn1 ht1 ko1 cM cv hm hl hb_2 hS_2 hS_1 hb1 hSb kb kA
 go_wp2_with fail
 refine (cN.out _).mono ?_
 rintro e w3 ⟨rfl, hw⟩
 obtain rfl : w_2 = w3 := hw.symm
 clear cN
 go_upto_region 4 with (first | (refine wpl_cellP rfl _ _ _ rfl P 128 (.slice (some ⟨gm, 0, none⟩) 300 cm) rfl rfl _ k2.out zDk (by rw [hlen2]; decide) rfl (fun w4 k4 hg4 hz4 => ?_)) | (refine wpl_cellP rfl _ _ _ rfl P 129 (.slice dl n cl) rfl rfl _ k4 zDk (by rw [List.length_set, hlen2]; decide) rfl (fun w5 k5 hg5 hz5 => ?_)))
 rw [Plr.put_man, Plr.put_bl] at k5
 have hP4 : Ch [P] w_2 w5 := (Ch.of_gr hg4 (by simp)).trans (Ch.of_gr hg5 (by simp))
 have hC5 : Ch [P] w w5 := (Ch.of_below kb2.out).trans hP4
 have hne : ∀ b, u.ownBlock = some b → b ≠ P := fun b e h => by have := own_block ko2.out b e; omega
 have ko5 := (ko2.out.kept hg4 (.inr (fun e => hne P e rfl))).kept hg5 (.inr (fun e => hne P e rfl))
 have hs5 := hC5.size
 have hb8 := below_alloc w5 (.cells #[.string ⟨#[111, 107]⟩] 9)
 have hs8 := hb8.size
 have cY := zH (say_any P B _ a u _ L [okL] _ (k5.below hb8) ha (own_below ko5 hb8) hPB zOm (Sts.new1 w5 okL 9) zDc (by rw [show joinL [okL] = okL from Lib.join_one _ _, show okL.length = 2 from rfl]; omega))
 have hC8 := zH ((Cp.of_ch hC5 hB).trans (Cp.of_below hb8 zOm))
 clear k4 hg4 hz4 k5 hg5 hz5 k2 ko2 kb2 hP4 hC5 ko5 hb8 hne
 go_wp2_with fail
 refine cY.out.mono ?_
 rintro e w9 ⟨u', rfl, k9, o9, -, c9⟩
 have h9 := zH (hC8.out.trans c9)
 rw [show joinL [okL] = okL from Lib.join_one _ _] at o9
 replace k9 := zH k9
 replace o9 := zH o9
 clear cY hC8 c9
 go_wp2_with fail
 go_end0
 exact ⟨rfl, _, _, u', k9.out, o9.out, h9.out⟩
theorem powp (a : Nat) : a ^ (pN - 2) % pN = Nt.pm pN 256 a (pN - 2) 1 % pN := by rw [Nt.pm_eq _ _ _ _ _ zDc, Nat.one_mul]
theorem powe (a : Nat) : a ^ eN % pN = Nt.pm pN 256 a eN 1 % pN := by rw [Nt.pm_eq _ _ _ _ _ zDc, Nat.one_mul]
def lmulK (k u : Nat) : Nat := (ladT (u % 2 ^ 255 % pN) (clampN k) 255).a * (Nt.pm pN 256 (ladT (u % 2 ^ 255 % pN) (clampN k) 255).b (pN - 2) 1 % pN) % pN
theorem lmulK_eq (k u : Nat) : lmulN k u = lmulK k u := by rw [lmulN, lmulK, powp]
def encK (P : Pn) : Nat := P.y * (Nt.pm pN 256 P.z (pN - 2) 1 % pN) % pN + 2 ^ 255 * (P.x * (Nt.pm pN 256 P.z (pN - 2) 1 % pN) % pN % 2)
theorem encK_eq (P : Pn) : encP P = encK P := by rw [encP, encK, powp]
def undK (y : Nat) : Nat := (y * y % pN + pN - 1) % pN * (Nt.pm pN 256 ((dN * (y * y % pN) % pN + 1) % pN) (pN - 2) 1 % pN) % pN
theorem undK_eq (y : Nat) : undP y = undK y := by rw [undP, undK, powp]
def rtK (a : Nat) : Nat := if (Nt.pm pN 256 a eN 1 % pN) * (Nt.pm pN 256 a eN 1 % pN) % pN = a then Nt.pm pN 256 a eN 1 % pN else (Nt.pm pN 256 a eN 1 % pN) * iN % pN
theorem rtK_eq (a : Nat) : Nt.rtx pN eN iN a = rtK a := by unfold Nt.rtx rtK; dsimp only; rw [powe]
theorem read_of {b : Nat} (h1 : b % 2 ^ 255 % pN = b % 2 ^ 255) (h2 : rtK (undK (b % 2 ^ 255)) * rtK (undK (b % 2 ^ 255)) % pN = undK (b % 2 ^ 255)) (h3 : rtK (undK (b % 2 ^ 255)) ≠ 0) : (readP b).2 = true := by
 have h4 : Nt.rtok pN eN iN (undP (b % 2 ^ 255)) = true := by rw [Nt.rtok, rtK_eq, undK_eq]; simp [h2]
 have h5 : Nt.rtv pN eN iN (undP (b % 2 ^ 255)) ≠ 0 := by
  have hl := Nt.rtx_lt (e := eN) (i := iN) pN_pos (undP (b % 2 ^ 255))
  rw [Nt.rtv, if_pos h4, rtK_eq, undK_eq] at *
  split <;> omega
 unfold readP
 rw [if_neg (by rw [h1]; exact fun h => h rfl), if_neg (by rw [h4]; decide)]
 split
 · first | rfl | (rw [if_neg h5])
 · rfl
theorem read_zero : encK (tmsP bP (secN (ofN 0 signerL)) 256) % 2 ^ 255 % pN = encK (tmsP bP (secN (ofN 0 signerL)) 256) % 2 ^ 255 ∧
 rtK (undK (encK (tmsP bP (secN (ofN 0 signerL)) 256) % 2 ^ 255)) * rtK (undK (encK (tmsP bP (secN (ofN 0 signerL)) 256) % 2 ^ 255)) % pN = undK (encK (tmsP bP (secN (ofN 0 signerL)) 256) % 2 ^ 255) ∧ rtK (undK (encK (tmsP bP (secN (ofN 0 signerL)) 256) % 2 ^ 255)) ≠ 0 := by decide +kernel
theorem zero_pub : (readP (pubN (ofN 0 signerL))).2 = true := by
 rw [pubN, encK_eq]
 exact read_of read_zero.1 read_zero.2.1 read_zero.2.2
theorem mul_zero : lmulK (shaa (nb 32 (ikeyN (ofN 0 keyL) 1))) (lmulK (ofN 0 deviceL) 9) ≠ 0 := by decide +kernel
theorem zero_mul : lmulN (shaa (nb 32 (ikeyN (ofN 0 keyL) 1))) (lmulN (ofN 0 deviceL) 9) ≠ 0 := by
 rw [lmulK_eq, lmulK_eq]
 exact mul_zero
end Go.Proofs.YtibdgkhkhmdihaaGreatDoor
