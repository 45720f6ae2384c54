/- PortcullisWrong: part 28 of its proof: lemmas and contracts, each with its conditions in its own statement; the last part holds the law itself. -/
import Derived.Test.YtibdgkhkhmdihaaGreatDoorJe27
import Derived.ProofKit
import Derived.OpenShut
import Derived.Deep.Matrix
import Derived.Great.BuildSlice
import Derived.Test.YtibdgkhkhmdihaaGreatDoorRows

set_option maxHeartbeats 4000000
set_option maxRecDepth 100000
namespace Go.Proofs.YtibdgkhkhmdihaaGreatDoor
open Go.RowKit
def OpEnd (P pf q g r s : Nat) (X : Plr) (a u : Value) (F : Fl) (w : World) (e : Ending) (w' : World) : Prop := ∃ d c k, e = .returned (.tuple #[]) ∧ w.heap.size ≤ d ∧ w.heap.size ≤ c ∧ d ≠ c ∧
 Arr w' d (dvv pf c false) ∧ Arr w' c (coZ k r s (-1)) ∧ Arr w' q (otv (some ⟨pf, 0, none⟩) r s 0 0) ∧ FlAt w' pf g F ∧ Pl w' P (({ X with d := ptr0 d } : Plr).cs a u) ∧ Ch [P, pf, g, q] w w'
theorem open_end (P pf q g r s : Nat) (X : Plr) (a u : Value) (F : Fl) (w : World) (kp : Pl w P (X.cs a u)) (hxf : X.f = ptr0 pf) (hxo : X.o = ptr0 q)
 (ko : Arr w q (otv (some ⟨pf, 0, none⟩) r s 0 0)) (kf : FlAt w pf g F) (hqp : q ≠ pf) (hqg : q ≠ g) (hlen : 32768 ≤ F.b.length) (hd : F.dead = false) (hf : Unmarked F)
 (hP : P ∉ [pf, g, q]) :
 Calls Tryz.prog 49 #[.pointer (some ⟨P, 0, none⟩)] w (OpEnd P pf q g r s X a u F w) := by
 obtain ⟨x1, x2, x3, x4, x5, x6, x7, x8, x9⟩ := X
 simp only at hxf hxo
 subst hxf hxo
 have hPl := kp.arr.lt
 have cO := zH (fun (w' : World) (hb : Below w.heap.size w w') => dopen_end pf q g r s F w' (ko.below hb) (kf.below hb) hqp hqg hlen hd hf)
 have cM := zH must_ok
 replace kp := zH kp
 clear ko kf hqp hqg hlen hd hf
 go_enter Tryz.func49, Tryz.ntmps49
 refine wp_seq ?_
 refine Tx.start (fun w' => Ch [pf, g, q] w w') 9999 14 rfl zKr ?_
 have hb0 : Below w.heap.size w w.drew := (Below.refl _ _).drew
 have hS0 : Ch [pf, g, q] w w.drew := Ch.of_below hb0
 refine Tx.seg (A := ?_) 6 255 zKr (by exact hS0) [0, 1, 2, 3, 4, 5, 6, 7] zKr ?_ ?_
 rotate_left
 · intro w' hB
   have y6 := (kp.out.ch hB hP).arr.cell (Plr.at _ _ _ (j := 2))
   have y7 := (kp.out.ch hB hP).arr.cell (Plr.at _ _ _ (j := 3))
   exact zRd
 refine Tx.eff 8 511 rfl zDk (fun K hK => ?_)
 go_simp
 refine (cO.out _ hb0).mono ?_
 rintro e w1 ⟨d, c, k, rfl, hd, hc, hdc, kd, k0, kq, kf, hC⟩
 have hd : w.heap.size ≤ d := Nat.le_trans hb0.size hd
 have hc : w.heap.size ≤ c := Nat.le_trans hb0.size hc
 have hS1 : Ch [pf, g, q] w w1 := hS0.trans hC
 refine hK (fun w' => Ch [pf, g, q] w w') _ _ hS1 (fun _ h => h) ?_
 clear hK K hS0 hb0 cO hC
 try simp only [Act.put, zSa, zSz, zSs]
 refine Tx.seg (A := ?_) 0 16383 zKr (by exact hS1) [9, 10, 11, 12, 13] zKr ?_ ?_
 rotate_left
 · intro w' hB
   exact zRd
 refine Tx.done zKr ?_
 have kp1 := kp.out.ch hS1 hP
 have z8 := kp1.arr.cell (Plr.at _ _ _ (j := 4))
 have zf := kp1.arr.frozen 132
 replace kd := zH kd
 replace k0 := zH k0
 replace kq := zH kq
 replace kf := zH kf
 replace kp1 := zH kp1
 clear kp
 go_upto_region 2 with fail
 have hPn : P ≠ pf ∧ P ≠ g ∧ P ≠ q := by simpa using hP
 have k2 : Pl (w1.setCell ⟨P, 132, none⟩ (ptr0 d)) P (({ root := x1, sig := x2, dev := x3, key := x4, man := x5, bl := x6, f := ptr0 pf, o := ptr0 q, d := ptr0 d } : Plr).cs a u) := by
  have := kp1.out.set 132 (ptr0 d)
  rwa [Plr.put_d] at this
 have hg : Ch [P] w1 (w1.setCell ⟨P, 132, none⟩ (ptr0 d)) := Ch.of_gr (gr_cell w1 P 132 (ptr0 d)) (by simp)
 change Code.wp _ _ _ _ (w1.setCell ⟨P, 132, none⟩ (ptr0 d))
 generalize w1.setCell ⟨P, 132, none⟩ (ptr0 d) = W at k2 hg ⊢
 have kdW := zH (kd.out.ch hg (by simp; omega))
 have k0W := zH (k0.out.ch hg (by simp; omega))
 have kqW := zH (kq.out.ch hg (by simp; omega))
 have kfW := zH (kf.out.ch hg (by simp; omega) (by simp; omega))
 have hSW : Ch [P, pf, g, q] w W := (hS1.mono (M' := [P, pf, g, q]) (fun k hk => List.mem_cons_of_mem _ hk)).trans (hg.mono (fun k hk => by simp at hk; simp [hk]))
 replace k2 := zH k2
 clear kd k0 kq kf kp1 z8 zf hg hS1
 go_wp2_with fail
 refine (cM.out _).mono ?_
 rintro e w2 ⟨rfl, rfl⟩
 go_wp2_with fail
 go_end0
 exact ⟨d, c, k, rfl, hd, hc, hdc, kdW.out, k0W.out, kqW.out, kfW.out, k2.out, hSW⟩
def FrEnd (P : Nat) (seed : Int) (w : World) (e : Ending) (w' : World) : Prop := ∃ (pf q g d c k r s B : Nat) (X : Plr) (u : Value), e = .returned (.tuple #[]) ∧
 Arr w' d (dvv pf c false) ∧ Arr w' c (coZ k r s (-1)) ∧ Arr w' q (otv (some ⟨pf, 0, none⟩) r s 0 0) ∧ FlAt w' pf g (Fl.new 128) ∧ d ≠ c ∧
 X.f = ptr0 pf ∧ X.o = ptr0 q ∧ X.d = ptr0 d ∧ X.root = ofN seed rootL ∧ Pl w' P (X.cs (slf P) u) ∧ w'.ownsRow B 5 1 u (okL ++ [10]).length (u8s (okL ++ [10])) ∧ (∀ b, u.ownBlock = some b → B ≤ b) ∧
 w.heap.size ≤ B ∧ B ≤ w'.heap.size ∧ pf < B ∧ g < B ∧ q < B ∧ d < B ∧ c < B ∧ w.heap.size ≤ pf ∧ w.heap.size ≤ g ∧ w.heap.size ≤ q ∧ w.heap.size ≤ d ∧ w.heap.size ≤ c ∧ Ch [P] w w'
theorem fresh_end (P gn cn : Nat) (seed : Int) (tv : Value) (X : Plr) (w : World) (kp : Pl w P (X.cs (.pointer none) (.slice none 0 0)))
 (hn : Sl w (.slice (some ⟨gn, 0, none⟩) 2 cn) [.int .i64 seed, .int .i64 0]) (hgP : gn ≠ P) :
 Calls Tryz.prog 22 #[.pointer (some ⟨P, 0, none⟩), .agg #[.slice (some ⟨gn, 0, none⟩) 2 cn, tv]] w (FrEnd P seed w) := by
 obtain ⟨x1, x2, x3, x4, x5, x6, x7, x8, x9⟩ := X
 have cI := zH (fun w => of_any seed w)
 have cF := zH (fun w => show Calls Tryz.prog 46 #[.int .i64 128] w _ from fnew_any 128 zDc w)
 have cP := zH (fun K w => cpublic_any K w)
 have cO := zH (fun fv r s w => onew_end fv r s w)
 have hPl := kp.arr.lt
 obtain ⟨r1, h1⟩ : ∃ n, ofN seed rootL = n := ⟨_, rfl⟩
 obtain ⟨r2, h2⟩ : ∃ n, ofN seed signerL = n := ⟨_, rfl⟩
 obtain ⟨r3, h3⟩ : ∃ n, ofN seed deviceL = n := ⟨_, rfl⟩
 obtain ⟨r4, h4⟩ : ∃ n, ofN seed keyL = n := ⟨_, rfl⟩
 simp only [ofL, h1, h2, h3, h4] at cI
 replace h1 := zH h1
 clear h2 h3 h4
 replace kp := zH kp
 replace hn := zH hn
 go_enter Tryz.func22, Tryz.ntmps22
 go_upto_region 1 with fail
 refine wp_new1 (fun W hsz kA kb => ?_)
 have kA := kA
 replace kA : Arr W w.heap.size [.slice (some ⟨gn, 0, none⟩) 2 cn, tv] := kA
 obtain ⟨ga, hga⟩ : ∃ k, w.heap.size = k := ⟨_, rfl⟩
 have hgaP : ga ≠ P := by omega
 have kp1 := zH (kp.out.below kb)
 have hn1 := zH (hn.out.below kb)
 have y0 := sl_cell hn1.out (j := 0) rfl
 have yA := kA.cell (j := 0) rfl
 have hC := Ch.of_below (M := [P]) kb
 rw [hga] at kA yA ⊢
 clear hsz kb kp hn
 go_wp2_with fail
 refine (cI.out _).mono ?_
 rintro e w1 ⟨rfl, hb⟩
 replace kp1 := zH (kp1.out.below hb)
 replace hn1 := zH (hn1.out.below hb)
 replace kA := zH (kA.below hb)
 replace hC := hC.trans (Ch.of_below hb)
 clear y0 yA cI hb
 go_upto_region 2 with (refine wpl_storeMP rfl _ _ _ rfl P 0 (setL r1 r2 r3 r4) rfl rfl _ kp1.out (by rw [setL_len]; kernel_rfl) (by rw [setL_len, Plr.len]; decide) (setL_one _ _ _ _) (fun W2 k2 hg => ?_))
 rw [Plr.put_set] at k2
 have hc2 := Ch.of_gr (M := [P]) hg (by simp)
 replace k2 := zH k2
 replace hn1 := zH (hn1.out.ch hc2 (by simpa using hgP))
 replace kA := zH (kA.out.ch hc2 (by simpa using hgaP))
 replace hC := hC.trans hc2
 clear kp1 hc2 hg
 go_wp2_with fail
 refine (cF.out _).mono ?_
 rintro e w3 ⟨pf, g, rfl, hpf, hg, kf, hb⟩
 have hP2 : P < W2.heap.size := k2.out.arr.lt
 have hsz2 : w.heap.size ≤ W2.heap.size := hC.size
 have hpf0 : w.heap.size ≤ pf := Nat.le_trans hsz2 hpf
 have hg0 : w.heap.size ≤ g := Nat.le_trans hsz2 hg
 have k3 := k2.out.below hb
 replace hn1 := zH (hn1.out.below hb)
 replace kA := zH (kA.out.below hb)
 replace hC := hC.trans (Ch.of_below hb)
 have z3 := k3.arr.cell (Plr.at _ _ _ (j := 2))
 have zf := k3.arr.frozen 130
 replace k3 := zH k3
 replace kf := zH kf
 clear k2 cF hb
 go_upto_region 3 with fail
 have k4 : Pl (w3.setCell ⟨P, 130, none⟩ (ptr0 pf)) P (({ root := r1, sig := r2, dev := r3, key := r4, man := x5, bl := x6, f := ptr0 pf, o := x8, d := x9 } : Plr).cs (.pointer none) (.slice none 0 0)) := by
  have := k3.out.set 130 (ptr0 pf)
  rwa [Plr.put_f] at this
 have hg4 : Ch [P] w3 (w3.setCell ⟨P, 130, none⟩ (ptr0 pf)) := Ch.of_gr (gr_cell w3 P 130 (ptr0 pf)) (by simp)
 change Code.wp _ _ _ _ (w3.setCell ⟨P, 130, none⟩ (ptr0 pf))
 generalize w3.setCell ⟨P, 130, none⟩ (ptr0 pf) = W4 at k4 hg4 ⊢
 have hpfP : pf ≠ P := by omega
 have hgP' : g ≠ P := by omega
 replace hn1 := zH (hn1.out.ch hg4 (by simpa using hgP))
 replace kA := zH (kA.out.ch hg4 (by simpa using hgaP))
 replace kf := zH (kf.out.ch hg4 (by simpa using hpfP) (by simpa using hgP'))
 replace hC := hC.trans hg4
 replace k4 := zH k4
 clear k3 z3 zf hg4
 refine Tx.start (fun w' => Below (W4).heap.size (W4) w') 23 24 rfl zKr ?_
 have hS_1 : Below (W4).heap.size (W4) (World.drew W4) := (Below.refl _ _).drew
 refine Tx.seg (A := ?_) 5 1047551 zKr (by exact hS_1) [0, 1, 2, 3, 4, 5, 6, 7, 8, 9, 11, 12, 13, 14, 15, 16, 17, 18, 19] zKr ?_ ?_
 rotate_left
 · intro w' hB
   have kq := k4.out.below hB
   have y4 := kq.arr.cell (Plr.at _ _ _ (j := 2))
   have y9 := Plr.rg_root kq
   have y15 := Plr.rg_dev kq
   have y17 := (kA.out.below hB).cell (j := 0) rfl
   have y19 := sl_cell (hn1.out.below hB) (j := 1) rfl
   exact zRm
 refine Tx.eff 10 1048575 rfl zDk (fun K hK => ?_)
 go_simp
 refine (cP.out r1 _).mono ?_
 rintro e w_2 ⟨rfl, hb_2⟩
 have hS_2 := ext_trans hS_1 (Nat.le_refl _) hb_2
 refine hK (fun w' => Below (W4).heap.size (W4) w') _ _ hS_2 (fun _ h => h) ?_
 clear hK K hb_2 hS_1
 try simp only [Act.put, zSa, zSz, zSs]
 have hs2 : W4.heap.size ≤ (w_2).heap.size := Below.size zAm
 obtain ⟨rk, hrk⟩ : ∃ n, pubN r1 = n := ⟨_, rfl⟩
 rw [hrk]
 clear hrk
 refine Tx.eff 20 2097151 rfl zDk (fun K hK => ?_)
 go_simp
 refine (cO.out (some ⟨pf, 0, none⟩) rk r3 _).mono ?_
 rintro e w_3 ⟨q, rfl, hq, kq, hb_3⟩
 have hS_3 := ext_trans hS_2 (Nat.le_refl _) hb_3
 refine hK (fun w' => Below (W4).heap.size (W4) w') _ _ hS_3 (fun _ h => h) ?_
 clear hK K hS_2
 try simp only [Act.put, zSa, zSz, zSs]
 have hqs : W4.heap.size ≤ q := Nat.le_trans hs2 hq
 refine Tx.pure (A := ?_) 1 8388607 zKr (by exact hS_3) [21, 22] zKr ?_ ?_
 rotate_left
 · intro w'
   iterate 2 (first | (refine rd_skip rfl rfl ?_; simp only [Act.put, zSa, zSz, zSs]) | (refine rd_take (v := ?_) rfl rfl ?_ ?_; rotate_left; (focus (go_simp; try (with_reducible rfl))); simp only [Act.put, zSa, zSz, zSs]))
   exact rd_nil
 have k5 := k4.out.below zAm
 have kf5 := kf.out.below zAm
 have kb5 : Below W4.heap.size W4 w_3 := by assumption
 have z5 := k5.arr.cell (Plr.at _ _ _ (j := 3))
 have zf5 := k5.arr.frozen 131
 refine Tx.bar 16777215 rfl zDk (fun K hK => ?_)
 go_simp
 refine hK (fun _ => True) 9999 _ _ ?_
 clear hK K
 try simp only [Act.put]
 try simp only [zSa, zSz, zSs]
 refine Tx.done zKr ?_
 have hqP : q ≠ P := by have := k4.out.arr.lt; omega
 have hlf := kf.out.lt
 have hqp : q ≠ pf := by omega
 have hqg : q ≠ g := by omega
 have hq0 : w.heap.size ≤ q := by have := hC.size; omega
 have k6 : Pl (w_3.setCell ⟨P, 131, none⟩ (ptr0 q)) P (({ root := r1, sig := r2, dev := r3, key := r4, man := x5, bl := x6, f := ptr0 pf, o := ptr0 q, d := x9 } : Plr).cs (.pointer none) (.slice none 0 0)) := by
  have := k5.set 131 (ptr0 q)
  rwa [Plr.put_o] at this
 have hg6 : Ch [P] w_3 (w_3.setCell ⟨P, 131, none⟩ (ptr0 q)) := Ch.of_gr (gr_cell _ P 131 (ptr0 q)) (by simp)
 change Exit.then _ _ _ _ (w_3.setCell ⟨P, 131, none⟩ (ptr0 q))
 generalize w_3.setCell ⟨P, 131, none⟩ (ptr0 q) = W6 at k6 hg6 ⊢
 have kq6 := kq.ch hg6 (by simpa using hqP)
 have kf6 := kf5.ch hg6 (by simpa using hpfP) (by simpa using hgP')
 have hC6 := (hC.trans (Ch.of_below kb5)).trans hg6
 have cN := zH (open_end P pf q g rk r3 _ _ _ (Fl.new 128) W6 k6 rfl rfl kq6 kf6 hqp hqg (Nat.le_of_eq fl_new_len.symm) rfl (unmarked_new 128 zDc) (by simp; omega))
 have hP6 := k6.arr.lt
 have hs6 : q < W6.heap.size := kq6.lt
 clear k6 kq6 kf6 hg6 z5 zf5 k5 kf5 kb5 kq kA hn1 kf k4 hC hqs hq hs2
 go_wp2_with fail
 refine cN.out.mono ?_
 rintro e w7 ⟨d, c, k, rfl, hd, hc, hdc, kd, k0, kq7, kf7, k7, hC7⟩
 have hP7 := k7.arr.lt
 have hl7 := kf7.lt
 have hq7 := kq7.lt
 have hd7 := kd.lt
 have hc7 := k0.lt
 have hs7 := hC7.size
 have hb8 := below_alloc w7 (.cells #[.string ⟨#[111, 107]⟩] 9)
 have cY := zH (say_any P w7.heap.size _ (.pointer none) (.slice none 0 0) _ [] [okL] _ (k7.below hb8) (.inl rfl) (World.ownsRow_nil _ _ _ _) hP7 hb8.size (Sts.new1 w7 okL 9) zDc zDc)
 have hsw := hC6.size
 have hg7 := gr_below (row := none) hb8
 clear cN
 replace kd := zH (kd.below hb8)
 replace k0 := zH (k0.below hb8)
 replace kq7 := zH (kq7.below hb8)
 replace kf7 := zH (kf7.below hb8)
 go_wp2_with fail
 refine cY.out.mono ?_
 rintro e w9 ⟨u', rfl, k9, o9, g9, c9⟩
 have hdP : d ≠ P := by omega
 have hcP : c ≠ P := by omega
 have hC9 : Ch [P] w w9 := ((hC6.drop hC7 (fun k hk => by
  simp only [List.mem_cons, List.not_mem_nil, or_false] at hk ⊢
  omega)).trans (Ch.of_below hb8)).cp c9 (by simp) zOm
 have f1 := kd.out.cp c9 hd7 hdP
 have f2 := k0.out.cp c9 hc7 hcP
 have f3 := kq7.out.cp c9 hq7 hqP
 have f4 := kf7.out.cp c9 hl7.1 hl7.2 hpfP hgP'
 have hs9 := Nat.le_trans hb8.size c9.size
 rw [List.nil_append, show joinL [okL] = okL from Lib.join_one _ _] at o9
 replace f1 := zH f1
 replace f2 := zH f2
 replace f3 := zH f3
 replace f4 := zH f4
 replace k9 := zH k9
 replace o9 := zH o9
 clear cY kd k0 kq7 kf7 k7 c9 hC7 hC6 hb8 hg7
 go_wp2_with fail
 go_end0
 exact ⟨pf, q, g, d, c, k, rk, r3, w7.heap.size, _, u', rfl, f1.out, f2.out, f3.out, f4.out, hdc, rfl, rfl, rfl, h1.out.symm, k9.out, o9.out, g9, by omega, hs9, hl7.1, hl7.2, hq7, hd7, hc7, hpf0, hg0, hq0, by omega, by omega, hC9⟩
def OneQ (P : Nat) (o : List UInt8) (w0 w' : World) : Prop := Ch [P] w0 w' ∧ ∃ (B : Nat) (X : Plr) (u : Value), Pl w' P (X.cs (slf P) u) ∧ w'.ownsRow B 5 1 u (o ++ [10]).length (u8s (o ++ [10])) ∧ w0.heap.size ≤ B
def OneI (o : List UInt8) (P r : Nat) (w0 : World) (j : Nat) (w' : World) : Prop := match j with
 | 0 => w' = w0 ∧ Pl w' P (iniX.cs (.pointer none) (.slice none 0 0)) ∧ Mp w' r cmdL ∧ r ≠ P
 | _ => OneQ P o w0 w'
def OneL (x o : List UInt8) : Prop := ∀ P r w0, Pl w0 P (iniX.cs (.pointer none) (.slice none 0 0)) → Mp w0 r cmdL → r ≠ P →
 Calls Tryz.prog 15 #[.pointer (some ⟨P, 0, none⟩), .string ⟨x.toArray⟩, .map (some r)] w0 fun e w' => e = .returned (.tuple #[]) ∧ OneQ P o w0 w'
theorem one_play (x o : List UInt8) (hl : lns 10 (⟨(x ++ [10]).toArray⟩ : ByteArray).data.toList = [x, []]) (hn : nLn (⟨(x ++ [10]).toArray⟩ : ByteArray).data.toList = 1) (hs : (⟨(x ++ [10]).toArray⟩ : ByteArray).size ≤ 1000) (hk : ¬ skp x) (h : OneL x o) (w : World) :
 Calls Tryz.prog 8 #[.string ⟨(x ++ [10]).toArray⟩] w fun e w' => e = .returned (.string ⟨(o ++ [10]).toArray⟩) ∧ Below w.heap.size w w' := by
 refine play_ok _ zOm (by rw [hn]; decide) w (o ++ [10]) (OneI o) (fun P r w0 kp kM hrP => ⟨rfl, kp, kM, hrP⟩) (fun P r w0 j w' hI => ?_) ?_ ?_ ?_
 · rcases j with _ | j
   · obtain ⟨rfl, -⟩ := hI
     exact Ch.refl _ _
   · exact hI.1
 · intro P r w0 j y w' hy hj hs hI
   rw [hl] at hy
   rw [hn] at hj
   obtain rfl : j = 0 := by omega
   cases hy
   exact absurd hs hk
 · intro P r w0 j y w' hy hj hs hI
   rw [hl] at hy
   rw [hn] at hj
   obtain rfl : j = 0 := by omega
   cases hy
   obtain ⟨rfl, kp, kM, hrP⟩ := hI
   exact h P r _ kp kM hrP
 · intro P r w0 w' hI
   rw [hn] at hI
   obtain ⟨hC, B, X, u, kp, ko, hwB⟩ := hI
   refine (bstr_some P B X (slf P) u (o ++ [10]) w' kp ko (by simp)).mono ?_
   rintro e w'' ⟨he, hb⟩
   exact ⟨he, hb.os, hb.tape, hb.output, hb.size, fun k hk => hb.block k zOm⟩
theorem told_ini (P n : Nat) (o : List UInt8) (ho : joinL [errorL, Lib.decDigits n] = o) (hol : o.length ≤ 1000) {w W : World} (kp : Pl W P (iniX.cs (.pointer none) (.slice none 0 0))) (hb : Below w.heap.size w W) : Told P n (OneQ P o w) W := by
 intro W2 v hb2 hv
 have kp2 := kp.below hb2
 have q := say_any P W2.heap.size iniX (.pointer none) (.slice none 0 0) v [] [errorL, Lib.decDigits n] W2 kp2 (.inl rfl) (World.ownsRow_nil _ _ _ _) kp2.arr.lt (Nat.le_refl _) hv (by simp) (by rw [ho]; simp; omega)
 refine q.mono ?_
 rintro e w3 ⟨u', rfl, kp3, ko3, -, hcp⟩
 rw [ho, List.nil_append] at ko3
 have h1 := hb.size
 have h2 := hb2.size
 exact ⟨rfl, (Ch.of_below (bel hb hb2)).cp hcp (by simp) zOm, W2.heap.size, iniX, u', kp3, ko3, by omega⟩
theorem dec_1 : Lib.decDigits 1 = [49] := by rw [Lib.decDigits]; rfl
theorem dec_2 : Lib.decDigits 2 = [50] := by rw [Lib.decDigits]; rfl
theorem one_bad (x : List UInt8) (hs : (⟨x.toArray⟩ : ByteArray).size < 4294967281) (h : prsL (lns 32 (⟨x.toArray⟩ : ByteArray).data.toList) = none) : OneL x [101, 114, 114, 111, 114, 32, 50] := by
 intro P r w0 kp kM hrP
 refine line_any P r w0 kM _ hs (OneQ P [101, 114, 114, 111, 114, 32, 50] w0) (fun _ W hb => ?_) (fun f ns ts h' => ?_)
 · exact told_ini P 2 _ (by rw [dec_2]; decide) zDc (kp.below hb) hb
 · rw [h] at h'
   cases h'
theorem one_no (x : List UInt8) (hs : (⟨x.toArray⟩ : ByteArray).size < 4294967281) {f0 : Nat} {ns0 : List Int} {ts0 : List (List UInt8)} (h : prsL (lns 32 (⟨x.toArray⟩ : ByteArray).data.toList) = some (f0, ns0, ts0))
 (hf : ∀ P w0 W nv tv, Pl W P (iniX.cs (.pointer none) (.slice none 0 0)) → W.ownsRow w0 3 1 nv ns0.length (ns0.map (.int .i64)) → Calls Tryz.prog f0 #[.pointer (some ⟨P, 0, none⟩), .agg #[nv, tv]] W (No1 W)) : OneL x [101, 114, 114, 111, 114, 32, 49] := by
 intro P r w0 kp kM hrP
 refine line_any P r w0 kM _ hs (OneQ P [101, 114, 114, 111, 114, 32, 49] w0) (fun h' => ?_) (fun f ns ts h' W nv tv hb hn _ => ?_)
 · rw [h] at h'
   cases h'
 · rw [h] at h'
   injection h' with h'
   injection h' with h1 h2
   injection h2 with h2 h3
   subst h1 h2 h3
   have kpW := kp.below hb
   refine (hf P _ W nv tv kpW hn).mono ?_
   rintro e W' ⟨he, hb'⟩
   refine .inr ⟨1, by decide, he, ⟨hb'.size, fun j _ hj2 => hb'.block j hj2⟩, ?_⟩
   exact told_ini P 1 _ (by rw [dec_1]; decide) zDc (kpW.below hb') (bel hb hb')
theorem own_one {W : World} {B : Nat} {nv : Value} {i : Int} {is : List Int} (hn : W.ownsRow B 3 1 nv (i :: is).length ((i :: is).map (.int .i64))) : ∃ gn cn, nv = .slice (some ⟨gn, 0, none⟩) (i :: is).length cn ∧ B ≤ gn := by
 rcases hn.2 with ⟨_, hz⟩ | ⟨g, cap, cur, hv, hg, _⟩
 · simp at hz
 · exact ⟨g, cap, hv, hg⟩
theorem num_0 : numF [48] = some 0 := numF_ok zDc zDc zDc (.inl rfl) zDc
theorem numF_bad {l : List UInt8} (h : NoNum ⟨l.toArray⟩) : numF l = none := by
 classical
 unfold numF
 rw [if_pos h]
theorem num_x : numF [120] = none := numF_bad (.inr (.inr (.inl ⟨120, by decide, by decide⟩)))
theorem num_01 : numF [48, 49] = none := numF_bad (.inr (.inr (.inr ⟨rfl, by decide⟩)))
theorem num_1234567 : numF [49, 50, 51, 52, 53, 54, 55] = none := numF_bad (.inr (.inl zDc))
theorem bad_0 : OneL [120] [101, 114, 114, 111, 114, 32, 50] := by
 refine one_bad _ zDc ?_
 have hl : lns 32 (⟨#[120]⟩ : ByteArray).data.toList = [[120]] := by decide
 have h : cmdF [120] cmdT = none := by decide
 rw [hl]
 simp [prsL, h]
theorem bad_1 : OneL [102, 101, 101, 100, 32, 110, 111, 119] [101, 114, 114, 111, 114, 32, 50] := by
 refine one_bad _ zDc ?_
 have hl : lns 32 (⟨#[102, 101, 101, 100, 32, 110, 111, 119]⟩ : ByteArray).data.toList = [[102, 101, 101, 100], [110, 111, 119]] := by decide
 have h : cmdF [102, 101, 101, 100] cmdT = some ([], 24) := by decide
 rw [hl]
 simp [prsL, h]
theorem bad_2 : OneL [32, 102, 101, 101, 100] [101, 114, 114, 111, 114, 32, 50] := by
 refine one_bad _ zDc ?_
 have hl : lns 32 (⟨#[32, 102, 101, 101, 100]⟩ : ByteArray).data.toList = [[], [102, 101, 101, 100]] := by decide
 have h : cmdF [] cmdT = none := by decide
 rw [hl]
 simp [prsL, h]
theorem bad_3 : OneL [102, 101, 101, 100, 32] [101, 114, 114, 111, 114, 32, 50] := by
 refine one_bad _ zDc ?_
 have hl : lns 32 (⟨#[102, 101, 101, 100, 32]⟩ : ByteArray).data.toList = [[102, 101, 101, 100], []] := by decide
 have h : cmdF [102, 101, 101, 100] cmdT = some ([], 24) := by decide
 rw [hl]
 simp [prsL, h]
theorem bad_4 : OneL [98, 108, 111, 99, 107] [101, 114, 114, 111, 114, 32, 50] := by
 refine one_bad _ zDc ?_
 have hl : lns 32 (⟨#[98, 108, 111, 99, 107]⟩ : ByteArray).data.toList = [[98, 108, 111, 99, 107]] := by decide
 have h : cmdF [98, 108, 111, 99, 107] cmdT = some ([78], 25) := by decide
 rw [hl]
 simp [prsL, h]
theorem bad_5 : OneL [98, 108, 111, 99, 107, 32, 120] [101, 114, 114, 111, 114, 32, 50] := by
 refine one_bad _ zDc ?_
 have hl : lns 32 (⟨#[98, 108, 111, 99, 107, 32, 120]⟩ : ByteArray).data.toList = [[98, 108, 111, 99, 107], [120]] := by decide
 have h : cmdF [98, 108, 111, 99, 107] cmdT = some ([78], 25) := by decide
 rw [hl]
 simp [prsL, h, prs, num_x]
theorem bad_6 : OneL [98, 108, 111, 99, 107, 32, 48, 49] [101, 114, 114, 111, 114, 32, 50] := by
 refine one_bad _ zDc ?_
 have hl : lns 32 (⟨#[98, 108, 111, 99, 107, 32, 48, 49]⟩ : ByteArray).data.toList = [[98, 108, 111, 99, 107], [48, 49]] := by decide
 have h : cmdF [98, 108, 111, 99, 107] cmdT = some ([78], 25) := by decide
 rw [hl]
 simp [prsL, h, prs, num_01]
theorem bad_7 : OneL [98, 108, 111, 99, 107, 32, 49, 50, 51, 52, 53, 54, 55] [101, 114, 114, 111, 114, 32, 50] := by
 refine one_bad _ zDc ?_
 have hl : lns 32 (⟨#[98, 108, 111, 99, 107, 32, 49, 50, 51, 52, 53, 54, 55]⟩ : ByteArray).data.toList = [[98, 108, 111, 99, 107], [49, 50, 51, 52, 53, 54, 55]] := by decide
 have h : cmdF [98, 108, 111, 99, 107] cmdT = some ([78], 25) := by decide
 rw [hl]
 simp [prsL, h, prs, num_1234567]
theorem bad_8 : OneL [110, 101, 119, 32, 49] [101, 114, 114, 111, 114, 32, 50] := by
 refine one_bad _ zDc ?_
 have hl : lns 32 (⟨#[110, 101, 119, 32, 49]⟩ : ByteArray).data.toList = [[110, 101, 119], [49]] := by decide
 have h : cmdF [110, 101, 119] cmdT = some ([78, 78], 22) := by decide
 rw [hl]
 simp [prsL, h]
theorem bad_9 : OneL [105, 109, 97, 103, 101, 32, 49, 32, 49] [101, 114, 114, 111, 114, 32, 50] := by
 refine one_bad _ zDc ?_
 have hl : lns 32 (⟨#[105, 109, 97, 103, 101, 32, 49, 32, 49]⟩ : ByteArray).data.toList = [[105, 109, 97, 103, 101], [49], [49]] := by decide
 have h : cmdF [105, 109, 97, 103, 101] cmdT = some ([78, 78, 84], 23) := by decide
 rw [hl]
 simp [prsL, h]
theorem bad_10 : OneL [105, 109, 97, 103, 101, 32, 49, 32, 49, 32] [101, 114, 114, 111, 114, 32, 50] := by
 refine one_bad _ zDc ?_
 have hl : lns 32 (⟨#[105, 109, 97, 103, 101, 32, 49, 32, 49, 32]⟩ : ByteArray).data.toList = [[105, 109, 97, 103, 101], [49], [49], []] := by decide
 have h : cmdF [105, 109, 97, 103, 101] cmdT = some ([78, 78, 84], 23) := by decide
 rw [hl]
 simp [prsL, h, prs, num_1]
theorem bad_11 : OneL [112, 111, 107, 101, 32, 49, 32] [101, 114, 114, 111, 114, 32, 50] := by
 refine one_bad _ zDc ?_
 have hl : lns 32 (⟨#[112, 111, 107, 101, 32, 49, 32]⟩ : ByteArray).data.toList = [[112, 111, 107, 101], [49], []] := by decide
 have h : cmdF [112, 111, 107, 101] cmdT = some ([78, 84], 34) := by decide
 rw [hl]
 simp [prsL, h, prs, num_1]
theorem bad_12 : OneL [99, 114, 97, 115, 104, 32, 49] [101, 114, 114, 111, 114, 32, 50] := by
 refine one_bad _ zDc ?_
 have hl : lns 32 (⟨#[99, 114, 97, 115, 104, 32, 49]⟩ : ByteArray).data.toList = [[99, 114, 97, 115, 104], [49]] := by decide
 have h : cmdF [99, 114, 97, 115, 104] cmdT = some ([78, 78], 32) := by decide
 rw [hl]
 simp [prsL, h]
theorem no_0 : OneL [102, 101, 101, 100] [101, 114, 114, 111, 114, 32, 49] := by
 have hl : lns 32 (⟨#[102, 101, 101, 100]⟩ : ByteArray).data.toList = [[102, 101, 101, 100]] := by decide
 have h : cmdF [102, 101, 101, 100] cmdT = some ([], 24) := by decide
 refine one_no _ zDc (f0 := 24) (ns0 := []) (ts0 := []) ?_ (fun P w0 W nv tv kp hn => feed_no P iniX _ _ nv tv W kp rfl rfl)
 rw [hl]
 simp [prsL, h, prs]
theorem no_1 : OneL [98, 108, 111, 99, 107, 32, 48] [101, 114, 114, 111, 114, 32, 49] := by
 have hl : lns 32 (⟨#[98, 108, 111, 99, 107, 32, 48]⟩ : ByteArray).data.toList = [[98, 108, 111, 99, 107], [48]] := by decide
 have h : cmdF [98, 108, 111, 99, 107] cmdT = some ([78], 25) := by decide
 refine one_no _ zDc (f0 := 25) (ns0 := [0]) (ts0 := []) ?_ (fun P w0 W nv tv kp hn => by
  obtain ⟨gn, cn, rfl, -⟩ := own_one hn
  exact block_no P gn cn 0 zDc iniX _ _ tv W kp rfl rfl (Sl.of_own hn))
 rw [hl]
 simp [prsL, h, prs, num_0]
theorem no_2 : OneL [98, 108, 111, 99, 107, 115] [101, 114, 114, 111, 114, 32, 49] := by
 have hl : lns 32 (⟨#[98, 108, 111, 99, 107, 115]⟩ : ByteArray).data.toList = [[98, 108, 111, 99, 107, 115]] := by decide
 have h : cmdF [98, 108, 111, 99, 107, 115] cmdT = some ([], 26) := by decide
 refine one_no _ zDc (f0 := 26) (ns0 := []) (ts0 := []) ?_ (fun P w0 W nv tv kp hn => all_no P iniX _ _ nv tv W kp rfl)
 rw [hl]
 simp [prsL, h, prs]
theorem no_3 : OneL [99, 111, 109, 109, 105, 116] [101, 114, 114, 111, 114, 32, 49] := by
 have hl : lns 32 (⟨#[99, 111, 109, 109, 105, 116]⟩ : ByteArray).data.toList = [[99, 111, 109, 109, 105, 116]] := by decide
 have h : cmdF [99, 111, 109, 109, 105, 116] cmdT = some ([], 27) := by decide
 refine one_no _ zDc (f0 := 27) (ns0 := []) (ts0 := []) ?_ (fun P w0 W nv tv kp hn => commit_no P iniX _ _ nv tv W kp rfl)
 rw [hl]
 simp [prsL, h, prs]
theorem no_4 : OneL [98, 111, 111, 116] [101, 114, 114, 111, 114, 32, 49] := by
 have hl : lns 32 (⟨#[98, 111, 111, 116]⟩ : ByteArray).data.toList = [[98, 111, 111, 116]] := by decide
 have h : cmdF [98, 111, 111, 116] cmdT = some ([], 29) := by decide
 refine one_no _ zDc (f0 := 29) (ns0 := []) (ts0 := []) ?_ (fun P w0 W nv tv kp hn => boot_no P iniX _ _ nv tv W kp rfl)
 rw [hl]
 simp [prsL, h, prs]
theorem no_5 : OneL [99, 111, 110, 102, 105, 114, 109] [101, 114, 114, 111, 114, 32, 49] := by
 have hl : lns 32 (⟨#[99, 111, 110, 102, 105, 114, 109]⟩ : ByteArray).data.toList = [[99, 111, 110, 102, 105, 114, 109]] := by decide
 have h : cmdF [99, 111, 110, 102, 105, 114, 109] cmdT = some ([], 28) := by decide
 refine one_no _ zDc (f0 := 28) (ns0 := []) (ts0 := []) ?_ (fun P w0 W nv tv kp hn => confirm_no P iniX _ _ nv tv W kp rfl)
 rw [hl]
 simp [prsL, h, prs]
theorem no_6 : OneL [114, 101, 97, 100, 32, 48] [101, 114, 114, 111, 114, 32, 49] := by
 have hl : lns 32 (⟨#[114, 101, 97, 100, 32, 48]⟩ : ByteArray).data.toList = [[114, 101, 97, 100], [48]] := by decide
 have h : cmdF [114, 101, 97, 100] cmdT = some ([78], 30) := by decide
 refine one_no _ zDc (f0 := 30) (ns0 := [0]) (ts0 := []) ?_ (fun P w0 W nv tv kp hn => by
  obtain ⟨gn, cn, rfl, -⟩ := own_one hn
  exact read_no P gn cn 0 iniX _ _ tv W kp rfl (Sl.of_own hn))
 rw [hl]
 simp [prsL, h, prs, num_0]
theorem no_7 : OneL [114, 101, 118, 111, 107, 101, 32, 49] [101, 114, 114, 111, 114, 32, 49] := by
 have hl : lns 32 (⟨#[114, 101, 118, 111, 107, 101, 32, 49]⟩ : ByteArray).data.toList = [[114, 101, 118, 111, 107, 101], [49]] := by decide
 have h : cmdF [114, 101, 118, 111, 107, 101] cmdT = some ([78], 31) := by decide
 refine one_no _ zDc (f0 := 31) (ns0 := [1]) (ts0 := []) ?_ (fun P w0 W nv tv kp hn => revoke_no P iniX _ _ nv tv W kp rfl)
 rw [hl]
 simp [prsL, h, prs, num_1]
theorem no_8 : OneL [113, 117, 111, 116, 101] [101, 114, 114, 111, 114, 32, 49] := by
 have hl : lns 32 (⟨#[113, 117, 111, 116, 101]⟩ : ByteArray).data.toList = [[113, 117, 111, 116, 101]] := by decide
 have h : cmdF [113, 117, 111, 116, 101] cmdT = some ([], 35) := by decide
 refine one_no _ zDc (f0 := 35) (ns0 := []) (ts0 := []) ?_ (fun P w0 W nv tv kp hn => quote_no P iniX _ _ nv tv W kp rfl)
 rw [hl]
 simp [prsL, h, prs]
theorem no_9 : OneL [115, 116, 97, 116, 101] [101, 114, 114, 111, 114, 32, 49] := by
 have hl : lns 32 (⟨#[115, 116, 97, 116, 101]⟩ : ByteArray).data.toList = [[115, 116, 97, 116, 101]] := by decide
 have h : cmdF [115, 116, 97, 116, 101] cmdT = some ([], 36) := by decide
 refine one_no _ zDc (f0 := 36) (ns0 := []) (ts0 := []) ?_ (fun P w0 W nv tv kp hn => state_no P iniX _ _ nv tv W kp rfl)
 rw [hl]
 simp [prsL, h, prs]
theorem no_10 : OneL [99, 114, 97, 115, 104, 32, 49, 32, 49] [101, 114, 114, 111, 114, 32, 49] := by
 have hl : lns 32 (⟨#[99, 114, 97, 115, 104, 32, 49, 32, 49]⟩ : ByteArray).data.toList = [[99, 114, 97, 115, 104], [49], [49]] := by decide
 have h : cmdF [99, 114, 97, 115, 104] cmdT = some ([78, 78], 32) := by decide
 refine one_no _ zDc (f0 := 32) (ns0 := [1, 1]) (ts0 := []) ?_ (fun P w0 W nv tv kp hn => crash_no P iniX _ _ nv tv W kp rfl)
 rw [hl]
 simp [prsL, h, prs, num_1]
theorem no_11 : OneL [99, 121, 99, 108, 101] [101, 114, 114, 111, 114, 32, 49] := by
 have hl : lns 32 (⟨#[99, 121, 99, 108, 101]⟩ : ByteArray).data.toList = [[99, 121, 99, 108, 101]] := by decide
 have h : cmdF [99, 121, 99, 108, 101] cmdT = some ([], 33) := by decide
 refine one_no _ zDc (f0 := 33) (ns0 := []) (ts0 := []) ?_ (fun P w0 W nv tv kp hn => cycle_no P iniX _ _ nv tv W kp rfl)
 rw [hl]
 simp [prsL, h, prs]
theorem no_12 : OneL [112, 111, 107, 101, 32, 49, 32, 120] [101, 114, 114, 111, 114, 32, 49] := by
 have hl : lns 32 (⟨#[112, 111, 107, 101, 32, 49, 32, 120]⟩ : ByteArray).data.toList = [[112, 111, 107, 101], [49], [120]] := by decide
 have h : cmdF [112, 111, 107, 101] cmdT = some ([78, 84], 34) := by decide
 refine one_no _ zDc (f0 := 34) (ns0 := [1]) (ts0 := [[120]]) ?_ (fun P w0 W nv tv kp hn => poke_no P iniX _ _ nv tv W kp rfl)
 rw [hl]
 simp [prsL, h, prs, num_1]
theorem ok_image : OneL [105, 109, 97, 103, 101, 32, 49, 32, 49, 32, 120] [111, 107] := by
 have hl : lns 32 (⟨#[105, 109, 97, 103, 101, 32, 49, 32, 49, 32, 120]⟩ : ByteArray).data.toList = [[105, 109, 97, 103, 101], [49], [49], [120]] := by decide
 have h : cmdF [105, 109, 97, 103, 101] cmdT = some ([78, 78, 84], 23) := by decide
 have hp : prsL [[105, 109, 97, 103, 101], [49], [49], [120]] = some (23, [1, 1], [[120]]) := by simp [prsL, h, prs, num_1]
 intro P r w0 kp kM hrP
 refine line_any P r w0 kM _ zDc (OneQ P [111, 107] w0) (fun h' => ?_) (fun f ns ts h' W nv tv hb hn ht => ?_)
 · rw [hl, hp] at h'
   cases h'
 · rw [hl, hp] at h'
   injection h' with h'
   injection h' with h1 h2
   injection h2 with h2 h3
   subst h1 h2 h3
   obtain ⟨gn, cn, rfl, hgn⟩ := own_one hn
   obtain ⟨gt, ct, rfl, hgt⟩ : ∃ gt ct, tv = .slice (some ⟨gt, 0, none⟩) 1 ct ∧ w0.heap.size ≤ gt := by
    rcases ht.2 with ⟨_, hz⟩ | ⟨g, cap, cur, hv, hg, _⟩
    · simp at hz
    · exact ⟨g, cap, hv, hg⟩
   have kpW := kp.below hb
   have hPl := kp.arr.lt
   have hs := hb.size
   have q := image_any P W.heap.size gn cn gt ct 1 1 ⟨#[120]⟩ iniX (.pointer none) (.slice none 0 0) [] W kpW (.inl rfl) (World.ownsRow_nil _ _ _ _) kpW.arr.lt (Nat.le_refl _) zDc (Sl.of_own hn) (Sl.of_own ht) zDc zDc zDc zDc (shaa_lt _) zero_pub zero_mul
   refine q.mono ?_
   rintro e W' ⟨he, um, ul, u', kp', ko', hcp⟩
   exact .inl ⟨he, (Ch.of_below hb).cp hcp (by simp) zOm, W.heap.size, _, u', kp', ko', by omega⟩
theorem ok_new : OneL [110, 101, 119, 32, 49, 32, 48] [111, 107] := by
 have hl : lns 32 (⟨#[110, 101, 119, 32, 49, 32, 48]⟩ : ByteArray).data.toList = [[110, 101, 119], [49], [48]] := by decide
 have h : cmdF [110, 101, 119] cmdT = some ([78, 78], 22) := by decide
 have hp : prsL [[110, 101, 119], [49], [48]] = some (22, [1, 0], []) := by simp [prsL, h, prs, num_1, num_0]
 intro P r w0 kp kM hrP
 refine line_any P r w0 kM _ zDc (OneQ P [111, 107] w0) (fun h' => ?_) (fun f ns ts h' W nv tv hb hn ht => ?_)
 · rw [hl, hp] at h'
   cases h'
 · rw [hl, hp] at h'
   injection h' with h'
   injection h' with h1 h2
   injection h2 with h2 h3
   subst h1 h2 h3
   obtain ⟨gn, cn, rfl, hgn⟩ := own_one hn
   have kpW := kp.below hb
   have hPl := kp.arr.lt
   have hs := hb.size
   have q := fresh_end P gn cn 1 tv iniX W kpW (Sl.of_own hn) zOm
   refine q.mono ?_
   rintro e W' ⟨pf, q, g, d, c, k, r1, s1, B, X, u, he, -, -, -, -, -, -, -, -, -, kp', ko, -, hwB, -, -, -, -, -, -, -, -, -, -, -, hC⟩
   exact .inl ⟨he, (Ch.of_below hb).trans hC, B, X, u, kp', ko, by omega⟩
theorem alive29 (w : World) : Calls Tryz.prog 6 #[] w fun e w' => e = .returned (.bool true) ∧ Below w.heap.size w w' := by
 have cP := zH (show Calls Tryz.prog 8 #[.string ⟨#[110, 101, 119, 32, 49, 32, 49, 48, 48, 10, 98, 111, 111, 116, 10]⟩] w fun e w' => e = .returned (.string ⟨#[111, 107, 10, 101, 114, 114, 111, 114, 32, 49, 56, 10]⟩) ∧ Below w.heap.size w w' from alive_play w)
 go_enter Tryz.func6, Tryz.ntmps6
 go_wp2_with fail
 refine cP.out.mono ?_
 rintro e w1 ⟨rfl, hb⟩
 clear cP
 go_wp2_with fail
 go_ret
 exact ⟨rfl, hb⟩
def wrT : List (List UInt8 × List UInt8) := [
 ([120], [101, 114, 114, 111, 114, 32, 50]),
 ([102, 101, 101, 100, 32, 110, 111, 119], [101, 114, 114, 111, 114, 32, 50]),
 ([32, 102, 101, 101, 100], [101, 114, 114, 111, 114, 32, 50]),
 ([102, 101, 101, 100, 32], [101, 114, 114, 111, 114, 32, 50]),
 ([98, 108, 111, 99, 107], [101, 114, 114, 111, 114, 32, 50]),
 ([98, 108, 111, 99, 107, 32, 120], [101, 114, 114, 111, 114, 32, 50]),
 ([98, 108, 111, 99, 107, 32, 48, 49], [101, 114, 114, 111, 114, 32, 50]),
 ([98, 108, 111, 99, 107, 32, 49, 50, 51, 52, 53, 54, 55], [101, 114, 114, 111, 114, 32, 50]),
 ([110, 101, 119, 32, 49], [101, 114, 114, 111, 114, 32, 50]),
 ([105, 109, 97, 103, 101, 32, 49, 32, 49], [101, 114, 114, 111, 114, 32, 50]),
 ([105, 109, 97, 103, 101, 32, 49, 32, 49, 32], [101, 114, 114, 111, 114, 32, 50]),
 ([112, 111, 107, 101, 32, 49, 32], [101, 114, 114, 111, 114, 32, 50]),
 ([99, 114, 97, 115, 104, 32, 49], [101, 114, 114, 111, 114, 32, 50]),
 ([102, 101, 101, 100], [101, 114, 114, 111, 114, 32, 49]),
 ([98, 108, 111, 99, 107, 32, 48], [101, 114, 114, 111, 114, 32, 49]),
 ([98, 108, 111, 99, 107, 115], [101, 114, 114, 111, 114, 32, 49]),
 ([99, 111, 109, 109, 105, 116], [101, 114, 114, 111, 114, 32, 49]),
 ([98, 111, 111, 116], [101, 114, 114, 111, 114, 32, 49]),
 ([99, 111, 110, 102, 105, 114, 109], [101, 114, 114, 111, 114, 32, 49]),
 ([114, 101, 97, 100, 32, 48], [101, 114, 114, 111, 114, 32, 49]),
 ([114, 101, 118, 111, 107, 101, 32, 49], [101, 114, 114, 111, 114, 32, 49]),
 ([113, 117, 111, 116, 101], [101, 114, 114, 111, 114, 32, 49]),
 ([115, 116, 97, 116, 101], [101, 114, 114, 111, 114, 32, 49]),
 ([99, 114, 97, 115, 104, 32, 49, 32, 49], [101, 114, 114, 111, 114, 32, 49]),
 ([99, 121, 99, 108, 101], [101, 114, 114, 111, 114, 32, 49]),
 ([112, 111, 107, 101, 32, 49, 32, 120], [101, 114, 114, 111, 114, 32, 49]),
 ([105, 109, 97, 103, 101, 32, 49, 32, 49, 32, 120], [111, 107]),
 ([110, 101, 119, 32, 49, 32, 48], [111, 107])]
def wrP (p : List UInt8 × List UInt8) : Prop := ∀ w, Calls Tryz.prog 8 #[.string ⟨(p.1 ++ [10]).toArray⟩] w fun e w' => e = .returned (.string ⟨(p.2 ++ [10]).toArray⟩) ∧ Below w.heap.size w w'
theorem skp_no {x : List UInt8} (h : decide (x ≠ [] ∧ x[0]? ≠ some 35) = true) : ¬ skp x := fun hs => by
 have h := of_decide_eq_true h
 rcases hs with hs | hs
 · exact h.1 hs
 · exact h.2 hs
theorem wr_all : ∀ p ∈ wrT, wrP p := by
 unfold wrT
 intro p hp
 simp only [List.mem_cons, List.not_mem_nil, or_false] at hp
 rcases hp with rfl | rfl | rfl | rfl | rfl | rfl | rfl | rfl | rfl | rfl | rfl | rfl | rfl | rfl | rfl | rfl | rfl | rfl | rfl | rfl | rfl | rfl | rfl | rfl | rfl | rfl | rfl | rfl
 · exact fun w => one_play _ _ zDc zDc zDc (skp_no zDc) bad_0 w
 · exact fun w => one_play _ _ zDc zDc zDc (skp_no zDc) bad_1 w
 · exact fun w => one_play _ _ zDc zDc zDc (skp_no zDc) bad_2 w
 · exact fun w => one_play _ _ zDc zDc zDc (skp_no zDc) bad_3 w
 · exact fun w => one_play _ _ zDc zDc zDc (skp_no zDc) bad_4 w
 · exact fun w => one_play _ _ zDc zDc zDc (skp_no zDc) bad_5 w
 · exact fun w => one_play _ _ zDc zDc zDc (skp_no zDc) bad_6 w
 · exact fun w => one_play _ _ zDc zDc zDc (skp_no zDc) bad_7 w
 · exact fun w => one_play _ _ zDc zDc zDc (skp_no zDc) bad_8 w
 · exact fun w => one_play _ _ zDc zDc zDc (skp_no zDc) bad_9 w
 · exact fun w => one_play _ _ zDc zDc zDc (skp_no zDc) bad_10 w
 · exact fun w => one_play _ _ zDc zDc zDc (skp_no zDc) bad_11 w
 · exact fun w => one_play _ _ zDc zDc zDc (skp_no zDc) bad_12 w
 · exact fun w => one_play _ _ zDc zDc zDc (skp_no zDc) no_0 w
 · exact fun w => one_play _ _ zDc zDc zDc (skp_no zDc) no_1 w
 · exact fun w => one_play _ _ zDc zDc zDc (skp_no zDc) no_2 w
 · exact fun w => one_play _ _ zDc zDc zDc (skp_no zDc) no_3 w
 · exact fun w => one_play _ _ zDc zDc zDc (skp_no zDc) no_4 w
 · exact fun w => one_play _ _ zDc zDc zDc (skp_no zDc) no_5 w
 · exact fun w => one_play _ _ zDc zDc zDc (skp_no zDc) no_6 w
 · exact fun w => one_play _ _ zDc zDc zDc (skp_no zDc) no_7 w
 · exact fun w => one_play _ _ zDc zDc zDc (skp_no zDc) no_8 w
 · exact fun w => one_play _ _ zDc zDc zDc (skp_no zDc) no_9 w
 · exact fun w => one_play _ _ zDc zDc zDc (skp_no zDc) no_10 w
 · exact fun w => one_play _ _ zDc zDc zDc (skp_no zDc) no_11 w
 · exact fun w => one_play _ _ zDc zDc zDc (skp_no zDc) no_12 w
 · exact fun w => one_play _ _ zDc zDc zDc (skp_no zDc) ok_image w
 · exact fun w => one_play _ _ zDc zDc zDc (skp_no zDc) ok_new w
theorem info_str : (Tryz.prog.info? 9).map (fun i => (i.zero, i.size, i.bytes)) = some (some (.string ⟨#[]⟩), 1, 16) := by kernel_rfl
theorem info_str' : ∃ i, Tryz.prog.info? 9 = some i ∧ i.zero = some (.string ⟨#[]⟩) ∧ i.size = 1 := by
 have h := info_str
 cases hi : Tryz.prog.info? 9 with
 | none => rw [hi] at h; cases h
 | some i =>
  rw [hi] at h
  simp only [Option.map_some, Option.some.injEq, Prod.mk.injEq] at h
  exact ⟨i, rfl, h.1, h.2.1⟩
theorem strs_cells : ∀ T : List (List UInt8), (strs T).flatMap (fun v => v.cells.toList) = strs T
 | [] => rfl
 | x :: l => by
  have ih := strs_cells l
  unfold strs at *
  rw [List.map_cons, List.flatMap_cons, ih]
  rfl
theorem wpList_buildS {Q : Exit → Act → World → Prop} {ops : Array Oper} {rest : List Oper} {o : Oper} {a : Act} {w : World} (hg : o.guard = none) (t : TypeId) (n : Nat) (parts : Array (Nat × Operand)) (ho : o.op = .buildSlice t n parts) (T : List (List UInt8)) (hn : n = T.length) (h0 : 0 < T.length) (h9 : T.length ≤ 1000)
 (hu : Tryz.prog.underlying t = some (.slice 9)) (hf : (parts.map fun (i, x) => (i, a.eval x)).toList = ((strs T).zipIdx 0).map fun x => (x.2, x.1))
 (h : ∀ w', Arr w' w.heap.size (strs T) → Below w.heap.size w w' → w.heap.size < w'.heap.size → wpList Tryz.prog ops Q rest (a.put o.dst (.slice (some ⟨w.heap.size, 0, none⟩) n n)) w') : wpList Tryz.prog ops Q (o :: rest) a w := by
 obtain ⟨i, h1, h2, h3⟩ := info_str'
 subst hn
 refine wpList_buildSlice hg t _ _ parts ho (strs T).toArray i _ hu h1 h2 (by rw [h3]; omega) (by rw [h3]; omega) ?_ (h _ (Arr.new _ _ _) (below_alloc _ _) (by simp))
 rw [h3, hf, Great.fill_whole zDc _ _ (by intro v hv; obtain ⟨p, -, rfl⟩ := List.mem_map.1 hv; rfl) (by simp [strs])]
 rw [strs_cells]
theorem app10 (x : List UInt8) : (⟨(x ++ [10]).toArray⟩ : ByteArray) = ⟨x.toArray⟩ ++ ⟨#[10]⟩ := ByteArray.ext (by simp)
theorem portcullisWrong_walk (a0 : Int) (w : World) (_ : (Lit.int .i64 a0).wf = true) :
 Calls Tryz.prog 5 #[.int .i64 a0] w fun e w' => e = .returned (.bool true) ∧ Below w.heap.size w w' := by
 have cA := zH (fun w => alive29 w)
 have hTl : (wrT.map (·.1)).length = 28 := rfl
 obtain ⟨T1, hT1⟩ : ∃ T, wrT.map (·.1) = T := ⟨_, rfl⟩
 obtain ⟨T2, hT2⟩ : ∃ T, wrT.map (·.2) = T := ⟨_, rfl⟩
 have hl1 : T1.length = 28 := by rw [← hT1]; rfl
 have hl2 : T2.length = 28 := by rw [← hT2]; rfl
 have hp : Hid (∀ (i : Nat) x o, T1[i]? = some x → T2[i]? = some o → wrP (x, o)) := zH (fun i x o h1 h2 => by
  rw [← hT1, List.getElem?_map] at h1
  rw [← hT2, List.getElem?_map] at h2
  obtain ⟨p, hp, rfl⟩ := Option.map_eq_some_iff.1 h1
  obtain ⟨p', hp', rfl⟩ := Option.map_eq_some_iff.1 h2
  rw [hp] at hp'
  cases hp'
  exact wr_all p (List.mem_of_getElem? hp))
 have hs1 : Hid (∀ x ∈ T1, x.length ≤ 20) := zH (by rw [← hT1]; decide)
 have hs2 : Hid (∀ x ∈ T2, x.length ≤ 20) := zH (by rw [← hT2]; decide)
 have hlH1 := zH hl1
 have hlH2 := zH hl2
 go_enter Tryz.func5, Tryz.ntmps5
 go_wp2_with fail
 refine (cA.out _).mono ?_
 rintro e w1 ⟨rfl, kb⟩
 clear cA
 go_upto_region 3 with (refine wpList_buildS rfl _ _ _ rfl T1 hl1.symm zOm zOm Tryz.underlying28 (by rw [← hT1]; kernel_rfl) (fun w2 k2 hb2 hs2 => ?_))
 replace kb := bel kb hb2
 go_upto_region 4 with (refine wpList_buildS rfl _ _ _ rfl T2 hl2.symm zOm zOm Tryz.underlying28 (by rw [← hT2]; kernel_rfl) (fun w3 k3 hb3 hs3 => ?_))
 replace kb := bel kb hb3
 replace k2 := k2.below hb3
 obtain ⟨g1, hg1⟩ : ∃ g, w1.heap.size = g := ⟨_, rfl⟩
 obtain ⟨g2, hg2⟩ : ∃ g, w2.heap.size = g := ⟨_, rfl⟩
 rw [hg1] at k2 ⊢
 rw [hg2] at k3 ⊢
 clear hT1 hT2 hTl hl1 hl2 hb2 hb3 hs2 hs3 hg1 hg2
 by_cases h1 : a0 < 0
 · go_wp2_with fail
   go_ret
   exact ⟨rfl, kb⟩
 by_cases h2 : 28 ≤ a0
 · go_wp2_with fail
   go_ret
   exact ⟨rfl, kb⟩
 obtain ⟨i, rfl⟩ : ∃ i : Nat, (i : Int) = a0 := ⟨a0.toNat, by omega⟩
 have hi : i < 28 := by omega
 obtain ⟨x, hx⟩ : ∃ x, T1[i]? = some x := ⟨T1[i]'(by rw [hlH1.out]; exact hi), List.getElem?_eq_getElem _⟩
 obtain ⟨o, ho⟩ : ∃ x, T2[i]? = some x := ⟨T2[i]'(by rw [hlH2.out]; exact hi), List.getElem?_eq_getElem _⟩
 have cP := zH (fun w => (app10 x ▸ app10 o ▸ hp.out i x o hx ho w : Calls Tryz.prog 8 #[.string (⟨x.toArray⟩ ++ ⟨#[10]⟩)] w fun e w' => e = .returned (.string (⟨o.toArray⟩ ++ ⟨#[10]⟩)) ∧ Below w.heap.size w w'))
 have lx : ¬ 9223372036854775807 < x.length + 1 := by have := hs1.out x (List.mem_of_getElem? hx); omega
 have lo : ¬ 9223372036854775807 < o.length + 1 := by have := hs2.out o (List.mem_of_getElem? ho); omega
 have q1 : Hid (∀ w', Arr w' g1 (strs T1) → w'.cell? ⟨g1, i, none⟩ = some (.string ⟨x.toArray⟩)) := zH (fun w' h => h.cell (by rw [strs, List.getElem?_map, hx]; rfl))
 have q2 : Hid (∀ w', Arr w' g2 (strs T2) → w'.cell? ⟨g2, i, none⟩ = some (.string ⟨o.toArray⟩)) := zH (fun w' h => h.cell (by rw [strs, List.getElem?_map, ho]; rfl))
 have i0 : (0 : Int) ≤ (i : Int) := by omega
 have i1 : (i : Int) < 28 := by omega
 have d1 : decide ((i : Int) < 0) = false := decide_eq_false h1
 have d2 : decide ((28 : Int) ≤ (i : Int)) = false := decide_eq_false h2
 clear hx ho hp hi h1 h2 hs1 hs2
 go_upto_region 6 with fail
 refine Tx.start (fun w' => Below (w3).heap.size (w3) w') 9999 13 rfl zKr ?_
 have hS_1 : Below (w3).heap.size (w3) (World.drew w3) := (Below.refl _ _).drew
 refine Tx.seg (A := ?_) 3 2015 zKr (by exact hS_1) [0, 1, 2, 3, 4, 6, 7, 8, 9, 10] zKr ?_ ?_
 rotate_left
 · intro w' hB
   have y1 := q1.out w' (k2.below hB)
   have y2 := q2.out w' (k3.below hB)
   exact zRd
 refine Tx.eff 5 2047 rfl zDk (fun K hK => ?_)
 go_simp
 refine (cP.out _).mono ?_
 rintro e w_2 ⟨rfl, hb_2⟩
 have hS_2 := ext_trans hS_1 (Nat.le_refl _) hb_2
 refine hK (fun w' => Below (w3).heap.size (w3) w') _ _ hS_2 (fun _ h => h) ?_
 clear hK K hb_2 hS_1
 try simp only [Act.put, zSa, zSz, zSs]
 refine Tx.seg (A := ?_) 0 8191 zKr (by exact hS_2) [11, 12] zKr ?_ ?_
 rotate_left
 · intro w' hB
   exact zRd
 refine Tx.done zKr ?_
 have kb4 := bel kb hS_2
 go_wp2_with fail
 go_ret
 exact ⟨rfl, kb4⟩
theorem head_signs : Tryz.prog.initOrder = String.ofList [Char.ofNat 104, Char.ofNat 97, Char.ofNat 114, Char.ofNat 110, Char.ofNat 101, Char.ofNat 115, Char.ofNat 115, Char.ofNat 32, Char.ofNat 56, Char.ofNat 49, Char.ofNat 54, Char.ofNat 99, Char.ofNat 97, Char.ofNat 51, Char.ofNat 101, Char.ofNat 50, Char.ofNat 54, Char.ofNat 55, Char.ofNat 56, Char.ofNat 51, Char.ofNat 100, Char.ofNat 100, Char.ofNat 101, Char.ofNat 99, Char.ofNat 52, Char.ofNat 99, Char.ofNat 102, Char.ofNat 55, Char.ofNat 97, Char.ofNat 56, Char.ofNat 54, Char.ofNat 49, Char.ofNat 50, Char.ofNat 52, Char.ofNat 98, Char.ofNat 54, Char.ofNat 48, Char.ofNat 50, Char.ofNat 54, Char.ofNat 49, Char.ofNat 54, Char.ofNat 98, Char.ofNat 49, Char.ofNat 57, Char.ofNat 54, Char.ofNat 54, Char.ofNat 57, Char.ofNat 49, Char.ofNat 97, Char.ofNat 98, Char.ofNat 48, Char.ofNat 52, Char.ofNat 100, Char.ofNat 50, Char.ofNat 53, Char.ofNat 54, Char.ofNat 48, Char.ofNat 48, Char.ofNat 98, Char.ofNat 100, Char.ofNat 50, Char.ofNat 56, Char.ofNat 50, Char.ofNat 101, Char.ofNat 100, Char.ofNat 99, Char.ofNat 48, Char.ofNat 98, Char.ofNat 51, Char.ofNat 52, Char.ofNat 49, Char.ofNat 102, Char.ofNat 32, Char.ofNat 99, Char.ofNat 117, Char.ofNat 116, Char.ofNat 32, Char.ofNat 97, Char.ofNat 116, Char.ofNat 32, Char.ofNat 112, Char.ofNat 111, Char.ofNat 114, Char.ofNat 116, Char.ofNat 99, Char.ofNat 117, Char.ofNat 108, Char.ofNat 108, Char.ofNat 105, Char.ofNat 115, Char.ofNat 47, Char.ofNat 112, Char.ofNat 111, Char.ofNat 114, Char.ofNat 116, Char.ofNat 99, Char.ofNat 117, Char.ofNat 108, Char.ofNat 108, Char.ofNat 105, Char.ofNat 115, Char.ofNat 108, Char.ofNat 97, Char.ofNat 119, Char.ofNat 50, Char.ofNat 57, Char.ofNat 46, Char.ofNat 80, Char.ofNat 111, Char.ofNat 114, Char.ofNat 116, Char.ofNat 99, Char.ofNat 117, Char.ofNat 108, Char.ofNat 108, Char.ofNat 105, Char.ofNat 115, Char.ofNat 83, Char.ofNat 112, Char.ofNat 108, Char.ofNat 105, Char.ofNat 116, Char.ofNat 32, Char.ofNat 112, Char.ofNat 111, Char.ofNat 114, Char.ofNat 116, Char.ofNat 99, Char.ofNat 117, Char.ofNat 108, Char.ofNat 108, Char.ofNat 105, Char.ofNat 115, Char.ofNat 47, Char.ofNat 112, Char.ofNat 111, Char.ofNat 114, Char.ofNat 116, Char.ofNat 99, Char.ofNat 117, Char.ofNat 108, Char.ofNat 108, Char.ofNat 105, Char.ofNat 115, Char.ofNat 108, Char.ofNat 97, Char.ofNat 119, Char.ofNat 50, Char.ofNat 57, Char.ofNat 46, Char.ofNat 80, Char.ofNat 111, Char.ofNat 114, Char.ofNat 116, Char.ofNat 99, Char.ofNat 117, Char.ofNat 108, Char.ofNat 108, Char.ofNat 105, Char.ofNat 115, Char.ofNat 76, Char.ofNat 111, Char.ofNat 110, Char.ofNat 103, Char.ofNat 32, Char.ofNat 112, Char.ofNat 111, Char.ofNat 114, Char.ofNat 116, Char.ofNat 99, Char.ofNat 117, Char.ofNat 108, Char.ofNat 108, Char.ofNat 105, Char.ofNat 115, Char.ofNat 47, Char.ofNat 112, Char.ofNat 111, Char.ofNat 114, Char.ofNat 116, Char.ofNat 99, Char.ofNat 117, Char.ofNat 108, Char.ofNat 108, Char.ofNat 105, Char.ofNat 115, Char.ofNat 108, Char.ofNat 97, Char.ofNat 119, Char.ofNat 50, Char.ofNat 57, Char.ofNat 46, Char.ofNat 80, Char.ofNat 111, Char.ofNat 114, Char.ofNat 116, Char.ofNat 99, Char.ofNat 117, Char.ofNat 108, Char.ofNat 108, Char.ofNat 105, Char.ofNat 115, Char.ofNat 87, Char.ofNat 114, Char.ofNat 111, Char.ofNat 110, Char.ofNat 103] := by kernel_rfl
theorem head_list : Tryz.prog.initOrder.toList = [Char.ofNat 104, Char.ofNat 97, Char.ofNat 114, Char.ofNat 110, Char.ofNat 101, Char.ofNat 115, Char.ofNat 115, Char.ofNat 32, Char.ofNat 56, Char.ofNat 49, Char.ofNat 54, Char.ofNat 99, Char.ofNat 97, Char.ofNat 51, Char.ofNat 101, Char.ofNat 50, Char.ofNat 54, Char.ofNat 55, Char.ofNat 56, Char.ofNat 51, Char.ofNat 100, Char.ofNat 100, Char.ofNat 101, Char.ofNat 99, Char.ofNat 52, Char.ofNat 99, Char.ofNat 102, Char.ofNat 55, Char.ofNat 97, Char.ofNat 56, Char.ofNat 54, Char.ofNat 49, Char.ofNat 50, Char.ofNat 52, Char.ofNat 98, Char.ofNat 54, Char.ofNat 48, Char.ofNat 50, Char.ofNat 54, Char.ofNat 49, Char.ofNat 54, Char.ofNat 98, Char.ofNat 49, Char.ofNat 57, Char.ofNat 54, Char.ofNat 54, Char.ofNat 57, Char.ofNat 49, Char.ofNat 97, Char.ofNat 98, Char.ofNat 48, Char.ofNat 52, Char.ofNat 100, Char.ofNat 50, Char.ofNat 53, Char.ofNat 54, Char.ofNat 48, Char.ofNat 48, Char.ofNat 98, Char.ofNat 100, Char.ofNat 50, Char.ofNat 56, Char.ofNat 50, Char.ofNat 101, Char.ofNat 100, Char.ofNat 99, Char.ofNat 48, Char.ofNat 98, Char.ofNat 51, Char.ofNat 52, Char.ofNat 49, Char.ofNat 102, Char.ofNat 32, Char.ofNat 99, Char.ofNat 117, Char.ofNat 116, Char.ofNat 32, Char.ofNat 97, Char.ofNat 116, Char.ofNat 32, Char.ofNat 112, Char.ofNat 111, Char.ofNat 114, Char.ofNat 116, Char.ofNat 99, Char.ofNat 117, Char.ofNat 108, Char.ofNat 108, Char.ofNat 105, Char.ofNat 115, Char.ofNat 47, Char.ofNat 112, Char.ofNat 111, Char.ofNat 114, Char.ofNat 116, Char.ofNat 99, Char.ofNat 117, Char.ofNat 108, Char.ofNat 108, Char.ofNat 105, Char.ofNat 115, Char.ofNat 108, Char.ofNat 97, Char.ofNat 119, Char.ofNat 50, Char.ofNat 57, Char.ofNat 46, Char.ofNat 80, Char.ofNat 111, Char.ofNat 114, Char.ofNat 116, Char.ofNat 99, Char.ofNat 117, Char.ofNat 108, Char.ofNat 108, Char.ofNat 105, Char.ofNat 115, Char.ofNat 83, Char.ofNat 112, Char.ofNat 108, Char.ofNat 105, Char.ofNat 116, Char.ofNat 32, Char.ofNat 112, Char.ofNat 111, Char.ofNat 114, Char.ofNat 116, Char.ofNat 99, Char.ofNat 117, Char.ofNat 108, Char.ofNat 108, Char.ofNat 105, Char.ofNat 115, Char.ofNat 47, Char.ofNat 112, Char.ofNat 111, Char.ofNat 114, Char.ofNat 116, Char.ofNat 99, Char.ofNat 117, Char.ofNat 108, Char.ofNat 108, Char.ofNat 105, Char.ofNat 115, Char.ofNat 108, Char.ofNat 97, Char.ofNat 119, Char.ofNat 50, Char.ofNat 57, Char.ofNat 46, Char.ofNat 80, Char.ofNat 111, Char.ofNat 114, Char.ofNat 116, Char.ofNat 99, Char.ofNat 117, Char.ofNat 108, Char.ofNat 108, Char.ofNat 105, Char.ofNat 115, Char.ofNat 76, Char.ofNat 111, Char.ofNat 110, Char.ofNat 103, Char.ofNat 32, Char.ofNat 112, Char.ofNat 111, Char.ofNat 114, Char.ofNat 116, Char.ofNat 99, Char.ofNat 117, Char.ofNat 108, Char.ofNat 108, Char.ofNat 105, Char.ofNat 115, Char.ofNat 47, Char.ofNat 112, Char.ofNat 111, Char.ofNat 114, Char.ofNat 116, Char.ofNat 99, Char.ofNat 117, Char.ofNat 108, Char.ofNat 108, Char.ofNat 105, Char.ofNat 115, Char.ofNat 108, Char.ofNat 97, Char.ofNat 119, Char.ofNat 50, Char.ofNat 57, Char.ofNat 46, Char.ofNat 80, Char.ofNat 111, Char.ofNat 114, Char.ofNat 116, Char.ofNat 99, Char.ofNat 117, Char.ofNat 108, Char.ofNat 108, Char.ofNat 105, Char.ofNat 115, Char.ofNat 87, Char.ofNat 114, Char.ofNat 111, Char.ofNat 110, Char.ofNat 103] := by rw [head_signs, String.toList_ofList]
theorem head_first : ((behindMainWord (wordsSigns [Char.ofNat 104, Char.ofNat 97, Char.ofNat 114, Char.ofNat 110, Char.ofNat 101, Char.ofNat 115, Char.ofNat 115, Char.ofNat 32, Char.ofNat 56, Char.ofNat 49, Char.ofNat 54, Char.ofNat 99, Char.ofNat 97, Char.ofNat 51, Char.ofNat 101, Char.ofNat 50, Char.ofNat 54, Char.ofNat 55, Char.ofNat 56, Char.ofNat 51, Char.ofNat 100, Char.ofNat 100, Char.ofNat 101, Char.ofNat 99, Char.ofNat 52, Char.ofNat 99, Char.ofNat 102, Char.ofNat 55, Char.ofNat 97, Char.ofNat 56, Char.ofNat 54, Char.ofNat 49, Char.ofNat 50, Char.ofNat 52, Char.ofNat 98, Char.ofNat 54, Char.ofNat 48, Char.ofNat 50, Char.ofNat 54, Char.ofNat 49, Char.ofNat 54, Char.ofNat 98, Char.ofNat 49, Char.ofNat 57, Char.ofNat 54, Char.ofNat 54, Char.ofNat 57, Char.ofNat 49, Char.ofNat 97, Char.ofNat 98, Char.ofNat 48, Char.ofNat 52, Char.ofNat 100, Char.ofNat 50, Char.ofNat 53, Char.ofNat 54, Char.ofNat 48, Char.ofNat 48, Char.ofNat 98, Char.ofNat 100, Char.ofNat 50, Char.ofNat 56, Char.ofNat 50, Char.ofNat 101, Char.ofNat 100, Char.ofNat 99, Char.ofNat 48, Char.ofNat 98, Char.ofNat 51, Char.ofNat 52, Char.ofNat 49, Char.ofNat 102, Char.ofNat 32, Char.ofNat 99, Char.ofNat 117, Char.ofNat 116, Char.ofNat 32, Char.ofNat 97, Char.ofNat 116, Char.ofNat 32, Char.ofNat 112, Char.ofNat 111, Char.ofNat 114, Char.ofNat 116, Char.ofNat 99, Char.ofNat 117, Char.ofNat 108, Char.ofNat 108, Char.ofNat 105, Char.ofNat 115, Char.ofNat 47, Char.ofNat 112, Char.ofNat 111, Char.ofNat 114, Char.ofNat 116, Char.ofNat 99, Char.ofNat 117, Char.ofNat 108, Char.ofNat 108, Char.ofNat 105, Char.ofNat 115, Char.ofNat 108, Char.ofNat 97, Char.ofNat 119, Char.ofNat 50, Char.ofNat 57, Char.ofNat 46, Char.ofNat 80, Char.ofNat 111, Char.ofNat 114, Char.ofNat 116, Char.ofNat 99, Char.ofNat 117, Char.ofNat 108, Char.ofNat 108, Char.ofNat 105, Char.ofNat 115, Char.ofNat 83, Char.ofNat 112, Char.ofNat 108, Char.ofNat 105, Char.ofNat 116, Char.ofNat 32, Char.ofNat 112, Char.ofNat 111, Char.ofNat 114, Char.ofNat 116, Char.ofNat 99, Char.ofNat 117, Char.ofNat 108, Char.ofNat 108, Char.ofNat 105, Char.ofNat 115, Char.ofNat 47, Char.ofNat 112, Char.ofNat 111, Char.ofNat 114, Char.ofNat 116, Char.ofNat 99, Char.ofNat 117, Char.ofNat 108, Char.ofNat 108, Char.ofNat 105, Char.ofNat 115, Char.ofNat 108, Char.ofNat 97, Char.ofNat 119, Char.ofNat 50, Char.ofNat 57, Char.ofNat 46, Char.ofNat 80, Char.ofNat 111, Char.ofNat 114, Char.ofNat 116, Char.ofNat 99, Char.ofNat 117, Char.ofNat 108, Char.ofNat 108, Char.ofNat 105, Char.ofNat 115, Char.ofNat 76, Char.ofNat 111, Char.ofNat 110, Char.ofNat 103, Char.ofNat 32, Char.ofNat 112, Char.ofNat 111, Char.ofNat 114, Char.ofNat 116, Char.ofNat 99, Char.ofNat 117, Char.ofNat 108, Char.ofNat 108, Char.ofNat 105, Char.ofNat 115, Char.ofNat 47, Char.ofNat 112, Char.ofNat 111, Char.ofNat 114, Char.ofNat 116, Char.ofNat 99, Char.ofNat 117, Char.ofNat 108, Char.ofNat 108, Char.ofNat 105, Char.ofNat 115, Char.ofNat 108, Char.ofNat 97, Char.ofNat 119, Char.ofNat 50, Char.ofNat 57, Char.ofNat 46, Char.ofNat 80, Char.ofNat 111, Char.ofNat 114, Char.ofNat 116, Char.ofNat 99, Char.ofNat 117, Char.ofNat 108, Char.ofNat 108, Char.ofNat 105, Char.ofNat 115, Char.ofNat 87, Char.ofNat 114, Char.ofNat 111, Char.ofNat 110, Char.ofNat 103])).head? == some "cut".toList) = true := by kernel_rfl
theorem head_cut : ∃ r, behindMainWord (wordsSigns Tryz.prog.initOrder.toList) = "cut".toList :: r := by
 rw [head_list]
 exact List.head?_eq_some_iff.1 (eq_of_beq head_first)
theorem head_strip (r : List (List Char)) : stripLifts liftWords ("cut".toList :: r) = ([], "cut".toList :: r) := by kernel_rfl
theorem head_later : Tryz.prog.laysLater = false := by kernel_rfl
theorem head_reflect : Tryz.prog.bearsReflect = false := by kernel_rfl
theorem head_door : Tryz.prog.doorFits [] = true := by kernel_rfl
theorem enter_of (P : Program) (r : List (List Char)) (h : behindMainWord (wordsSigns P.initOrder.toList) = "cut".toList :: r) (h1 : P.laysLater = false) (h2 : P.bearsReflect = false) (h3 : P.doorFits [] = true) : P.mayEnter = true := by
 unfold Program.mayEnter
 rw [h]
 simp only [head_strip, h1, h2, h3]
 simp
theorem none_of (P : Program) (r : List (List Char)) (h : behindMainWord (wordsSigns P.initOrder.toList) = "cut".toList :: r) : P.headLifts = [] := by
 unfold Program.headLifts
 rw [h]
 simp only [head_strip]
 simp
theorem lifts_of (P : Program) (r : List (List Char)) (h : behindMainWord (wordsSigns P.initOrder.toList) = "cut".toList :: r) : P.liftsFinal = false := by
 unfold Program.liftsFinal
 rw [h, none_of P r h]
 simp
theorem make_of (P : Program) (r : List (List Char)) (h : behindMainWord (wordsSigns P.initOrder.toList) = "cut".toList :: r) : P.make = some .cut := by
 unfold Program.make
 rw [h]
 simp
theorem head_enter : Tryz.prog.mayEnter = true := by
 obtain ⟨r, h⟩ := head_cut
 exact enter_of _ r h head_later head_reflect head_door
theorem head_lifts : Tryz.prog.liftsFinal = false := by
 obtain ⟨r, h⟩ := head_cut
 exact lifts_of _ r h
theorem head_make : Tryz.prog.make = some .cut := by
 obtain ⟨r, h⟩ := head_cut
 exact make_of _ r h
end Go.Proofs.YtibdgkhkhmdihaaGreatDoor
