import Derived.Test.YtibdgkhkhmdihaaGreatDoorJa21
import Derived.Test.YtibdgkhkhmdihaaGreatDoorJa08
import Derived.Test.YtibdgkhkhmdihaaGreatDoorJa11
import Derived.Test.YtibdgkhkhmdihaaGreatDoorJa27
import Derived.Test.YtibdgkhkhmdihaaGreatDoorJa06
import Derived.Test.YtibdgkhkhmdihaaGreatDoorJa29
import Derived.Test.YtibdgkhkhmdihaaGreatDoorJa28
import Derived.Test.YtibdgkhkhmdihaaGreatDoorJa26

namespace Go.Proofs.YtibdgkhkhmdihaaGreatDoor
open Go.RowKit
/-- A secret of a seed, by its name. -/
def ofN (seed : Int) (nm : List UInt8) : Nat := shaa (be8s [seed] ++ nm)
set_option maxHeartbeats 2000000 in
set_option maxRecDepth 100000 in
theorem of1_any (seed : Int) (name : ByteArray) (hsz : name.size ≤ maxLen) (b : Nat) (w : World) (hs : w.cell? ⟨b, 0, none⟩ = some (.int .i64 seed)) :
    Calls Tryz.prog 19 #[.string name, .pointer (some ⟨b, 0, none⟩)] w fun e w' => e = .returned (.agg (bytn 32 (ofN seed name.data.toList)).toArray) ∧ Below w.heap.size w w' := by
  obtain ⟨R, hR⟩ : ∃ R, ofN seed name.data.toList = R := ⟨_, rfl⟩
  have hcell : Hid (Cells w ⟨b, 0, none⟩ [.int .i64 seed]) := Lib.hid (fun j u hu => by
    match j, hu with
    | 0, hu => simp at hu; subst hu; exact hs)
  have cP := Lib.hid (fun (w : World) g (h : Sl w (.slice (some ⟨g, 0, none⟩) 1 1) [.int .i64 seed]) => packInt_any (.slice none 0 0) (.slice (some ⟨g, 0, none⟩) 1 1) [] [seed] w (Sl.nil w) h (show 0 + 8 * 1 ≤ 140737488355328 by decide))
  have cv := Lib.hid (fun w => conv_str w name hsz)
  have cS := Lib.hid (fun (w : World) g (h : Sls w (.slice (some ⟨g, 0, none⟩) 2 2) [be8s [seed], name.data.toList]) => show Calls Tryz.prog 20 #[.slice (some ⟨g, 0, none⟩) 2 2] w fun e w' => e = .returned (.agg (bytn 32 R).toArray) ∧ Below w.heap.size w w' from by
    have q := shsuma_any (some ⟨g, 0, none⟩) 2 [be8s [seed], name.data.toList] w h
    rw [show [be8s [seed], name.data.toList].flatten = be8s [seed] ++ name.data.toList by simp, show shaa (be8s [seed] ++ name.data.toList) = R from hR] at q
    exact q)
  rw [hR]
  clear hR hs hsz
  go_enter Tryz.func19, Tryz.ntmps19
  go_upto_region 1 with fail
  refine wp_new1 (fun W hsz k2 kb => ?_)
  replace k2 : Arr W w.heap.size (bytn 32 0) := k2
  have hc1 : W.cell? ⟨b, 0, none⟩ = some (.int .i64 seed) := by
    have := (hcell.out.below kb) 0 _ rfl
    simpa [Addr.add] using this
  have kb2 := below_alloc W (.cells #[.int .i64 seed] 3)
  have h2 := Lib.hid (Sl.new1 W (.int .i64 seed) 3)
  clear hsz hcell
  go_wp2_with fail
  refine (cP.out _ _ h2.out).mono ?_
  rintro e w1 ⟨v, rfl, hv, hb⟩
  replace hb := bel kb2 hb
  replace k2 := k2.below hb
  replace kb := bel kb hb
  rw [List.nil_append] at hv
  obtain ⟨av, nv, cav, rfl⟩ : ∃ a n c, v = .slice a n c := by obtain ⟨a, c, h, -⟩ := Sl.of_own hv; exact ⟨_, _, _, h⟩
  have hv1 := Lib.hid (Sl.of_own hv)
  clear hb kb2 h2 cP hc1 hv
  obtain ⟨c, wB, hr, hS, hb⟩ := cv.out w1
  have hw1 := Lib.hid (hv1.out.below hb)
  replace k2 := k2.below hb
  replace kb := bel kb hb
  have kb2 := below_alloc wB (.cells #[.slice av nv cav, .slice (some ⟨w1.heap.size, 0, none⟩) name.size c] 26)
  have h2 := Lib.hid (Sls.new2 hw1.out hS 26)
  clear hS hb cv hv1
  obtain ⟨nz, hnz⟩ : ∃ n, name.size = n := ⟨_, rfl⟩
  rw [hnz] at hr kb2 h2
  clear hnz
  go_wp2_with fail
  refine (cS.out _ _ h2.out).mono ?_
  rintro e w2 ⟨rfl, hb⟩
  replace hb := bel kb2 hb
  replace k2 := k2.below hb
  replace kb := bel kb hb
  clear hb kb2 h2 cS hr
  go_wp2_with (refine wpList_store_arr rfl _ _ _ rfl _ _ rfl rfl _ (by first | assumption | exact Arr.new _ _ _) (by first | (rw [lims_len]; kernel_rfl) | (rw [el_rep]; kernel_rfl) | (rw [el_len]; kernel_rfl) | (rw [byts_len]; kernel_rfl) | (rw [us_len]; kernel_rfl) | (rw [bytn_len]; kernel_rfl) | (rw [ens_len, digs_len]; kernel_rfl) | (rw [ptL_len]; kernel_rfl) | (rw [pcs_len]; kernel_rfl) | kernel_rfl) (by first | (rw [lims_len, lims_len]) | (rw [el_rep, el_rep]) | (rw [el_rep, el_len]; rfl) | (rw [el_len, el_rep]; rfl) | (rw [el_len, el_len]; rfl) | (rw [byts_len, byts_len]) | (rw [lims_len]; rfl) | (rw [byts_len]; rfl) | (rw [us_len, us_len]; rfl) | (rw [bytn_len, bytn_len]) | (rw [bytn_len]; rfl) | (rw [ptL_len, ptL_len]) | (rw [pcs_len, pcs_len]) | (rw [ptL_len, pcs_len]) | (rw [pcs_len, ptL_len]) | (rw [ens_len, ens_len, digs_len, digs_len]) | rfl) (by first | exact lims_one _ _ | exact el_one _ | exact byts_one _ | exact us_one _ | exact bytn_one _ _ | exact ens_one _ | exact ptL_one _ _ _ _ | exact pcs_one _ | (intro v hv; simp at hv; rcases hv with rfl | rfl | rfl | rfl <;> rfl)) ?_)
  exact bodyPost_ret (results_arr2 Tryz.results19 _ _ _ rfl (by kernel_rfl) _ (by first | assumption | exact Arr.setRow (by assumption) _) (by first | (rw [lims_len]; kernel_rfl) | (rw [el_rep]; kernel_rfl) | (rw [el_len]; kernel_rfl) | (rw [byts_len]; kernel_rfl) | (rw [us_len]; kernel_rfl) | (rw [bytn_len]; kernel_rfl) | (rw [ens_len, digs_len]; kernel_rfl) | (rw [ptL_len]; kernel_rfl) | (rw [pcs_len]; kernel_rfl) | kernel_rfl)) rfl ⟨rfl, below_setRow kb (Nat.le_refl _) _⟩
def rootL : List UInt8 := [114, 111, 111, 116]
def signerL : List UInt8 := [115, 105, 103, 110, 101, 114]
def deviceL : List UInt8 := [100, 101, 118, 105, 99, 101]
def keyL : List UInt8 := [107, 101, 121]
/-- The secrets of a seed. -/
def ofL (seed : Int) : List Value := setL (ofN seed rootL) (ofN seed signerL) (ofN seed deviceL) (ofN seed keyL)
theorem setL_one (r s d k : Nat) : ∀ v ∈ setL r s d k, v.oneCell' = true := by
  intro v hv
  simp only [setL, List.mem_append] at hv
  rcases hv with h | h | h | h <;> exact bytn_one _ _ v h
set_option maxHeartbeats 2000000 in
set_option maxRecDepth 100000 in
theorem of_any (seed : Int) (w : World) :
    Calls Tryz.prog 13 #[.int .i64 seed] w fun e w' => e = .returned (.agg (ofL seed).toArray) ∧ Below w.heap.size w w' := by
  have c1 := Lib.hid (fun b w h => of1_any seed ⟨#[114, 111, 111, 116]⟩ (by decide) b w h)
  have c2 := Lib.hid (fun b w h => of1_any seed ⟨#[115, 105, 103, 110, 101, 114]⟩ (by decide) b w h)
  have c3 := Lib.hid (fun b w h => of1_any seed ⟨#[100, 101, 118, 105, 99, 101]⟩ (by decide) b w h)
  have c4 := Lib.hid (fun b w h => of1_any seed ⟨#[107, 101, 121]⟩ (by decide) b w h)
  obtain ⟨r1, h1⟩ : ∃ n, ofN seed rootL = n := ⟨_, rfl⟩
  obtain ⟨r2, h2⟩ : ∃ n, ofN seed signerL = n := ⟨_, rfl⟩
  obtain ⟨r3, h3⟩ : ∃ n, ofN seed deviceL = n := ⟨_, rfl⟩
  obtain ⟨r4, h4⟩ : ∃ n, ofN seed keyL = n := ⟨_, rfl⟩
  rw [show (⟨#[114, 111, 111, 116]⟩ : ByteArray).data.toList = rootL from rfl] at c1
  rw [show (⟨#[115, 105, 103, 110, 101, 114]⟩ : ByteArray).data.toList = signerL from rfl] at c2
  rw [show (⟨#[100, 101, 118, 105, 99, 101]⟩ : ByteArray).data.toList = deviceL from rfl] at c3
  rw [show (⟨#[107, 101, 121]⟩ : ByteArray).data.toList = keyL from rfl] at c4
  unfold ofL
  rw [h1] at c1; rw [h2] at c2; rw [h3] at c3; rw [h4] at c4
  rw [h1, h2, h3, h4]
  clear h1 h2 h3 h4
  have hmf : ∀ (fn : Fn) (first cap : Array Value) (w : World), (Instr.makeFunc fn first cap).run Tryz.prog w = .ok (.func fn first cap) w := fun _ _ _ _ => rfl
  go_enter Tryz.func13, Tryz.ntmps13
  go_upto_region 2 with fail
  refine wp_new2 (fun W hsz k1 k2 kb => ?_)
  have k2l : Hid (∃ Z, Arr W (w.heap.size + 1) Z ∧ Z.length = 128) := Lib.hid ⟨_, k2, by rw [Array.length_toList]; kernel_rfl⟩
  obtain ⟨Z, k2, hZ⟩ := k2l.out
  replace hZ := Lib.hid hZ
  clear hsz k2l
  go_wp2_with fail
  refine (c1.out _ _ (k1.cell rfl)).mono ?_
  rintro e w1 ⟨rfl, hb⟩
  replace k1 := k1.below hb
  replace k2 := k2.below hb
  replace kb := bel kb hb
  clear hb c1
  go_wp2_with fail
  refine (c2.out _ _ (k1.cell rfl)).mono ?_
  rintro e w2 ⟨rfl, hb⟩
  replace k1 := k1.below hb
  replace k2 := k2.below hb
  replace kb := bel kb hb
  clear hb c2
  go_wp2_with fail
  refine (c3.out _ _ (k1.cell rfl)).mono ?_
  rintro e w3 ⟨rfl, hb⟩
  replace k1 := k1.below hb
  replace k2 := k2.below hb
  replace kb := bel kb hb
  clear hb c3
  go_wp2_with fail
  refine (c4.out _ _ (k1.cell rfl)).mono ?_
  rintro e w4 ⟨rfl, hb⟩
  replace k1 := k1.below hb
  replace k2 := k2.below hb
  replace kb := bel kb hb
  clear hb c4
  go_wp2_with (first | (refine wpList_builta rfl _ _ rfl (setL r1 r2 r3 r4).toArray (by kernel_rfl) ?_) | (refine wpl_storeG rfl _ _ _ rfl _ (setL r1 r2 r3 r4) rfl rfl _ k2 (by rw [setL_len]; kernel_rfl) (by rw [setL_len, hZ.out]) (setL_one _ _ _ _) (fun w5 k3 hg hsz => ?_)))
  have qb := below_gr kb hg (by omega) kb.size
  exact bodyPost_ret (results_arr2 Tryz.results13 _ _ _ rfl (by kernel_rfl) _ k3 (by rw [setL_len]; kernel_rfl)) rfl ⟨rfl, qb⟩
end Go.Proofs.YtibdgkhkhmdihaaGreatDoor


namespace Go.Proofs.YtibdgkhkhmdihaaGreatDoor
open Go.RowKit
theorem dec_3 : Lib.decDigits 3 = [51] := by
  rw [Lib.decDigits]; rfl
theorem dec_18 : Lib.decDigits 18 = [49, 56] := by
  rw [Lib.decDigits, Lib.decDigits]; rfl
/-- A script that is too long. -/
theorem play_long (s : ByteArray) (hs : s.size < 4294967281) (hl : 262144 < s.size ∨ 8000 < nLn s.data.toList) (w : World) :
    Calls Tryz.prog 8 #[.string s] w fun e w' => e = .returned (.string ⟨#[101, 114, 114, 111, 114, 32, 51, 10]⟩) ∧ Below w.heap.size w w' := by
  have cL := Lib.hid (lines_any s w hs)
  have cD := Lib.hid (fun w => show Calls Tryz.prog 12 #[.int .i64 3] w fun e w' => e = .returned (.string ⟨#[51]⟩) ∧ w' = w from by have q := dec_small 3 (by decide) w; rw [dec_3] at q; exact q)
  obtain ⟨n, hn⟩ : ∃ n, nLn s.data.toList = n := ⟨_, rfl⟩
  rw [hn] at cL hl
  have hz1 : (262144 : Int) < (s.size : Int) ∨ (8000 : Int) < (n : Int) := by omega
  obtain ⟨b1, hb1⟩ : ∃ b, decide ((262144 : Int) < (s.size : Int)) = b := ⟨_, rfl⟩
  obtain ⟨b2, hb2⟩ : ∃ b, decide ((8000 : Int) < (n : Int)) = b := ⟨_, rfl⟩
  have hz : b1 = true ∨ (b1 = false ∧ b2 = true) := by
    rcases hz1 with h | h
    · exact .inl (by rw [← hb1]; exact decide_eq_true h)
    · cases b1
      · exact .inr ⟨rfl, by rw [← hb2]; exact decide_eq_true h⟩
      · exact .inl rfl
  clear hl hn hz1
  go_enter Tryz.func8, Tryz.ntmps8
  go_wp2_with fail
  refine cL.out.mono ?_
  rintro e w1 ⟨g, c, rfl, -, -, kb⟩
  clear cL
  rcases hz with rfl | ⟨rfl, rfl⟩
  all_goals
    go_wp2_with fail
    refine (cD.out _).mono ?_
    rintro e w2 ⟨rfl, rfl⟩
    go_wp2_with fail
    go_ret
    exact ⟨rfl, kb⟩
/-- A player that has nothing. -/
def iniX : Plr := ⟨ofN 0 rootL, ofN 0 signerL, ofN 0 deviceL, ofN 0 keyL, .slice none 0 0, .slice none 0 0, .pointer none, .pointer none, .pointer none⟩
/-- Is a line passed over? -/
def skp (x : List UInt8) : Prop := x = [] ∨ x[0]? = some 35
set_option maxHeartbeats 4000000 in
set_option maxRecDepth 100000 in
theorem play_ok (s : ByteArray) (hs : s.size ≤ 262144) (hl : nLn s.data.toList ≤ 8000) (w : World) (L : List UInt8) (I : Nat → Nat → World → Nat → World → Prop)
    (h0 : ∀ P r w0, Pl w0 P (iniX.cs (.pointer none) (.slice none 0 0)) → Mp w0 r cmdL → r ≠ P → I P r w0 0 w0)
    (hch : ∀ P r w0 j w', I P r w0 j w' → Ch [P] w0 w')
    (hskip : ∀ P r w0 j x w', (lns 10 s.data.toList)[j]? = some x → j < nLn s.data.toList → skp x → I P r w0 j w' → I P r w0 (j + 1) w')
    (hline : ∀ P r w0 j x w', (lns 10 s.data.toList)[j]? = some x → j < nLn s.data.toList → ¬ skp x → I P r w0 j w' →
      Calls Tryz.prog 15 #[.pointer (some ⟨P, 0, none⟩), .string ⟨x.toArray⟩, .map (some r)] w' fun e w'' => e = .returned (.tuple #[]) ∧ I P r w0 (j + 1) w'')
    (hfin : ∀ P r w0 w', I P r w0 (nLn s.data.toList) w' → Calls Tryz.prog 16 #[.pointer (some ⟨P, 133, none⟩)] w' fun e w'' => e = .returned (.string ⟨L.toArray⟩) ∧ Below w0.heap.size w' w'') :
    Calls Tryz.prog 8 #[.string s] w fun e w' => e = .returned (.string ⟨L.toArray⟩) ∧ Below w.heap.size w w' := by
  have cL := Lib.hid (lines_any s w (by omega))
  have cO := Lib.hid (fun w => of_any 0 w)
  have cC := Lib.hid (fun w => commands_any w)
  have hln := lns_len 10 s.data.toList
  have hnl : nLn s.data.toList ≤ (lns 10 s.data.toList).length := by
    unfold nLn
    split <;> omega
  obtain ⟨n, hn⟩ : ∃ n, nLn s.data.toList = n := ⟨_, rfl⟩
  obtain ⟨LS, hLS⟩ : ∃ l, lns 10 s.data.toList = l := ⟨_, rfl⟩
  rw [hn, hLS] at cL hskip hline hnl
  rw [hn] at hl hfin
  have hz1 : decide ((262144 : Int) < (s.size : Int)) = false := decide_eq_false (by omega)
  have hz2 : decide ((8000 : Int) < (n : Int)) = false := decide_eq_false (by omega)
  unfold ofL at cO
  unfold iniX at h0
  obtain ⟨r1, h1⟩ : ∃ n, ofN 0 rootL = n := ⟨_, rfl⟩
  obtain ⟨r2, h2⟩ : ∃ n, ofN 0 signerL = n := ⟨_, rfl⟩
  obtain ⟨r3, h3⟩ : ∃ n, ofN 0 deviceL = n := ⟨_, rfl⟩
  obtain ⟨r4, h4⟩ : ∃ n, ofN 0 keyL = n := ⟨_, rfl⟩
  rw [h1, h2, h3, h4] at cO h0
  obtain ⟨X, hX⟩ : ∃ X : Plr, (⟨r1, r2, r3, r4, .slice none 0 0, .slice none 0 0, .pointer none, .pointer none, .pointer none⟩ : Plr) = X := ⟨_, rfl⟩
  rw [hX] at h0
  replace h0 := Lib.hid h0
  replace hch := Lib.hid hch
  replace hskip := Lib.hid hskip
  replace hline := Lib.hid hline
  replace hfin := Lib.hid hfin
  replace hnl := Lib.hid hnl
  obtain ⟨LV, hLV⟩ : ∃ v, L.toArray = v := ⟨_, rfl⟩
  rw [hLV] at hfin ⊢
  clear hn hLS hln h1 h2 h3 h4 hs hLV
  go_enter Tryz.func8, Tryz.ntmps8
  go_wp2_with fail
  refine cL.out.mono ?_
  rintro e w1 ⟨g, c, rfl, hg, kL, kb⟩
  clear cL
  replace kL := Lib.hid kL
  go_wp2_with fail
  refine (cO.out _).mono ?_
  rintro e w2 ⟨rfl, hb⟩
  replace kL := Lib.hid (kL.out.below hb)
  replace kb := bel kb hb
  clear cO hb
  go_upto_region 5 with (refine wpList_builta rfl _ _ rfl (({ root := r1, sig := r2, dev := r3, key := r4, man := .slice none 0 0, bl := .slice none 0 0, f := .pointer none, o := .pointer none, d := .pointer none } : Plr).cs (.pointer none) (.slice none 0 0)).toArray (by kernel_rfl) ?_)
  have kP : Pl (w2.alloc (.cells (X.cs (.pointer none) (.slice none 0 0)).toArray 46)) w2.heap.size (X.cs (.pointer none) (.slice none 0 0)) := heap_alloc_new w2 _
  have hb := below_alloc w2 (.cells (X.cs (.pointer none) (.slice none 0 0)).toArray 46)
  have hP0 := kb.size
  obtain ⟨W3, hW3⟩ : ∃ W, w2.alloc (.cells (X.cs (.pointer none) (.slice none 0 0)).toArray 46) = W := ⟨_, rfl⟩
  obtain ⟨P, hP⟩ : ∃ k, w2.heap.size = k := ⟨_, rfl⟩
  have hgP : g ≠ P := by have := kL.out.lt; omega
  rw [hW3] at kP hb ⊢
  rw [hP] at kP hP0 ⊢
  have hPl := kP.arr.lt
  replace kL := Lib.hid (kL.out.below hb)
  replace kb := bel kb hb
  replace kP := Lib.hid kP
  clear hb hP hW3 hX
  go_wp2_with fail
  refine (cC.out _).mono ?_
  rintro e w0 ⟨rfl, kM, hb⟩
  obtain ⟨r, hr⟩ : ∃ k, W3.heap.size = k := ⟨_, rfl⟩
  rw [hr] at kM ⊢
  have hI0 := Lib.hid (h0.out P r w0 (kP.out.below hb) kM (by omega))
  replace kL := Lib.hid (kL.out.below hb)
  replace kb := bel kb hb
  clear cC kP kM hb h0 hr
  go_upto_region 7 with fail
  go_loopw [27] (fun iv wr => ∃ j : Nat, j ≤ n ∧ iv = .int .i64 j ∧ Hid (I P r w0 j wr)) (fun iv _ => n - (intOf iv).toNat)
  case atStart => exact ⟨0, Nat.zero_le _, rfl, hI0⟩
  case round =>
  clear hI0
  obtain ⟨j, hj, rfl, hI⟩ := hrel
  have hj0 : (0 : Int) ≤ (j : Int) := by omega
  have hC := hch.out _ _ _ _ _ hI.out
  by_cases hjn : j < n
  · have hj1 : (j : Int) < (n : Int) := by omega
    have hxx : ∃ x, LS[j]? = some x := ⟨_, List.getElem?_eq_getElem (by have := hnl.out; omega)⟩
    obtain ⟨x, hx⟩ := hxx
    have y : wr.cell? ⟨g, j, none⟩ = some (.string ⟨x.toArray⟩) := (kL.out.ch hC (by simpa using hgP)).cell (by simp [strs, hx])
    have hsk := fun h => hskip.out P r w0 j x wr hx hjn h hI.out
    have hln := fun h => hline.out P r w0 j x wr hx hjn h hI.out
    clear hC hx
    by_cases hx0 : x = []
    · subst hx0
      have hI1 := Lib.hid (hsk (.inl rfl))
      clear hsk hln
      go_wp2_with fail
      exact ⟨⟨j + 1, by omega, by go_num, hI1⟩, by simp [intOf]; omega⟩
    · have hxe : (⟨x.toArray⟩ : ByteArray).toList.isEmpty = false := isE (by
        cases x with
        | nil => exact absurd rfl hx0
        | cons _ _ => rfl)
      have hs1 : 1 ≤ (⟨x.toArray⟩ : ByteArray).size := by
        cases x with
        | nil => exact absurd rfl hx0
        | cons _ _ => simp [ByteArray.size]
      obtain ⟨c0, hc0⟩ : ∃ c, x[0]? = some c := by
        cases x with
        | nil => exact absurd rfl hx0
        | cons c _ => exact ⟨c, rfl⟩
      have hq : ∀ h : 0 < (⟨x.toArray⟩ : ByteArray).size, (((⟨x.toArray⟩ : ByteArray)[0]'h).toNat : Int) = (c0.toNat : Int) := by
        intro h
        have h1 : x[0]? = some ((⟨x.toArray⟩ : ByteArray)[0]'h) := by
          rw [List.getElem?_eq_getElem (by simpa [ByteArray.size] using h)]
          rfl
        rw [hc0] at h1
        injection h1 with h1
        rw [← h1]
      have hskp : skp x ↔ c0 = 35 := by
        unfold skp
        rw [hc0]
        simp [hx0]
      obtain ⟨XS, hXS⟩ : ∃ X : ByteArray, (⟨x.toArray⟩ : ByteArray) = X := ⟨_, rfl⟩
      rw [hXS] at hxe hq y hs1 hln
      by_cases h35 : c0 = 35
      · have hI1 := Lib.hid (hsk (hskp.2 h35))
        have hc : ((c0.toNat : Int) == 35) = true := by rw [h35]; rfl
        clear hsk hln
        go_wp2_with fail
        exact ⟨⟨j + 1, by omega, by go_num, hI1⟩, by simp [intOf]; omega⟩
      · have cl := Lib.hid (hln (fun h => h35 (hskp.1 h)))
        have hc : ((c0.toNat : Int) == 35) = false := by
          have h48 : c0.toNat ≠ 35 := fun hh => h35 (UInt8.toNat_inj.1 hh)
          simp
          omega
        clear hsk hln hI
        go_wp2_with fail
        refine cl.out.mono ?_
        rintro e w9 ⟨rfl, hI9⟩
        replace hI9 := Lib.hid hI9
        go_wp2_with fail
        exact ⟨⟨j + 1, by omega, by go_num, hI9⟩, by simp [intOf]; omega⟩
  · obtain rfl : j = n := by omega
    have hj1 : ¬ (j : Int) < (j : Int) := by omega
    have cF := Lib.hid (hfin.out P r w0 wr hI.out)
    clear hI hskip hline hfin hch
    go_wp2_with fail
    refine cF.out.mono ?_
    rintro e w9 ⟨rfl, hb9⟩
    have hbe : Below w.heap.size w w9 := by
      refine Below.trans (kb.trans ⟨hC.os, hC.tape, hC.output, hC.size, fun k hk => hC.block k (Nat.lt_of_lt_of_le hk kb.size) (by simp; omega)⟩) ?_
      exact ⟨hb9.os, hb9.tape, hb9.output, hb9.size, fun k hk => hb9.block k (Nat.lt_of_lt_of_le hk kb.size)⟩
    clear cF hb9 hC
    go_wp2_with fail
    go_ret
    exact ⟨rfl, hbe⟩
end Go.Proofs.YtibdgkhkhmdihaaGreatDoor


namespace Go.Proofs.YtibdgkhkhmdihaaGreatDoor
open Go.RowKit
theorem Plr.put_d (X : Plr) (a u x : Value) : (X.cs a u).set 132 x = ({ X with d := x } : Plr).cs a u := Plr.put X a u x (j := 4)
theorem Plr.put_o (X : Plr) (a u x : Value) : (X.cs a u).set 131 x = ({ X with o := x } : Plr).cs a u := Plr.put X a u x (j := 3)
theorem Plr.put_f (X : Plr) (a u x : Value) : (X.cs a u).set 130 x = ({ X with f := x } : Plr).cs a u := Plr.put X a u x (j := 2)
/-- A pointer to the first cell of a block. -/
def ptr0 (k : Nat) : Value := .pointer (some ⟨k, 0, none⟩)
theorem tp_cells {p : Nat} {T : TypeId} : ∀ (cs : List Value) (o : Nat) (w : World), (∃ A, w.heap[p]? = some (.cells A T (0, 0))) → ∃ A, (w.setCells p o cs).heap[p]? = some (.cells A T (0, 0))
  | [], _, _, h => h
  | c :: cs, o, w, ⟨_, h⟩ => tp_cells cs (o + 1) _ ⟨_, heap_setCell_same w p o _ _ c h⟩
theorem Pl.of_arr {w : World} {p : Nat} {xs : List Value} (h : Arr w p xs) (ht : ∃ A, w.heap[p]? = some (.cells A 46 (0, 0))) : Pl w p xs := by
  obtain ⟨T, h⟩ := h
  obtain ⟨A, ht⟩ := ht
  rw [h] at ht
  injection ht with ht
  injection ht with h1 h2 h3
  unfold Pl
  rw [h, h2]
theorem wpl_storeMP {w : World} {ops : Array Oper} {rest : List Oper} {o : Oper} {a : Act} {Q : Exit → Act → World → Prop} (hgd : o.guard = none) (ty : TypeId) (x y : Operand) (ho : o.op = .store ty x y)
    (g off : Nat) (cs : List Value) (hx : a.eval x = .pointer (some ⟨g, off, none⟩)) (hy : a.eval y = .agg cs.toArray) (xs : List Value) (hg : Pl w g xs) (hi : (Tryz.prog.info? ty).map (·.size) = some cs.length)
    (hfit : off + cs.length ≤ xs.length) (h1 : ∀ v ∈ cs, v.oneCell' = true)
    (h : ∀ W, Pl W g (putAt off cs xs) → w.grownBy W (some g) → wpList Tryz.prog ops Q rest (a.put o.dst undef) W) : wpList Tryz.prog ops Q (o :: rest) a w := by
  refine wpList_store_mid hgd ty x y ho g off cs.toArray hx hy (by simpa using hg.arr.there hfit) (by simpa using hi) (all_oneCell_toArray h1) ?_
  refine h _ (Pl.of_arr (Arr.setCells _ _ hg.arr (by simpa using hfit)) ?_) (gr_cells _ _ _)
  exact tp_cells _ _ _ ⟨_, hg⟩
/-- What is behind the opening of a new flash's device. -/
def OpNew (P pf q g r s m : Nat) (X : Plr) (a u : Value) (w : World) (e : Ending) (w' : World) : Prop := ∃ d c k F', e = .returned (.tuple #[]) ∧ w.heap.size ≤ d ∧ w.heap.size ≤ c ∧ d ≠ c ∧
  F'.dead = false ∧ Arr w' d (dvv pf c false) ∧ Arr w' c (coZ k r s (-1)) ∧ Arr w' q (otv (some ⟨pf, 0, none⟩) r s 1 (m : Int)) ∧ FlAt w' pf g F' ∧ Pl w' P (({ X with d := ptr0 d } : Plr).cs a u) ∧ Ch [P, pf, g, q] w w'
set_option maxHeartbeats 4000000 in
set_option maxRecDepth 100000 in
theorem open_fresh (P pf q g r s m : Nat) (X : Plr) (a u : Value) (F : Fl) (w : World) (kp : Pl w P (X.cs a u)) (hxf : X.f = ptr0 pf) (hxo : X.o = ptr0 q)
    (ko : Arr w q (otv (some ⟨pf, 0, none⟩) r s 0 (m : Int))) (kf : FlAt w pf g F) (hqp : q ≠ pf) (hqg : q ≠ g) (hlen : 32768 ≤ F.b.length) (hop : F.op = -1) (hd : F.dead = false) (hm0 : 0 < m) (hm : m ≤ 1000000) (hf : Unmarked F)
    (hP : P ∉ [pf, g, q]) :
    Calls Tryz.prog 49 #[.pointer (some ⟨P, 0, none⟩)] w (OpNew P pf q g r s m X a u w) := by
  obtain ⟨x1, x2, x3, x4, x5, x6, x7, x8, x9⟩ := X
  simp only at hxf hxo
  subst hxf hxo
  have hPl := kp.arr.lt
  have cO := Lib.hid (fun (w' : World) (hb : Below w.heap.size w w') => dopen_fresh pf q g r s m F w' (ko.below hb) (kf.below hb) hqp hqg hlen hop hd hm0 hm hf)
  have cM := Lib.hid must_ok
  replace kp := Lib.hid kp
  clear ko kf hqp hqg hlen hop hd hm0 hm hf
  go_enter Tryz.func49, Tryz.ntmps49
  refine wp_seq ?_
  refine Tx.start (fun w' => Ch [pf, g, q] w w') 9999 14 rfl (by kernel_rfl) ?_
  have hb0 : Below w.heap.size w w.drew := (Below.refl _ _).drew
  have hS0 : Ch [pf, g, q] w w.drew := Ch.of_below hb0
  refine Tx.seg (A := ?_) 6 255 (by kernel_rfl) (by exact hS0) [0, 1, 2, 3, 4, 5, 6, 7] (by kernel_rfl) ?_ ?_
  rotate_left
  · intro w' hB
    have y6 := (kp.out.ch hB hP).arr.cell (Plr.at _ _ _ (j := 2))
    have y7 := (kp.out.ch hB hP).arr.cell (Plr.at _ _ _ (j := 3))
    iterate 8 (first | (refine rd_skip rfl rfl ?_; simp only [Act.put, List.setIfInBounds_toArray, List.set_cons_zero, List.set_cons_succ]) | (refine rd_load_arr rfl rfl _ _ rfl _ rfl (by decide +kernel) _ (by assumption) (by first | (rw [lims_len]; kernel_rfl) | (rw [el_rep]; kernel_rfl) | (rw [el_len]; kernel_rfl) | (rw [byts_len]; kernel_rfl) | (rw [us_len]; kernel_rfl) | (rw [bytn_len]; kernel_rfl) | (rw [ens_len, digs_len]; kernel_rfl) | (rw [ptL_len]; kernel_rfl) | (rw [pcs_len]; kernel_rfl) | kernel_rfl) ?_; simp only [Act.put, List.setIfInBounds_toArray, List.set_cons_zero, List.set_cons_succ]) | (refine rd_take (v := ?_) rfl rfl ?_ ?_; rotate_left; (focus (go_simp; try (with_reducible rfl))); simp only [Act.put, List.setIfInBounds_toArray, List.set_cons_zero, List.set_cons_succ]))
    exact rd_nil
  refine Tx.eff 8 511 rfl (by decide +kernel) (fun K hK => ?_)
  go_simp
  refine (cO.out _ hb0).mono ?_
  rintro e w1 ⟨d, c, k, F', rfl, hd, hc, hdc, hdd, -, -, kd, k0, kq, kf, hC⟩
  have hd : w.heap.size ≤ d := Nat.le_trans hb0.size hd
  have hc : w.heap.size ≤ c := Nat.le_trans hb0.size hc
  have hS1 : Ch [pf, g, q] w w1 := hS0.trans hC
  refine hK (fun w' => Ch [pf, g, q] w w') _ _ hS1 (fun _ h => h) ?_
  clear hK K hS0 hb0 cO hC
  try simp only [Act.put, List.setIfInBounds_toArray, List.set_cons_zero, List.set_cons_succ]
  refine Tx.seg (A := ?_) 0 16383 (by kernel_rfl) (by exact hS1) [9, 10, 11, 12, 13] (by kernel_rfl) ?_ ?_
  rotate_left
  · intro w' hB
    iterate 5 (first | (refine rd_skip rfl rfl ?_; simp only [Act.put, List.setIfInBounds_toArray, List.set_cons_zero, List.set_cons_succ]) | (refine rd_load_arr rfl rfl _ _ rfl _ rfl (by decide +kernel) _ (by assumption) (by first | (rw [lims_len]; kernel_rfl) | (rw [el_rep]; kernel_rfl) | (rw [el_len]; kernel_rfl) | (rw [byts_len]; kernel_rfl) | (rw [us_len]; kernel_rfl) | (rw [bytn_len]; kernel_rfl) | (rw [ens_len, digs_len]; kernel_rfl) | (rw [ptL_len]; kernel_rfl) | (rw [pcs_len]; kernel_rfl) | kernel_rfl) ?_; simp only [Act.put, List.setIfInBounds_toArray, List.set_cons_zero, List.set_cons_succ]) | (refine rd_take (v := ?_) rfl rfl ?_ ?_; rotate_left; (focus (go_simp; try (with_reducible rfl))); simp only [Act.put, List.setIfInBounds_toArray, List.set_cons_zero, List.set_cons_succ]))
    exact rd_nil
  refine Tx.done (by kernel_rfl) ?_
  have kp1 := kp.out.ch hS1 hP
  have z8 := kp1.arr.cell (Plr.at _ _ _ (j := 4))
  have zf := kp1.arr.frozen 132
  replace kd := Lib.hid kd
  replace k0 := Lib.hid k0
  replace kq := Lib.hid kq
  replace kf := Lib.hid kf
  replace kp1 := Lib.hid kp1
  clear kp
  go_upto_region 2 with fail
  have hPn : P ≠ pf ∧ P ≠ g ∧ P ≠ q := by simpa using hP
  have k2 : Pl (w1.setCell ⟨P, 132, none⟩ (ptr0 d)) P (({ root := x1, sig := x2, dev := x3, key := x4, man := x5, bl := x6, f := ptr0 pf, o := ptr0 q, d := ptr0 d } : Plr).cs a u) := by
    have := kp1.out.set 132 (ptr0 d)
    rwa [Plr.put_d] at this
  have hg : Ch [P] w1 (w1.setCell ⟨P, 132, none⟩ (ptr0 d)) := Ch.of_gr (gr_cell w1 P 132 (ptr0 d)) (by simp)
  change Code.wp _ _ _ _ (w1.setCell ⟨P, 132, none⟩ (ptr0 d))
  generalize w1.setCell ⟨P, 132, none⟩ (ptr0 d) = W at k2 hg ⊢
  have kdW := Lib.hid (kd.out.ch hg (by simp; omega))
  have k0W := Lib.hid (k0.out.ch hg (by simp; omega))
  have kqW := Lib.hid (kq.out.ch hg (by simp; omega))
  have kfW := Lib.hid (kf.out.ch hg (by simp; omega) (by simp; omega))
  have hSW : Ch [P, pf, g, q] w W := (hS1.mono (M' := [P, pf, g, q]) (fun k hk => List.mem_cons_of_mem _ hk)).trans (hg.mono (fun k hk => by simp at hk; simp [hk]))
  replace k2 := Lib.hid k2
  clear kd k0 kq kf kp1 z8 zf hg hS1
  go_wp2_with fail
  refine (cM.out _).mono ?_
  rintro e w2 ⟨rfl, rfl⟩
  go_wp2_with fail
  go_end0
  exact ⟨d, c, k, F', rfl, hd, hc, hdc, hdd, kdW.out, k0W.out, kqW.out, kfW.out, k2.out, hSW⟩
end Go.Proofs.YtibdgkhkhmdihaaGreatDoor


namespace Go.Proofs.YtibdgkhkhmdihaaGreatDoor
open Go.RowKit
theorem Plr.put_set (X : Plr) (a u : Value) (r s d k : Nat) : putAt 0 (setL r s d k) (X.cs a u) = ({ X with root := r, sig := s, dev := d, key := k } : Plr).cs a u := by
  rw [putAt, List.take_zero, List.nil_append, Nat.zero_add, setL_len, Plr.cs, ← setL_len X.root X.sig X.dev X.key, List.drop_left, Plr.cs]
theorem Plr.rg_root {w : World} {p : Nat} {X : Plr} {a u : Value} (h : Pl w p (X.cs a u)) : w.rangeAt p 0 (bytn 32 X.root) := h.arr.range (fun j hj => by
  rw [Nat.zero_add, Plr.cs, setL, List.append_assoc, List.getElem?_append_left hj])
theorem Plr.rg_dev {w : World} {p : Nat} {X : Plr} {a u : Value} (h : Pl w p (X.cs a u)) : w.rangeAt p 64 (bytn 32 X.dev) := h.arr.range (fun j hj => by
  have hj' := hj
  rw [bytn_len] at hj'
  rw [Plr.cs, setL, List.append_assoc, List.getElem?_append_right (by rw [bytn_len]; omega), List.append_assoc, List.getElem?_append_right (by rw [bytn_len, bytn_len]; omega), bytn_len, bytn_len, List.append_assoc, List.getElem?_append_left (by rw [bytn_len]; omega)]
  congr 1
  omega)
theorem sl_cell {w : World} {g n c j : Nat} {vs : List Value} {u : Value} (h : Sl w (.slice (some ⟨g, 0, none⟩) n c) vs) (hj : vs[j]? = some u) : w.cell? ⟨g, j, none⟩ = some u := by
  obtain ⟨a, cap, he, -, -, -, h5⟩ := h
  injection he with h1 h2 h3
  have := h5 _ h1.symm j u hj
  rwa [Addr.add_lit, Nat.zero_add] at this
theorem fl_new_len : (Fl.new 128).b.length = 32768 := by
  show (List.replicate (128 * 256) (255 : UInt8)).length = 32768
  rw [List.length_replicate]
theorem FlAt.cp {P B : Nat} {w w' : World} {p g : Nat} {F : Fl} (h : FlAt w p g F) (hc : Cp P B w w') (hp : p < B) (hg : g < B) (hpP : p ≠ P) (hgP : g ≠ P) : FlAt w' p g F := by
  obtain ⟨h1, ⟨pad, h2⟩, h3, h4, h5, h6⟩ := h
  exact ⟨h1.cp hc hp hpP, ⟨pad, h2.cp hc hg hgP⟩, h3, h4, h5, h6⟩
theorem Ch.cp {M : List Nat} {P B : Nat} {w w1 w2 : World} (h : Ch M w w1) (hc : Cp P B w1 w2) (hP : P ∈ M) (hB : w.heap.size ≤ B) : Ch M w w2 :=
  ⟨hc.os.trans h.os, hc.tape.trans h.tape, hc.output.trans h.output, Nat.le_trans h.size hc.size, fun k hk hn => (hc.block k (by omega) (fun e => hn (e ▸ hP))).trans (h.block k hk hn)⟩
def okL : List UInt8 := [111, 107]
/-- What a new device's line leaves. -/
def FrNew (P : Nat) (seed : Int) (m : Nat) (w : World) (e : Ending) (w' : World) : Prop := ∃ (pf q g d c k r s B : Nat) (X : Plr) (u : Value) (F : Fl), e = .returned (.tuple #[]) ∧
  F.dead = false ∧ Arr w' d (dvv pf c false) ∧ Arr w' c (coZ k r s (-1)) ∧ Arr w' q (otv (some ⟨pf, 0, none⟩) r s 1 (m : Int)) ∧ FlAt w' pf g F ∧ d ≠ c ∧
  X.f = ptr0 pf ∧ X.o = ptr0 q ∧ X.d = ptr0 d ∧ X.root = ofN seed rootL ∧ Pl w' P (X.cs (slf P) u) ∧ w'.ownsRow B 5 1 u (okL ++ [10]).length (u8s (okL ++ [10])) ∧ (∀ b, u.ownBlock = some b → B ≤ b) ∧
  w.heap.size ≤ B ∧ B ≤ w'.heap.size ∧ pf < B ∧ g < B ∧ q < B ∧ d < B ∧ c < B ∧ w.heap.size ≤ pf ∧ w.heap.size ≤ g ∧ w.heap.size ≤ q ∧ w.heap.size ≤ d ∧ w.heap.size ≤ c ∧ Ch [P] w w'
set_option maxHeartbeats 4000000 in
set_option maxRecDepth 100000 in
theorem fresh_any (P gn cn : Nat) (seed : Int) (m : Nat) (hm0 : 0 < m) (hm : m ≤ 1000000) (tv : Value) (X : Plr) (w : World) (kp : Pl w P (X.cs (.pointer none) (.slice none 0 0)))
    (hn : Sl w (.slice (some ⟨gn, 0, none⟩) 2 cn) [.int .i64 seed, .int .i64 (m : Int)]) (hgP : gn ≠ P) :
    Calls Tryz.prog 22 #[.pointer (some ⟨P, 0, none⟩), .agg #[.slice (some ⟨gn, 0, none⟩) 2 cn, tv]] w (FrNew P seed m w) := by
  obtain ⟨x1, x2, x3, x4, x5, x6, x7, x8, x9⟩ := X
  have cI := Lib.hid (fun w => of_any seed w)
  have cF := Lib.hid (fun w => show Calls Tryz.prog 46 #[.int .i64 128] w _ from fnew_any 128 (by decide) w)
  have cP := Lib.hid (fun K w => cpublic_any K w)
  have cO := Lib.hid (fun fv r s w => onew_any fv r s m hm0 hm w)
  obtain ⟨mI, hmI⟩ : ∃ k : Int, (m : Int) = k := ⟨_, rfl⟩
  have hPl := kp.arr.lt
  obtain ⟨r1, h1⟩ : ∃ n, ofN seed rootL = n := ⟨_, rfl⟩
  obtain ⟨r2, h2⟩ : ∃ n, ofN seed signerL = n := ⟨_, rfl⟩
  obtain ⟨r3, h3⟩ : ∃ n, ofN seed deviceL = n := ⟨_, rfl⟩
  obtain ⟨r4, h4⟩ : ∃ n, ofN seed keyL = n := ⟨_, rfl⟩
  simp only [ofL, h1, h2, h3, h4] at cI
  replace h1 := Lib.hid h1
  clear h2 h3 h4
  replace kp := Lib.hid kp
  replace hn := Lib.hid hn
  replace hmI := Lib.hid hmI
  go_enter Tryz.func22, Tryz.ntmps22
  go_upto_region 1 with fail
  refine wp_new1 (fun W hsz kA kb => ?_)
  have kA := kA
  replace kA : Arr W w.heap.size [.slice (some ⟨gn, 0, none⟩) 2 cn, tv] := kA
  obtain ⟨ga, hga⟩ : ∃ k, w.heap.size = k := ⟨_, rfl⟩
  have hgaP : ga ≠ P := by omega
  have kp1 := Lib.hid (kp.out.below kb)
  have hn1 := Lib.hid (hn.out.below kb)
  have y0 := sl_cell hn1.out (j := 0) rfl
  have yA := kA.cell (j := 0) rfl
  have hC := Ch.of_below (M := [P]) kb
  rw [hga] at kA yA ⊢
  clear hsz kb kp hn
  go_wp2_with fail
  refine (cI.out _).mono ?_
  rintro e w1 ⟨rfl, hb⟩
  replace kp1 := Lib.hid (kp1.out.below hb)
  replace hn1 := Lib.hid (hn1.out.below hb)
  replace kA := Lib.hid (kA.below hb)
  replace hC := hC.trans (Ch.of_below hb)
  clear y0 yA cI hb
  go_upto_region 2 with (refine wpl_storeMP rfl _ _ _ rfl P 0 (setL r1 r2 r3 r4) rfl rfl _ kp1.out (by rw [setL_len]; kernel_rfl) (by rw [setL_len, Plr.len]; decide) (setL_one _ _ _ _) (fun W2 k2 hg => ?_))
  rw [Plr.put_set] at k2
  have hc2 := Ch.of_gr (M := [P]) hg (by simp)
  replace k2 := Lib.hid k2
  replace hn1 := Lib.hid (hn1.out.ch hc2 (by simpa using hgP))
  replace kA := Lib.hid (kA.out.ch hc2 (by simpa using hgaP))
  replace hC := hC.trans hc2
  clear kp1 hc2 hg
  go_wp2_with fail
  refine (cF.out _).mono ?_
  rintro e w3 ⟨pf, g, rfl, hpf, hg, kf, hb⟩
  have hP2 : P < W2.heap.size := k2.out.arr.lt
  have hsz2 : w.heap.size ≤ W2.heap.size := hC.size
  have hpf0 : w.heap.size ≤ pf := Nat.le_trans hsz2 hpf
  have hg0 : w.heap.size ≤ g := Nat.le_trans hsz2 hg
  have k3 := k2.out.below hb
  replace hn1 := Lib.hid (hn1.out.below hb)
  replace kA := Lib.hid (kA.out.below hb)
  replace hC := hC.trans (Ch.of_below hb)
  have z3 := k3.arr.cell (Plr.at _ _ _ (j := 2))
  have zf := k3.arr.frozen 130
  replace k3 := Lib.hid k3
  replace kf := Lib.hid kf
  clear k2 cF hb
  go_upto_region 3 with fail
  have k4 : Pl (w3.setCell ⟨P, 130, none⟩ (ptr0 pf)) P (({ root := r1, sig := r2, dev := r3, key := r4, man := x5, bl := x6, f := ptr0 pf, o := x8, d := x9 } : Plr).cs (.pointer none) (.slice none 0 0)) := by
    have := k3.out.set 130 (ptr0 pf)
    rwa [Plr.put_f] at this
  have hg4 : Ch [P] w3 (w3.setCell ⟨P, 130, none⟩ (ptr0 pf)) := Ch.of_gr (gr_cell w3 P 130 (ptr0 pf)) (by simp)
  change Code.wp _ _ _ _ (w3.setCell ⟨P, 130, none⟩ (ptr0 pf))
  generalize w3.setCell ⟨P, 130, none⟩ (ptr0 pf) = W4 at k4 hg4 ⊢
  have hpfP : pf ≠ P := by omega
  have hgP' : g ≠ P := by omega
  replace hn1 := Lib.hid (hn1.out.ch hg4 (by simpa using hgP))
  replace kA := Lib.hid (kA.out.ch hg4 (by simpa using hgaP))
  replace kf := Lib.hid (kf.out.ch hg4 (by simpa using hpfP) (by simpa using hgP'))
  replace hC := hC.trans hg4
  replace k4 := Lib.hid k4
  clear k3 z3 zf hg4
  refine Tx.start (fun w' => Below (W4).heap.size (W4) w') 23 24 rfl (by kernel_rfl) ?_
  have hS_1 : Below (W4).heap.size (W4) (World.drew W4) := (Below.refl _ _).drew
  refine Tx.seg (A := ?_) 5 1047551 (by kernel_rfl) (by exact hS_1) [0, 1, 2, 3, 4, 5, 6, 7, 8, 9, 11, 12, 13, 14, 15, 16, 17, 18, 19] (by kernel_rfl) ?_ ?_
  rotate_left
  · intro w' hB
    have kq := k4.out.below hB
    have y4 := kq.arr.cell (Plr.at _ _ _ (j := 2))
    have y9 := Plr.rg_root kq
    have y15 := Plr.rg_dev kq
    have y17 := (kA.out.below hB).cell (j := 0) rfl
    have y19 := sl_cell (hn1.out.below hB) (j := 1) rfl
    iterate 19 (first | (refine rd_skip rfl rfl ?_; simp only [Act.put, List.setIfInBounds_toArray, List.set_cons_zero, List.set_cons_succ]) | (refine rd_load_mid rfl rfl _ _ rfl _ _ rfl (by decide +kernel) _ y9 (by first | (rw [lims_len]; kernel_rfl) | (rw [el_rep]; kernel_rfl) | (rw [el_len]; kernel_rfl) | (rw [byts_len]; kernel_rfl) | (rw [us_len]; kernel_rfl) | (rw [bytn_len]; kernel_rfl) | (rw [ens_len, digs_len]; kernel_rfl) | (rw [ptL_len]; kernel_rfl) | (rw [pcs_len]; kernel_rfl) | kernel_rfl) ?_; simp only [Act.put, List.setIfInBounds_toArray, List.set_cons_zero, List.set_cons_succ]) | (refine rd_load_mid rfl rfl _ _ rfl _ _ rfl (by decide +kernel) _ y15 (by first | (rw [lims_len]; kernel_rfl) | (rw [el_rep]; kernel_rfl) | (rw [el_len]; kernel_rfl) | (rw [byts_len]; kernel_rfl) | (rw [us_len]; kernel_rfl) | (rw [bytn_len]; kernel_rfl) | (rw [ens_len, digs_len]; kernel_rfl) | (rw [ptL_len]; kernel_rfl) | (rw [pcs_len]; kernel_rfl) | kernel_rfl) ?_; simp only [Act.put, List.setIfInBounds_toArray, List.set_cons_zero, List.set_cons_succ]) | (refine rd_load_arr rfl rfl _ _ rfl _ rfl (by decide +kernel) _ (by assumption) (by first | (rw [lims_len]; kernel_rfl) | (rw [el_rep]; kernel_rfl) | (rw [el_len]; kernel_rfl) | (rw [byts_len]; kernel_rfl) | (rw [us_len]; kernel_rfl) | (rw [bytn_len]; kernel_rfl) | (rw [ens_len, digs_len]; kernel_rfl) | (rw [ptL_len]; kernel_rfl) | (rw [pcs_len]; kernel_rfl) | kernel_rfl) ?_; simp only [Act.put, List.setIfInBounds_toArray, List.set_cons_zero, List.set_cons_succ]) | (refine rd_take (v := ?_) rfl rfl ?_ ?_; rotate_left; (focus (go_simp; try (with_reducible rfl))); simp only [Act.put, List.setIfInBounds_toArray, List.set_cons_zero, List.set_cons_succ]))
    exact rd_nil
  refine Tx.eff 10 1048575 rfl (by decide +kernel) (fun K hK => ?_)
  go_simp
  refine (cP.out r1 _).mono ?_
  rintro e w_2 ⟨rfl, hb_2⟩
  have hS_2 := ext_trans hS_1 (Nat.le_refl _) hb_2
  refine hK (fun w' => Below (W4).heap.size (W4) w') _ _ hS_2 (fun _ h => h) ?_
  clear hK K hb_2 hS_1
  try simp only [Act.put, List.setIfInBounds_toArray, List.set_cons_zero, List.set_cons_succ]
  have hs2 : W4.heap.size ≤ (w_2).heap.size := Below.size (by assumption)
  obtain ⟨rk, hrk⟩ : ∃ n, pubN r1 = n := ⟨_, rfl⟩
  rw [hrk]
  clear hrk
  refine Tx.eff 20 2097151 rfl (by decide +kernel) (fun K hK => ?_)
  go_simp
  refine (cO.out (some ⟨pf, 0, none⟩) rk r3 _).mono ?_
  rintro e w_3 ⟨q, rfl, hq, kq, hb_3⟩
  have hS_3 := ext_trans hS_2 (Nat.le_refl _) hb_3
  refine hK (fun w' => Below (W4).heap.size (W4) w') _ _ hS_3 (fun _ h => h) ?_
  clear hK K hS_2
  try simp only [Act.put, List.setIfInBounds_toArray, List.set_cons_zero, List.set_cons_succ]
  have hqs : W4.heap.size ≤ q := Nat.le_trans hs2 hq
  refine Tx.pure (A := ?_) 1 8388607 (by kernel_rfl) (by exact hS_3) [21, 22] (by kernel_rfl) ?_ ?_
  rotate_left
  · intro w'
    iterate 2 (first | (refine rd_skip rfl rfl ?_; simp only [Act.put, List.setIfInBounds_toArray, List.set_cons_zero, List.set_cons_succ]) | (refine rd_take (v := ?_) rfl rfl ?_ ?_; rotate_left; (focus (go_simp; try (with_reducible rfl))); simp only [Act.put, List.setIfInBounds_toArray, List.set_cons_zero, List.set_cons_succ]))
    exact rd_nil
  have k5 := k4.out.below (by assumption)
  have kf5 := kf.out.below (by assumption)
  have kb5 : Below W4.heap.size W4 w_3 := by assumption
  have z5 := k5.arr.cell (Plr.at _ _ _ (j := 3))
  have zf5 := k5.arr.frozen 131
  refine Tx.bar 16777215 rfl (by decide +kernel) (fun K hK => ?_)
  go_simp
  refine hK (fun _ => True) 9999 _ _ ?_
  clear hK K
  try simp only [Act.put]
  try simp only [List.setIfInBounds_toArray, List.set_cons_zero, List.set_cons_succ]
  refine Tx.done (by kernel_rfl) ?_
  have hqP : q ≠ P := by have := k4.out.arr.lt; omega
  have hlf := kf.out.lt
  have hqp : q ≠ pf := by omega
  have hqg : q ≠ g := by omega
  have hq0 : w.heap.size ≤ q := by have := hC.size; omega
  have k6 : Pl (w_3.setCell ⟨P, 131, none⟩ (ptr0 q)) P (({ root := r1, sig := r2, dev := r3, key := r4, man := x5, bl := x6, f := ptr0 pf, o := ptr0 q, d := x9 } : Plr).cs (.pointer none) (.slice none 0 0)) := by
    have := k5.set 131 (ptr0 q)
    rwa [Plr.put_o] at this
  have hg6 : Ch [P] w_3 (w_3.setCell ⟨P, 131, none⟩ (ptr0 q)) := Ch.of_gr (gr_cell _ P 131 (ptr0 q)) (by simp)
  change Exit.then _ _ _ _ (w_3.setCell ⟨P, 131, none⟩ (ptr0 q))
  generalize w_3.setCell ⟨P, 131, none⟩ (ptr0 q) = W6 at k6 hg6 ⊢
  have kq6 := kq.ch hg6 (by simpa using hqP)
  have kf6 := kf5.ch hg6 (by simpa using hpfP) (by simpa using hgP')
  have hC6 := (hC.trans (Ch.of_below kb5)).trans hg6
  have cN := Lib.hid (open_fresh P pf q g rk r3 m _ _ _ _ W6 k6 rfl rfl kq6 kf6 hqp hqg (Nat.le_of_eq fl_new_len.symm) rfl rfl hm0 hm (unmarked_new 128 (by decide)) (by simp; omega))
  have hP6 := k6.arr.lt
  have hs6 : q < W6.heap.size := kq6.lt
  clear k6 kq6 kf6 hg6 z5 zf5 k5 kf5 kb5 kq kA hn1 kf k4 hC hqs hq hs2
  go_wp2_with fail
  refine cN.out.mono ?_
  rintro e w7 ⟨d, c, k, F', rfl, hd, hc, hdc, hdd, kd, k0, kq7, kf7, k7, hC7⟩
  have hP7 := k7.arr.lt
  have hl7 := kf7.lt
  have hq7 := kq7.lt
  have hd7 := kd.lt
  have hc7 := k0.lt
  have hs7 := hC7.size
  have hb8 := below_alloc w7 (.cells #[.string ⟨#[111, 107]⟩] 9)
  have cY := Lib.hid (say_any P w7.heap.size _ (.pointer none) (.slice none 0 0) _ [] [okL] _ (k7.below hb8) (.inl rfl) (World.ownsRow_nil _ _ _ _) hP7 hb8.size (Sts.new1 w7 okL 9) (by decide) (by decide))
  have hsw := hC6.size
  have hg7 := gr_below (row := none) hb8
  clear cN
  replace kd := Lib.hid (kd.below hb8)
  replace k0 := Lib.hid (k0.below hb8)
  replace kq7 := Lib.hid (kq7.below hb8)
  replace kf7 := Lib.hid (kf7.below hb8)
  go_wp2_with fail
  refine cY.out.mono ?_
  rintro e w9 ⟨u', rfl, k9, o9, g9, c9⟩
  have hdP : d ≠ P := by omega
  have hcP : c ≠ P := by omega
  have hC9 : Ch [P] w w9 := ((hC6.drop hC7 (fun k hk => by
    simp only [List.mem_cons, List.not_mem_nil, or_false] at hk ⊢
    omega)).trans (Ch.of_below hb8)).cp c9 (by simp) (by omega)
  have f1 := kd.out.cp c9 hd7 hdP
  have f2 := k0.out.cp c9 hc7 hcP
  have f3 := kq7.out.cp c9 hq7 hqP
  have f4 := kf7.out.cp c9 hl7.1 hl7.2 hpfP hgP'
  have hs9 := Nat.le_trans hb8.size c9.size
  rw [List.nil_append, show joinL [okL] = okL from Lib.join_one _ _] at o9
  replace f1 := Lib.hid f1
  replace f2 := Lib.hid f2
  replace f3 := Lib.hid f3
  replace f4 := Lib.hid f4
  replace k9 := Lib.hid k9
  replace o9 := Lib.hid o9
  clear cY kd k0 kq7 kf7 k7 c9 hC7 hC6 hb8 hg7
  go_wp2_with fail
  go_end0
  exact ⟨pf, q, g, d, c, k, rk, r3, w7.heap.size, _, u', F', rfl, hdd, f1.out, f2.out, f3.out, f4.out, hdc, rfl, rfl, rfl, h1.out.symm, k9.out, o9.out, g9, by omega, hs9, hl7.1, hl7.2, hq7, hd7, hc7, hpf0, hg0, hq0, by omega, by omega, hC9⟩
end Go.Proofs.YtibdgkhkhmdihaaGreatDoor

