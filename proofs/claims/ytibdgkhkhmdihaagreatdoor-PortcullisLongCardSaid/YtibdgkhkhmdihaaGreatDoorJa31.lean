import Derived.Test.YtibdgkhkhmdihaaGreatDoorJa30
import Derived.Test.YtibdgkhkhmdihaaGreatDoorJa01
import Derived.ProofKit
import Derived.OpenShut
import Derived.Deep.Matrix
import Derived.Test.YtibdgkhkhmdihaaGreatDoorRows

namespace Go.Proofs.YtibdgkhkhmdihaaGreatDoor
open Go.RowKit
set_option maxHeartbeats 4000000 in
set_option maxRecDepth 100000 in
theorem do_nought (P d p g c k r s : Nat) (F : Fl) (X : Plr) (a u : Value) (w : World) (kp : Pl w P (X.cs a u)) (hxd : X.d = ptr0 d) (kd : Arr w d (dvv p c false)) (k0 : Arr w c (coZ k r s (-1))) (kf : FlAt w p g F) (hd : F.dead = false) (hdc : d ≠ c) (hcP : c ≠ P) :
    Calls Tryz.prog 51 #[.pointer (some ⟨P, 0, none⟩), .agg #[.int .i64 4, .slice none 0 0, .int .i64 0]] w fun e w' => e = .panicked [{ v := refu 18, recovered := false }] ∧ Ch [c] w w' := by
  obtain ⟨x1, x2, x3, x4, x5, x6, x7, x8, x9⟩ := X
  simp only at hxd
  subst hxd
  have cN := Lib.hid needs_ok
  have cM := Lib.hid (must_no 18 (by decide))
  have cD := Lib.hid (fun w' (hb : Below w.heap.size w w') => ddo4 d p g c k r s F (.slice none 0 0) 0 w' (kd.below hb) (k0.below hb) (kf.below hb) hd hdc)
  have hcl := k0.lt
  clear kd k0 kf hd hdc
  replace kp := Lib.hid kp
  go_enter Tryz.func51, Tryz.ntmps51
  go_upto_region 1 with fail
  refine wp_new1 (fun W hsz kA kb => ?_)
  replace kA : Arr W w.heap.size [.int .i64 4, .slice none 0 0, .int .i64 0] := kA
  have kp1 := Lib.hid (kp.out.below kb)
  have y5 : W.cell? ⟨P, 132, none⟩ = some (.pointer (some ⟨d, 0, none⟩)) := kp1.out.arr.cell (Plr.at _ _ _ (j := 4))
  clear hsz
  go_wp2_with fail
  refine (cN.out _).mono ?_
  rintro e w1 ⟨rfl, hw⟩
  obtain rfl : W = w1 := hw.symm
  clear cN y5
  go_upto_region 2 with fail
  refine Tx.start (fun w' => Ch [c] W w') 9999 11 rfl (by kernel_rfl) ?_
  have hS0 : Ch [c] W W.drew := Ch.of_below (Below.refl _ _).drew
  have hcA : w.heap.size ≠ c := by omega
  refine Tx.seg (A := ?_) 6 31 (by kernel_rfl) (by exact hS0) [0, 1, 2, 3, 4] (by kernel_rfl) ?_ ?_
  rotate_left
  · intro w' hB
    have y5 : w'.cell? ⟨P, 132, none⟩ = some (.pointer (some ⟨d, 0, none⟩)) := (kp1.out.ch hB (by simpa using hcP.symm)).arr.cell (Plr.at _ _ _ (j := 4))
    have yA := kA.ch hB (by simpa using hcA)
    iterate 5 (first | (refine rd_skip rfl rfl ?_; simp only [Act.put, List.setIfInBounds_toArray, List.set_cons_zero, List.set_cons_succ]) | (refine rd_load_arr rfl rfl _ _ rfl _ rfl (by decide +kernel) _ (by assumption) (by first | (rw [lims_len]; kernel_rfl) | (rw [el_rep]; kernel_rfl) | (rw [el_len]; kernel_rfl) | (rw [byts_len]; kernel_rfl) | (rw [us_len]; kernel_rfl) | (rw [bytn_len]; kernel_rfl) | (rw [ens_len, digs_len]; kernel_rfl) | (rw [ptL_len]; kernel_rfl) | (rw [pcs_len]; kernel_rfl) | kernel_rfl) ?_; simp only [Act.put, List.setIfInBounds_toArray, List.set_cons_zero, List.set_cons_succ]) | (refine rd_take (v := ?_) rfl rfl ?_ ?_; rotate_left; (focus (go_simp; try (with_reducible rfl))); simp only [Act.put, List.setIfInBounds_toArray, List.set_cons_zero, List.set_cons_succ]))
    exact rd_nil
  refine Tx.eff 5 63 rfl (by decide +kernel) (fun K hK => ?_)
  go_simp
  refine (cD.out _ kb.drew).mono ?_
  rintro e w2 ⟨rfl, -, hc⟩
  have hS1 : Ch [c] W w2 := hS0.trans hc
  refine hK (fun w' => Ch [c] W w') _ _ hS1 (fun _ h => h) ?_
  clear hK K hS0
  try simp only [Act.put, List.setIfInBounds_toArray, List.set_cons_zero, List.set_cons_succ]
  refine Tx.seg (A := ?_) 0 2047 (by kernel_rfl) (by exact hS1) [6, 7, 8, 9, 10] (by kernel_rfl) ?_ ?_
  rotate_left
  · intro w' hB
    iterate 5 (first | (refine rd_skip rfl rfl ?_; simp only [Act.put, List.setIfInBounds_toArray, List.set_cons_zero, List.set_cons_succ]) | (refine rd_load_arr rfl rfl _ _ rfl _ rfl (by decide +kernel) _ (by assumption) (by first | (rw [lims_len]; kernel_rfl) | (rw [el_rep]; kernel_rfl) | (rw [el_len]; kernel_rfl) | (rw [byts_len]; kernel_rfl) | (rw [us_len]; kernel_rfl) | (rw [bytn_len]; kernel_rfl) | (rw [ens_len, digs_len]; kernel_rfl) | (rw [ptL_len]; kernel_rfl) | (rw [pcs_len]; kernel_rfl) | kernel_rfl) ?_; simp only [Act.put, List.setIfInBounds_toArray, List.set_cons_zero, List.set_cons_succ]) | (refine rd_take (v := ?_) rfl rfl ?_ ?_; rotate_left; (focus (go_simp; try (with_reducible rfl))); simp only [Act.put, List.setIfInBounds_toArray, List.set_cons_zero, List.set_cons_succ]))
    exact rd_nil
  refine Tx.done (by kernel_rfl) ?_
  have hq := (Ch.of_below (M := [c]) kb).trans hS1
  clear hS1 cD kb hc
  go_wp2_with fail
  refine (cM.out _).mono ?_
  rintro e w3 ⟨rfl, rfl⟩
  exact ⟨rfl, rfl, hq⟩
set_option maxHeartbeats 4000000 in
set_option maxRecDepth 100000 in
theorem boot_nought (P d p g c k r s : Nat) (F : Fl) (X : Plr) (a u nv tv : Value) (w : World) (kp : Pl w P (X.cs a u)) (hxd : X.d = ptr0 d) (kd : Arr w d (dvv p c false)) (k0 : Arr w c (coZ k r s (-1))) (kf : FlAt w p g F) (hd : F.dead = false) (hdc : d ≠ c) (hcP : c ≠ P) :
    Calls Tryz.prog 29 #[.pointer (some ⟨P, 0, none⟩), .agg #[nv, tv]] w fun e w' => e = .panicked [{ v := refu 18, recovered := false }] ∧ Ch [c] w w' := by
  have cD := Lib.hid (fun w' (hb : Below w.heap.size w w') => do_nought P d p g c k r s F X a u w' (kp.below hb) hxd (kd.below hb) (k0.below hb) (kf.below hb) hd hdc hcP)
  clear kd k0 kf hd hdc kp hxd hcP
  go_enter Tryz.func29, Tryz.ntmps29
  go_upto_region 1 with fail
  refine wp_new1 (fun W hsz kA kb => ?_)
  clear hsz kA
  go_wp2_with fail
  refine (cD.out _ kb).mono ?_
  rintro e w1 ⟨rfl, hc⟩
  exact ⟨rfl, rfl, (Ch.of_below kb).trans hc⟩
end Go.Proofs.YtibdgkhkhmdihaaGreatDoor


namespace Go.Proofs.YtibdgkhkhmdihaaGreatDoor
open Go.RowKit
theorem numF_ok {l : List UInt8} {n : Int} (h0 : l ≠ []) (h6 : l.length ≤ 6) (hd : ∀ b ∈ l, b ∈ digL) (hz : l = [48] ∨ l[0]? ≠ some 48) (ha : Lib.atoi l = some n) : numF l = some n := by
  classical
  unfold numF
  rw [if_neg, ha]
  rintro (h | h | ⟨b, hb, hn⟩ | ⟨h1, h2⟩)
  · exact h0 h
  · have : (⟨l.toArray⟩ : ByteArray).size = l.length := by simp [ByteArray.size]
    omega
  · exact hn (hd b hb)
  · rcases hz with h | h
    · exact h2 h
    · exact h h1
theorem num_1 : numF [49] = some 1 := numF_ok (by decide) (by decide) (by decide) (.inr (by decide)) (by decide)
theorem num_100 : numF [49, 48, 48] = some 100 := numF_ok (by decide) (by decide) (by decide) (.inr (by decide)) (by decide)
theorem prs_new : prsL [[110, 101, 119], [49], [49, 48, 48]] = some (22, [1, 100], []) := by
  have h : cmdF [110, 101, 119] cmdT = some ([78, 78], 22) := by decide
  simp [prsL, h, prs, num_1, num_100]
theorem prs_boot : prsL [[98, 111, 111, 116]] = some (29, [], []) := by
  have h : cmdF [98, 111, 111, 116] cmdT = some ([], 29) := by decide
  simp [prsL, h, prs]
theorem own_ch1 {w w' : World} {c B : Nat} {e : TypeId} {v : Value} {n : Nat} {xs : List Value} (h : w.ownsRow B e 1 v n xs) (hc : Ch [c] w w') (hcB : c < B) : w'.ownsRow B e 1 v n xs :=
  h.kept (⟨hc.os, hc.tape, hc.output, hc.size, fun k hk hn => hc.block k hk (by simpa using fun e => hn (by rw [e]))⟩ : w.grownBy w' (some c)) (.inr (fun e => by have := own_block h c e; omega))
def alvT : List UInt8 := [110, 101, 119, 32, 49, 32, 49, 48, 48, 10, 98, 111, 111, 116, 10]
def alvO : List UInt8 := [111, 107, 10, 101, 114, 114, 111, 114, 32, 49, 56, 10]
/-- The states of the document's example. -/
def AlvI (P r : Nat) (w0 : World) (j : Nat) (w' : World) : Prop := Ch [P] w0 w' ∧ (P < w0.heap.size ∧ r < w0.heap.size) ∧ r ≠ P ∧ Mp w' r cmdL ∧ (match j with
  | 0 => Pl w' P (iniX.cs (.pointer none) (.slice none 0 0))
  | 1 => ∃ (pf g d c k r1 s1 B : Nat) (X : Plr) (u : Value) (F : Fl), F.dead = false ∧ Arr w' d (dvv pf c false) ∧ Arr w' c (coZ k r1 s1 (-1)) ∧ FlAt w' pf g F ∧ d ≠ c ∧ c ≠ P ∧ X.d = ptr0 d ∧ Pl w' P (X.cs (slf P) u) ∧
      w'.ownsRow B 5 1 u (okL ++ [10]).length (u8s (okL ++ [10])) ∧ w0.heap.size ≤ B ∧ B ≤ w'.heap.size ∧ w0.heap.size ≤ c ∧ c < B
  | _ => ∃ (B : Nat) (X : Plr) (u : Value), Pl w' P (X.cs (slf P) u) ∧ w'.ownsRow B 5 1 u alvO.length (u8s alvO) ∧ w0.heap.size ≤ B)
theorem Mp.grown {w w' : World} {r : Nat} {l : List (ByteArray × Value)} (h : Mp w r l) (hb : w'.heap[r]? = w.heap[r]?) : Mp w' r l := by
  unfold Mp; rw [hb]; exact h
set_option maxHeartbeats 1000000 in
set_option maxRecDepth 100000 in
theorem alv_new (P r : Nat) (w0 w : World) (h : AlvI P r w0 0 w) : Calls Tryz.prog 15 #[.pointer (some ⟨P, 0, none⟩), .string ⟨#[110, 101, 119, 32, 49, 32, 49, 48, 48]⟩, .map (some r)] w fun e w'' => e = .returned (.tuple #[]) ∧ AlvI P r w0 1 w'' := by
  obtain ⟨hC, hP0, hrP, kM, kp⟩ := h
  have kp : Pl w P (iniX.cs (.pointer none) (.slice none 0 0)) := kp
  have hl : lns 32 (⟨#[110, 101, 119, 32, 49, 32, 49, 48, 48]⟩ : ByteArray).data.toList = [[110, 101, 119], [49], [49, 48, 48]] := by decide
  refine line_any P r w kM _ (by decide) (AlvI P r w0 1) (fun h => ?_) (fun f ns ts h W nv tv hb hn ht => ?_)
  · rw [hl, prs_new] at h
    cases h
  · rw [hl, prs_new] at h
    injection h with h
    injection h with h1 h2
    injection h2 with h2 h3
    subst h1 h2 h3
    obtain ⟨gn, cn, rfl, hgn⟩ : ∃ gn cn, nv = .slice (some ⟨gn, 0, none⟩) 2 cn ∧ w.heap.size ≤ gn := by
      rcases hn.2 with ⟨_, hz⟩ | ⟨g, cap, cur, hv, hg, _⟩
      · cases hz
      · exact ⟨g, cap, hv, hg⟩
    have hPl := kp.arr.lt
    have q := fresh_any P gn cn 1 100 (by decide) (by decide) tv iniX W (kp.below hb) (Sl.of_own hn) (by omega)
    refine q.mono ?_
    rintro e W' ⟨pf, q, g, d, c, k, r1, s1, B, X, u, F, he, hd, kd, k0, -, kf, hdc, -, -, hxd, -, kp', ko, hbB, hwB, hBs, -, -, -, -, hcB, -, -, -, -, hwc, hc⟩
    have hs1 := hC.size
    have hs2 := hb.size
    have hcw : Ch [P] w W' := (Ch.of_below hb).trans hc
    exact .inl ⟨he, hC.trans hcw, hP0, hrP, kM.ch hcw (by simpa using hrP), pf, g, d, c, k, r1, s1, B, X, u, F, hd, kd, k0, kf, hdc, by omega, hxd, kp', ko, by omega, hBs, by omega, hcB⟩
set_option maxHeartbeats 1000000 in
set_option maxRecDepth 100000 in
theorem alv_boot (P r : Nat) (w0 w : World) (h : AlvI P r w0 1 w) : Calls Tryz.prog 15 #[.pointer (some ⟨P, 0, none⟩), .string ⟨#[98, 111, 111, 116]⟩, .map (some r)] w fun e w'' => e = .returned (.tuple #[]) ∧ AlvI P r w0 2 w'' := by
  obtain ⟨hC, hP0, hrP, kM, pf, g, d, c, k, r1, s1, B, X, u, F, hd, kd, k0, kf, hdc, hcP, hxd, kp, ko, hwB, hBs, hwc, hcB⟩ := h
  have hl : lns 32 (⟨#[98, 111, 111, 116]⟩ : ByteArray).data.toList = [[98, 111, 111, 116]] := by decide
  refine line_any P r w kM _ (by decide) (AlvI P r w0 2) (fun h => ?_) (fun f ns ts h W nv tv hb hn ht => ?_)
  · rw [hl, prs_boot] at h
    cases h
  · rw [hl, prs_boot] at h
    injection h with h
    injection h with h1 h2
    injection h2 with h2 h3
    subst h1 h2 h3
    have hPl := kp.arr.lt
    have hcl := k0.lt
    have q := boot_nought P d pf g c k r1 s1 F X (slf P) u nv tv W (kp.below hb) hxd (kd.below hb) (k0.below hb) (kf.below hb) hd hdc hcP
    refine q.mono ?_
    rintro e W' ⟨he, hc⟩
    have hs0 := hC.size
    have hs1 := hb.size
    have hs2 := hc.size
    refine .inr ⟨18, by decide, he, ⟨hc.size, fun j hj1 hj2 => hc.block j hj2 (by simp; omega)⟩, fun W2 v hb2 hv => ?_⟩
    have hkp2 : Pl W2 P (X.cs (slf P) u) := ((kp.below hb).ch hc (by simpa using hcP.symm)).below hb2
    have hko2 : W2.ownsRow B 5 1 u (okL ++ [10]).length (u8s (okL ++ [10])) := own_below (own_ch1 (own_below ko hb) hc hcB) hb2
    have hs3 := hb2.size
    have qs := say_any P B X (slf P) u v (okL ++ [10]) [errorL, Lib.decDigits 18] W2 hkp2 (.inr rfl) hko2 (by omega) (by omega) hv (by decide) (by rw [dec_18]; decide)
    refine qs.mono ?_
    rintro e w3 ⟨u', rfl, kp3, ko3, -, hcp⟩
    rw [dec_18] at ko3
    have hc0 : Ch [P] w0 W2 := ((hC.trans (Ch.of_below hb)).drop hc (fun j hj => by simp at hj; subst hj; exact .inr hwc)).trans (Ch.of_below hb2)
    have hM2 : Mp W2 r cmdL := ((kM.below hb).ch hc (by
      intro hr
      simp at hr
      have h1 : w.heap[r]? = some (.map (mpE cmdL 0).toArray cmdL.length) := kM
      obtain ⟨T, h2⟩ := k0
      rw [← hr, h1] at h2
      cases h2)).below hb2
    refine ⟨rfl, hc0.cp hcp (by simp) hwB, hP0, hrP, hM2.cp hcp (by omega) hrP, B, X, u', kp3, ko3, hwB⟩
set_option maxRecDepth 100000 in
theorem alive_play (w : World) : Calls Tryz.prog 8 #[.string ⟨alvT.toArray⟩] w fun e w' => e = .returned (.string ⟨alvO.toArray⟩) ∧ Below w.heap.size w w' := by
  have hn : nLn (⟨alvT.toArray⟩ : ByteArray).data.toList = 2 := by decide
  have hl : lns 10 (⟨alvT.toArray⟩ : ByteArray).data.toList = [[110, 101, 119, 32, 49, 32, 49, 48, 48], [98, 111, 111, 116], []] := by decide
  refine play_ok _ (by decide) (by rw [hn]; decide) w alvO AlvI (fun P r w0 kp kM hrP => ⟨Ch.refl _ _, ⟨kp.arr.lt, kM.lt⟩, hrP, kM, kp⟩) (fun P r w0 j w' h => h.1) ?_ ?_ ?_
  · intro P r w0 j x w' hx hj hs hI
    rw [hl] at hx
    rw [hn] at hj
    exfalso
    rcases j with _ | _ | j
    · simp at hx; subst hx; rcases hs with hs | hs <;> simp at hs
    · simp at hx; subst hx; rcases hs with hs | hs <;> simp at hs
    · omega
  · intro P r w0 j x w' hx hj hs hI
    rw [hl] at hx
    rw [hn] at hj
    rcases j with _ | _ | j
    · simp at hx; subst hx; exact alv_new P r w0 w' hI
    · simp at hx; subst hx; exact alv_boot P r w0 w' hI
    · omega
  · intro P r w0 w' hI
    rw [hn] at hI
    obtain ⟨hC, hP0, hrP, kM, B, X, u, kp, ko, hwB⟩ := hI
    refine (bstr_some P B X (slf P) u alvO w' kp ko (by decide)).mono ?_
    rintro e w'' ⟨he, hb⟩
    exact ⟨he, hb.os, hb.tape, hb.output, hb.size, fun k hk => hb.block k (by omega)⟩
end Go.Proofs.YtibdgkhkhmdihaaGreatDoor


namespace Go.Proofs.YtibdgkhkhmdihaaGreatDoor
open Go.RowKit
set_option maxRecDepth 100000 in
theorem alive29 (w : World) : Calls Tryz.prog 6 #[] w fun e w' => e = .returned (.bool true) ∧ Below w.heap.size w w' := by
  have cP := Lib.hid (show Calls Tryz.prog 8 #[.string ⟨#[110, 101, 119, 32, 49, 32, 49, 48, 48, 10, 98, 111, 111, 116, 10]⟩] w fun e w' => e = .returned (.string ⟨#[111, 107, 10, 101, 114, 114, 111, 114, 32, 49, 56, 10]⟩) ∧ Below w.heap.size w w' from alive_play w)
  go_enter Tryz.func6, Tryz.ntmps6
  go_wp2_with fail
  refine cP.out.mono ?_
  rintro e w1 ⟨rfl, hb⟩
  clear cP
  go_wp2_with fail
  go_ret
  exact ⟨rfl, hb⟩
theorem make_u8L (n : Nat) (hn : n ≤ 1000000) (w : World) : (Instr.makeSlice 26 (.int .i64 (n : Int)) (.int .i64 (n : Int))).run Tryz.prog w = .ok (.slice (some ⟨w.heap.size, 0, none⟩) n n) (w.alloc (.cells (u8s (List.replicate n 0)).toArray 5)) := by
  obtain ⟨i, hi, hz0, hz1, hz2⟩ := info_parts info_u8
  have h := run_makeSlice (P := Tryz.prog) w 26 5 i _ Tryz.underlying26 hi hz0 .i64 .i64 (n : Int) (n : Int) (by omega) (by omega) (by rw [hz1]; omega) (by rw [hz2]; omega) (by omega)
  rw [hz1, Int.toNat_natCast, Nat.mul_one] at h
  have e : madeCells (Value.int .u8 0).cells n = (u8s (List.replicate n 0)).toArray := by
    apply Array.ext
    · rw [size_madeCells]; simp [u8s]
    · intro j h1 h2
      simp [madeCells, u8s, Value.cells, Nat.mod_one]
  rw [e] at h
  exact h
/-- The text, filled so far. -/
def fil (n m i : Nat) : List UInt8 := (List.range i).map (fun j => if j < m then 10 else 35) ++ List.replicate (n - i) 0
theorem fil_len {n m i : Nat} (h : i ≤ n) : (fil n m i).length = n := by simp [fil]; omega
theorem fil_set {n m i : Nat} (h : i < n) : (fil n m i).set i (if i < m then 10 else 35) = fil n m (i + 1) := by
  unfold fil
  rw [List.set_append_right _ _ (by simp), List.length_map, List.length_range, Nat.sub_self, List.range_succ, List.map_append, List.append_assoc, show n - i = (n - (i + 1)) + 1 by omega, List.replicate_succ]
  simp
theorem fil_zero (n m : Nat) : fil n m 0 = List.replicate n 0 := by simp [fil]
theorem fil_all {n m : Nat} (h : m ≤ n) : fil n m n = List.replicate m 10 ++ List.replicate (n - m) 35 := by
  apply List.ext_getElem
  · rw [fil_len (Nat.le_refl _)]; simp; omega
  · intro j h1 h2
    rw [fil_len (Nat.le_refl _)] at h1
    simp only [fil, Nat.sub_self, List.replicate_zero, List.append_nil, List.getElem_map, List.getElem_range, List.getElem_append, List.length_replicate, List.getElem_replicate]
    split <;> rfl
theorem u8s_set (L : List UInt8) (i : Nat) (x : UInt8) : (u8s L).set i (.int .u8 (x.toNat : Int)) = u8s (L.set i x) := by
  simp [u8s, List.map_set]
theorem lns_rep10 (r : List UInt8) : ∀ m, lns 10 (List.replicate m 10 ++ r) = List.replicate m [] ++ lns 10 r
  | 0 => by simp
  | m + 1 => by
    rw [List.replicate_succ, List.cons_append, show lns 10 (10 :: (List.replicate m 10 ++ r)) = [] :: lns 10 (List.replicate m 10 ++ r) from rfl, lns_rep10 r m, List.replicate_succ, List.cons_append]
theorem lns_rep35 : ∀ k, lns 10 (List.replicate k 35) = [List.replicate k 35]
  | 0 => rfl
  | k + 1 => by
    rw [List.replicate_succ, show lns 10 (35 :: List.replicate k 35) = ahd 35 (lns 10 (List.replicate k 35)) from rfl, lns_rep35 k]
    rfl
theorem lns_fil (m k : Nat) : lns 10 (List.replicate m 10 ++ List.replicate k 35) = List.replicate m [] ++ [List.replicate k 35] := by rw [lns_rep10, lns_rep35]
theorem cnt_fil (m k : Nat) : (List.replicate m (10 : UInt8) ++ List.replicate k 35).count 10 = m := by
  rw [List.count_append, List.count_replicate_self, List.count_replicate]
  simp
theorem nLn_fil (m k : Nat) : nLn (List.replicate m 10 ++ List.replicate k 35) = if k = 0 then m else m + 1 := by
  unfold nLn
  rw [lns_fil, cnt_fil, List.getElem?_append_right (by simp), List.length_replicate, Nat.sub_self]
  cases k with
  | zero => simp
  | succ k => simp [List.replicate_succ]
theorem skp_fil (m k j : Nat) (x : List UInt8) (h : (List.replicate m ([] : List UInt8) ++ [List.replicate k 35])[j]? = some x) : skp x := by
  rcases Nat.lt_or_ge j m with hj | hj
  · rw [List.getElem?_append_left (by simpa using hj), List.getElem?_replicate, if_pos hj] at h
    injection h with h
    exact .inl h.symm
  · rw [List.getElem?_append_right (by simpa using hj)] at h
    cases hk : j - (List.replicate m ([] : List UInt8)).length with
    | zero =>
      rw [hk] at h
      simp only [List.getElem?_cons_zero, Option.some.injEq] at h
      subst h
      cases k with
      | zero => exact .inl rfl
      | succ k => exact .inr (by simp [List.replicate_succ])
    | succ i => rw [hk] at h; simp at h
set_option maxRecDepth 100000 in
/-- A text of empty lines and one remark tells nothing. -/
theorem play_fil (m k : Nat) (hs : m + k ≤ 262144) (hl : (if k = 0 then m else m + 1) ≤ 8000) (w : World) :
    Calls Tryz.prog 8 #[.string ⟨(List.replicate m (10 : UInt8) ++ List.replicate k 35).toArray⟩] w fun e w' => e = .returned (.string ⟨#[]⟩) ∧ Below w.heap.size w w' := by
  refine play_ok _ (by simpa [ByteArray.size] using hs) (by show nLn (List.replicate m 10 ++ List.replicate k 35) ≤ 8000; rw [nLn_fil]; exact hl) w [] (fun P r w0 j w' => w' = w0 ∧ Pl w' P (iniX.cs (.pointer none) (.slice none 0 0)))
    (fun P r w0 kp kM hrP => ⟨rfl, kp⟩) (fun P r w0 j w' h => h.1 ▸ Ch.refl _ _) (fun P r w0 j x w' hx hj hs h => h) (fun P r w0 j x w' hx hj hs h => ?_) (fun P r w0 w' h => ?_)
  · have hx' : (lns 10 (List.replicate m 10 ++ List.replicate k 35))[j]? = some x := hx
    rw [lns_fil] at hx'
    exact absurd (skp_fil m k j x hx') hs
  · refine (bstr_nil P iniX (.pointer none) w' h.2).mono ?_
    rintro e w'' ⟨he, hb⟩
    exact ⟨he, by have := h.1; subst this; exact hb⟩
theorem play_fil_long (m k : Nat) (hs : m + k < 4294967281) (hl : 262144 < m + k ∨ 8000 < (if k = 0 then m else m + 1)) (w : World) :
    Calls Tryz.prog 8 #[.string ⟨(List.replicate m (10 : UInt8) ++ List.replicate k 35).toArray⟩] w fun e w' => e = .returned (.string ⟨#[101, 114, 114, 111, 114, 32, 51, 10]⟩) ∧ Below w.heap.size w w' := by
  refine play_long _ (by simpa [ByteArray.size] using hs) ?_ w
  rcases hl with h | h
  · left; simpa [ByteArray.size] using h
  · right
    show 8000 < nLn (List.replicate m 10 ++ List.replicate k 35)
    rw [nLn_fil]; exact h
end Go.Proofs.YtibdgkhkhmdihaaGreatDoor


namespace Go.Proofs.YtibdgkhkhmdihaaGreatDoor
open Go.RowKit
set_option maxHeartbeats 4000000 in
set_option maxRecDepth 100000 in
theorem portcullisLong_walk (a0 a1 : Int) (w : World) (_ : (Lit.int .i64 a0).wf = true) (_ : (Lit.int .i64 a1).wf = true) :
    Calls Tryz.prog 4 #[.int .i64 a0, .int .i64 a1] w fun e w' => e = .returned (.bool true) ∧ Below w.heap.size w w' := by
  by_cases h1 : a0 < 0
  · skip
    go_enter Tryz.func4, Tryz.ntmps4
    go_wp2_with fail
    refine (alive29 _).mono ?_
    rintro e w1 ⟨rfl, hb1⟩
    go_wp2_with fail
    go_ret
    exact ⟨rfl, hb1⟩
  by_cases h2 : 300000 < a0
  · skip
    go_enter Tryz.func4, Tryz.ntmps4
    go_wp2_with fail
    refine (alive29 _).mono ?_
    rintro e w1 ⟨rfl, hb1⟩
    go_wp2_with fail
    go_ret
    exact ⟨rfl, hb1⟩
  by_cases h3 : a1 < 0
  · skip
    go_enter Tryz.func4, Tryz.ntmps4
    go_wp2_with fail
    refine (alive29 _).mono ?_
    rintro e w1 ⟨rfl, hb1⟩
    go_wp2_with fail
    go_ret
    exact ⟨rfl, hb1⟩
  by_cases h4 : 9000 < a1
  · skip
    go_enter Tryz.func4, Tryz.ntmps4
    go_wp2_with fail
    refine (alive29 _).mono ?_
    rintro e w1 ⟨rfl, hb1⟩
    go_wp2_with fail
    go_ret
    exact ⟨rfl, hb1⟩
  by_cases h5 : a0 < a1
  · skip
    go_enter Tryz.func4, Tryz.ntmps4
    go_wp2_with fail
    refine (alive29 _).mono ?_
    rintro e w1 ⟨rfl, hb1⟩
    go_wp2_with fail
    go_ret
    exact ⟨rfl, hb1⟩
  obtain ⟨n, rfl⟩ : ∃ n : Nat, a0 = (n : Int) := ⟨a0.toNat, by omega⟩
  obtain ⟨m, rfl⟩ : ∃ m : Nat, a1 = (m : Int) := ⟨a1.toNat, by omega⟩
  have hn : n ≤ 300000 := by omega
  have hm : m ≤ 9000 := by omega
  have hmn : m ≤ n := by omega
  have e1 : decide ((n : Int) < 0) = false := decide_eq_false (by omega)
  have e2 : decide ((300000 : Int) < (n : Int)) = false := decide_eq_false (by omega)
  have e3 : decide ((m : Int) < 0) = false := decide_eq_false (by omega)
  have e4 : decide ((9000 : Int) < (m : Int)) = false := decide_eq_false (by omega)
  have e5 : decide (n < m) = false := decide_eq_false (by omega)
  have cA := Lib.hid (fun w => alive29 w)
  have hmk := fun w => make_u8L n (by omega) w
  have hnew := fun w : World => Arr.new w (u8s (List.replicate n 0)).toArray 5
  obtain ⟨Z, hZ⟩ : ∃ z, (u8s (List.replicate n 0)).toArray = z := ⟨_, rfl⟩
  simp only [hZ] at hmk hnew
  replace hnew := Lib.hid hnew
  clear hZ
  go_enter Tryz.func4, Tryz.ntmps4
  go_wp2_with fail
  refine (cA.out _).mono ?_
  rintro e w1 ⟨rfl, hb1⟩
  clear cA
  go_upto_region 6 with fail
  have kb := bel hb1 (below_alloc w1 (.cells Z 5))
  have k0 := hnew.out w1
  rw [← fil_zero n m] at k0
  have hg := hb1.size
  generalize w1.alloc (.cells Z 5) = w2 at kb k0 ⊢
  obtain ⟨g, hgg⟩ : ∃ k, w1.heap.size = k := ⟨_, rfl⟩
  rw [hgg] at k0 hg ⊢
  clear hmk hnew hb1 hgg
  go_loopw [7] (fun iv wr => ∃ i : Nat, i ≤ n ∧ iv = .int .i64 i ∧ Arr wr g (u8s (fil n m i)) ∧ Below w.heap.size w wr) (fun iv _ => n - (intOf iv).toNat)
  case atStart => exact ⟨0, Nat.zero_le _, rfl, k0, kb⟩
  case round =>
  clear k0 kb
  obtain ⟨i, hi, rfl, k0, kb⟩ := hrel
  have hi0 : (0 : Int) ≤ (i : Int) := by omega
  by_cases hin : i < n
  · have hi1 : (i : Int) < (n : Int) := by omega
    have hl : (fil n m i).length = n := fil_len hi
    have hst := fil_set (m := m) hin
    by_cases him : i < m
    · have him1 : (i : Int) < (m : Int) := by omega
      rw [if_pos him] at hst
      go_upto_region 9 with (refine wpl_cellG rfl _ _ _ rfl g i (.int .u8 35) rfl rfl _ k0 (by kernel_rfl) (by rw [u8s_len, hl]; exact hin) rfl (fun w3 k3 hg3 hsz3 => ?_))
      have kb3 := below_gr kb hg3 hg kb.size
      rw [show (Value.int .u8 35) = .int .u8 (((35 : UInt8).toNat : Nat) : Int) from rfl, u8s_set] at k3
      go_wp2_with (refine wpl_cellG rfl _ _ _ rfl g i (.int .u8 10) rfl rfl _ k3 (by kernel_rfl) (by rw [u8s_len, List.length_set, hl]; exact hin) rfl (fun w4 k4 hg4 hsz4 => ?_))
      have kb4 := below_gr kb3 hg4 hg kb3.size
      rw [show (Value.int .u8 10) = .int .u8 (((10 : UInt8).toNat : Nat) : Int) from rfl, u8s_set, List.set_set, hst] at k4
      exact ⟨⟨i + 1, by omega, by go_num, k4, kb4⟩, by simp [intOf]; omega⟩
    · have him1 : ¬ (i : Int) < (m : Int) := by omega
      rw [if_neg him] at hst
      go_wp2_with (refine wpl_cellG rfl _ _ _ rfl g i (.int .u8 35) rfl rfl _ k0 (by kernel_rfl) (by rw [u8s_len, hl]; exact hin) rfl (fun w3 k3 hg3 hsz3 => ?_))
      have kb3 := below_gr kb hg3 hg kb.size
      rw [show (Value.int .u8 35) = .int .u8 (((35 : UInt8).toNat : Nat) : Int) from rfl, u8s_set, hst] at k3
      exact ⟨⟨i + 1, by omega, by go_num, k3, kb3⟩, by simp [intOf]; omega⟩
  · obtain rfl : i = n := by omega
    have hi1 : ¬ (i : Int) < (i : Int) := by omega
    rw [fil_all hmn] at k0
    obtain ⟨k, hk⟩ : ∃ k, i - m = k := ⟨_, rfl⟩
    rw [hk] at k0
    have hcv := run_string_sl (P := Tryz.prog) (Sl.ofArrN (m := i) k0 (by simp; omega) (by omega)) 26 5 9 (by kernel_rfl) (by kernel_rfl) (by kernel_rfl)
    have cP : (m + k ≤ 262144 ∧ (if k = 0 then m else m + 1) ≤ 8000 ∧ Hid (∀ w, Calls Tryz.prog 8 #[.string ⟨(List.replicate m (10 : UInt8) ++ List.replicate k 35).toArray⟩] w fun e w' => e = .returned (.string ⟨#[]⟩) ∧ Below w.heap.size w w')) ∨
        ((262144 < m + k ∨ 8000 < (if k = 0 then m else m + 1)) ∧ Hid (∀ w, Calls Tryz.prog 8 #[.string ⟨(List.replicate m (10 : UInt8) ++ List.replicate k 35).toArray⟩] w fun e w' => e = .returned (.string ⟨#[101, 114, 114, 111, 114, 32, 51, 10]⟩) ∧ Below w.heap.size w w')) := by
      by_cases hh : m + k ≤ 262144 ∧ (if k = 0 then m else m + 1) ≤ 8000
      · exact .inl ⟨hh.1, hh.2, Lib.hid (fun w => play_fil m k hh.1 hh.2 w)⟩
      · exact .inr ⟨by omega, Lib.hid (fun w => play_fil_long m k (by omega) (by omega) w)⟩
    obtain ⟨T, hT⟩ : ∃ T : ByteArray, (⟨(List.replicate m (10 : UInt8) ++ List.replicate k 35).toArray⟩ : ByteArray) = T := ⟨_, rfl⟩
    rw [hT] at cP hcv
    clear k0 hT
    by_cases hk0 : k = 0
    · have q1 : ¬ (m : Int) < (i : Int) := by omega
      rcases cP with ⟨p1, p2, cP⟩ | ⟨p, cP⟩
      · rw [if_pos hk0] at p2
        have q2 : ¬ (262144 : Int) < (i : Int) := by omega
        have q3 : ¬ (8000 : Int) < (m : Int) := by omega
        go_wp2_with fail
        refine (cP.out _).mono ?_
        rintro e w9 ⟨rfl, hb⟩
        go_wp2_with fail
        go_ret
        exact ⟨rfl, bel kb hb⟩
      · rw [if_pos hk0] at p
        by_cases hbig : (262144 : Int) < (i : Int)
        · skip
          go_wp2_with fail
          refine (cP.out _).mono ?_
          rintro e w9 ⟨rfl, hb⟩
          go_wp2_with fail
          go_ret
          exact ⟨rfl, bel kb hb⟩
        · have q3 : (8000 : Int) < (m : Int) := by omega
          go_wp2_with fail
          refine (cP.out _).mono ?_
          rintro e w9 ⟨rfl, hb⟩
          go_wp2_with fail
          go_ret
          exact ⟨rfl, bel kb hb⟩
    · have q1 : (m : Int) < (i : Int) := by omega
      have qw : IntKind.i64.wrap ((m : Int) + 1) = (m : Int) + 1 := i64_in (by omega)
      rcases cP with ⟨p1, p2, cP⟩ | ⟨p, cP⟩
      · rw [if_neg hk0] at p2
        have q2 : ¬ (262144 : Int) < (i : Int) := by omega
        have q3 : ¬ (8000 : Int) < (m : Int) + 1 := by omega
        go_wp2_with fail
        refine (cP.out _).mono ?_
        rintro e w9 ⟨rfl, hb⟩
        go_wp2_with fail
        go_ret
        exact ⟨rfl, bel kb hb⟩
      · rw [if_neg hk0] at p
        by_cases hbig : (262144 : Int) < (i : Int)
        · skip
          go_wp2_with fail
          refine (cP.out _).mono ?_
          rintro e w9 ⟨rfl, hb⟩
          go_wp2_with fail
          go_ret
          exact ⟨rfl, bel kb hb⟩
        · have q3 : (8000 : Int) < (m : Int) + 1 := by omega
          go_wp2_with fail
          refine (cP.out _).mono ?_
          rintro e w9 ⟨rfl, hb⟩
          go_wp2_with fail
          go_ret
          exact ⟨rfl, bel kb hb⟩
end Go.Proofs.YtibdgkhkhmdihaaGreatDoor


namespace Go.Proofs.YtibdgkhkhmdihaaGreatDoor
set_option maxRecDepth 1000000 in
theorem head_signs : Tryz.prog.initOrder = String.ofList [Char.ofNat 104, Char.ofNat 97, Char.ofNat 114, Char.ofNat 110, Char.ofNat 101, Char.ofNat 115, Char.ofNat 115, Char.ofNat 32, Char.ofNat 56, Char.ofNat 49, Char.ofNat 54, Char.ofNat 99, Char.ofNat 97, Char.ofNat 51, Char.ofNat 101, Char.ofNat 50, Char.ofNat 54, Char.ofNat 55, Char.ofNat 56, Char.ofNat 51, Char.ofNat 100, Char.ofNat 100, Char.ofNat 101, Char.ofNat 99, Char.ofNat 52, Char.ofNat 99, Char.ofNat 102, Char.ofNat 55, Char.ofNat 97, Char.ofNat 56, Char.ofNat 54, Char.ofNat 49, Char.ofNat 50, Char.ofNat 52, Char.ofNat 98, Char.ofNat 54, Char.ofNat 48, Char.ofNat 50, Char.ofNat 54, Char.ofNat 49, Char.ofNat 54, Char.ofNat 98, Char.ofNat 49, Char.ofNat 57, Char.ofNat 54, Char.ofNat 54, Char.ofNat 57, Char.ofNat 49, Char.ofNat 97, Char.ofNat 98, Char.ofNat 48, Char.ofNat 52, Char.ofNat 100, Char.ofNat 50, Char.ofNat 53, Char.ofNat 54, Char.ofNat 48, Char.ofNat 48, Char.ofNat 98, Char.ofNat 100, Char.ofNat 50, Char.ofNat 56, Char.ofNat 50, Char.ofNat 101, Char.ofNat 100, Char.ofNat 99, Char.ofNat 48, Char.ofNat 98, Char.ofNat 51, Char.ofNat 52, Char.ofNat 49, Char.ofNat 102, Char.ofNat 32, Char.ofNat 99, Char.ofNat 117, Char.ofNat 116, Char.ofNat 32, Char.ofNat 97, Char.ofNat 116, Char.ofNat 32, Char.ofNat 112, Char.ofNat 111, Char.ofNat 114, Char.ofNat 116, Char.ofNat 99, Char.ofNat 117, Char.ofNat 108, Char.ofNat 108, Char.ofNat 105, Char.ofNat 115, Char.ofNat 47, Char.ofNat 112, Char.ofNat 111, Char.ofNat 114, Char.ofNat 116, Char.ofNat 99, Char.ofNat 117, Char.ofNat 108, Char.ofNat 108, Char.ofNat 105, Char.ofNat 115, Char.ofNat 108, Char.ofNat 97, Char.ofNat 119, Char.ofNat 50, Char.ofNat 57, Char.ofNat 46, Char.ofNat 80, Char.ofNat 111, Char.ofNat 114, Char.ofNat 116, Char.ofNat 99, Char.ofNat 117, Char.ofNat 108, Char.ofNat 108, Char.ofNat 105, Char.ofNat 115, Char.ofNat 83, Char.ofNat 112, Char.ofNat 108, Char.ofNat 105, Char.ofNat 116, Char.ofNat 32, Char.ofNat 112, Char.ofNat 111, Char.ofNat 114, Char.ofNat 116, Char.ofNat 99, Char.ofNat 117, Char.ofNat 108, Char.ofNat 108, Char.ofNat 105, Char.ofNat 115, Char.ofNat 47, Char.ofNat 112, Char.ofNat 111, Char.ofNat 114, Char.ofNat 116, Char.ofNat 99, Char.ofNat 117, Char.ofNat 108, Char.ofNat 108, Char.ofNat 105, Char.ofNat 115, Char.ofNat 108, Char.ofNat 97, Char.ofNat 119, Char.ofNat 50, Char.ofNat 57, Char.ofNat 46, Char.ofNat 80, Char.ofNat 111, Char.ofNat 114, Char.ofNat 116, Char.ofNat 99, Char.ofNat 117, Char.ofNat 108, Char.ofNat 108, Char.ofNat 105, Char.ofNat 115, Char.ofNat 76, Char.ofNat 111, Char.ofNat 110, Char.ofNat 103, Char.ofNat 32, Char.ofNat 112, Char.ofNat 111, Char.ofNat 114, Char.ofNat 116, Char.ofNat 99, Char.ofNat 117, Char.ofNat 108, Char.ofNat 108, Char.ofNat 105, Char.ofNat 115, Char.ofNat 47, Char.ofNat 112, Char.ofNat 111, Char.ofNat 114, Char.ofNat 116, Char.ofNat 99, Char.ofNat 117, Char.ofNat 108, Char.ofNat 108, Char.ofNat 105, Char.ofNat 115, Char.ofNat 108, Char.ofNat 97, Char.ofNat 119, Char.ofNat 50, Char.ofNat 57, Char.ofNat 46, Char.ofNat 80, Char.ofNat 111, Char.ofNat 114, Char.ofNat 116, Char.ofNat 99, Char.ofNat 117, Char.ofNat 108, Char.ofNat 108, Char.ofNat 105, Char.ofNat 115, Char.ofNat 87, Char.ofNat 114, Char.ofNat 111, Char.ofNat 110, Char.ofNat 103] := by kernel_rfl
set_option maxRecDepth 1000000 in
theorem head_list : Tryz.prog.initOrder.toList = [Char.ofNat 104, Char.ofNat 97, Char.ofNat 114, Char.ofNat 110, Char.ofNat 101, Char.ofNat 115, Char.ofNat 115, Char.ofNat 32, Char.ofNat 56, Char.ofNat 49, Char.ofNat 54, Char.ofNat 99, Char.ofNat 97, Char.ofNat 51, Char.ofNat 101, Char.ofNat 50, Char.ofNat 54, Char.ofNat 55, Char.ofNat 56, Char.ofNat 51, Char.ofNat 100, Char.ofNat 100, Char.ofNat 101, Char.ofNat 99, Char.ofNat 52, Char.ofNat 99, Char.ofNat 102, Char.ofNat 55, Char.ofNat 97, Char.ofNat 56, Char.ofNat 54, Char.ofNat 49, Char.ofNat 50, Char.ofNat 52, Char.ofNat 98, Char.ofNat 54, Char.ofNat 48, Char.ofNat 50, Char.ofNat 54, Char.ofNat 49, Char.ofNat 54, Char.ofNat 98, Char.ofNat 49, Char.ofNat 57, Char.ofNat 54, Char.ofNat 54, Char.ofNat 57, Char.ofNat 49, Char.ofNat 97, Char.ofNat 98, Char.ofNat 48, Char.ofNat 52, Char.ofNat 100, Char.ofNat 50, Char.ofNat 53, Char.ofNat 54, Char.ofNat 48, Char.ofNat 48, Char.ofNat 98, Char.ofNat 100, Char.ofNat 50, Char.ofNat 56, Char.ofNat 50, Char.ofNat 101, Char.ofNat 100, Char.ofNat 99, Char.ofNat 48, Char.ofNat 98, Char.ofNat 51, Char.ofNat 52, Char.ofNat 49, Char.ofNat 102, Char.ofNat 32, Char.ofNat 99, Char.ofNat 117, Char.ofNat 116, Char.ofNat 32, Char.ofNat 97, Char.ofNat 116, Char.ofNat 32, Char.ofNat 112, Char.ofNat 111, Char.ofNat 114, Char.ofNat 116, Char.ofNat 99, Char.ofNat 117, Char.ofNat 108, Char.ofNat 108, Char.ofNat 105, Char.ofNat 115, Char.ofNat 47, Char.ofNat 112, Char.ofNat 111, Char.ofNat 114, Char.ofNat 116, Char.ofNat 99, Char.ofNat 117, Char.ofNat 108, Char.ofNat 108, Char.ofNat 105, Char.ofNat 115, Char.ofNat 108, Char.ofNat 97, Char.ofNat 119, Char.ofNat 50, Char.ofNat 57, Char.ofNat 46, Char.ofNat 80, Char.ofNat 111, Char.ofNat 114, Char.ofNat 116, Char.ofNat 99, Char.ofNat 117, Char.ofNat 108, Char.ofNat 108, Char.ofNat 105, Char.ofNat 115, Char.ofNat 83, Char.ofNat 112, Char.ofNat 108, Char.ofNat 105, Char.ofNat 116, Char.ofNat 32, Char.ofNat 112, Char.ofNat 111, Char.ofNat 114, Char.ofNat 116, Char.ofNat 99, Char.ofNat 117, Char.ofNat 108, Char.ofNat 108, Char.ofNat 105, Char.ofNat 115, Char.ofNat 47, Char.ofNat 112, Char.ofNat 111, Char.ofNat 114, Char.ofNat 116, Char.ofNat 99, Char.ofNat 117, Char.ofNat 108, Char.ofNat 108, Char.ofNat 105, Char.ofNat 115, Char.ofNat 108, Char.ofNat 97, Char.ofNat 119, Char.ofNat 50, Char.ofNat 57, Char.ofNat 46, Char.ofNat 80, Char.ofNat 111, Char.ofNat 114, Char.ofNat 116, Char.ofNat 99, Char.ofNat 117, Char.ofNat 108, Char.ofNat 108, Char.ofNat 105, Char.ofNat 115, Char.ofNat 76, Char.ofNat 111, Char.ofNat 110, Char.ofNat 103, Char.ofNat 32, Char.ofNat 112, Char.ofNat 111, Char.ofNat 114, Char.ofNat 116, Char.ofNat 99, Char.ofNat 117, Char.ofNat 108, Char.ofNat 108, Char.ofNat 105, Char.ofNat 115, Char.ofNat 47, Char.ofNat 112, Char.ofNat 111, Char.ofNat 114, Char.ofNat 116, Char.ofNat 99, Char.ofNat 117, Char.ofNat 108, Char.ofNat 108, Char.ofNat 105, Char.ofNat 115, Char.ofNat 108, Char.ofNat 97, Char.ofNat 119, Char.ofNat 50, Char.ofNat 57, Char.ofNat 46, Char.ofNat 80, Char.ofNat 111, Char.ofNat 114, Char.ofNat 116, Char.ofNat 99, Char.ofNat 117, Char.ofNat 108, Char.ofNat 108, Char.ofNat 105, Char.ofNat 115, Char.ofNat 87, Char.ofNat 114, Char.ofNat 111, Char.ofNat 110, Char.ofNat 103] := by rw [head_signs, String.toList_ofList]
set_option maxRecDepth 1000000 in
theorem head_first : ((behindMainWord (wordsSigns [Char.ofNat 104, Char.ofNat 97, Char.ofNat 114, Char.ofNat 110, Char.ofNat 101, Char.ofNat 115, Char.ofNat 115, Char.ofNat 32, Char.ofNat 56, Char.ofNat 49, Char.ofNat 54, Char.ofNat 99, Char.ofNat 97, Char.ofNat 51, Char.ofNat 101, Char.ofNat 50, Char.ofNat 54, Char.ofNat 55, Char.ofNat 56, Char.ofNat 51, Char.ofNat 100, Char.ofNat 100, Char.ofNat 101, Char.ofNat 99, Char.ofNat 52, Char.ofNat 99, Char.ofNat 102, Char.ofNat 55, Char.ofNat 97, Char.ofNat 56, Char.ofNat 54, Char.ofNat 49, Char.ofNat 50, Char.ofNat 52, Char.ofNat 98, Char.ofNat 54, Char.ofNat 48, Char.ofNat 50, Char.ofNat 54, Char.ofNat 49, Char.ofNat 54, Char.ofNat 98, Char.ofNat 49, Char.ofNat 57, Char.ofNat 54, Char.ofNat 54, Char.ofNat 57, Char.ofNat 49, Char.ofNat 97, Char.ofNat 98, Char.ofNat 48, Char.ofNat 52, Char.ofNat 100, Char.ofNat 50, Char.ofNat 53, Char.ofNat 54, Char.ofNat 48, Char.ofNat 48, Char.ofNat 98, Char.ofNat 100, Char.ofNat 50, Char.ofNat 56, Char.ofNat 50, Char.ofNat 101, Char.ofNat 100, Char.ofNat 99, Char.ofNat 48, Char.ofNat 98, Char.ofNat 51, Char.ofNat 52, Char.ofNat 49, Char.ofNat 102, Char.ofNat 32, Char.ofNat 99, Char.ofNat 117, Char.ofNat 116, Char.ofNat 32, Char.ofNat 97, Char.ofNat 116, Char.ofNat 32, Char.ofNat 112, Char.ofNat 111, Char.ofNat 114, Char.ofNat 116, Char.ofNat 99, Char.ofNat 117, Char.ofNat 108, Char.ofNat 108, Char.ofNat 105, Char.ofNat 115, Char.ofNat 47, Char.ofNat 112, Char.ofNat 111, Char.ofNat 114, Char.ofNat 116, Char.ofNat 99, Char.ofNat 117, Char.ofNat 108, Char.ofNat 108, Char.ofNat 105, Char.ofNat 115, Char.ofNat 108, Char.ofNat 97, Char.ofNat 119, Char.ofNat 50, Char.ofNat 57, Char.ofNat 46, Char.ofNat 80, Char.ofNat 111, Char.ofNat 114, Char.ofNat 116, Char.ofNat 99, Char.ofNat 117, Char.ofNat 108, Char.ofNat 108, Char.ofNat 105, Char.ofNat 115, Char.ofNat 83, Char.ofNat 112, Char.ofNat 108, Char.ofNat 105, Char.ofNat 116, Char.ofNat 32, Char.ofNat 112, Char.ofNat 111, Char.ofNat 114, Char.ofNat 116, Char.ofNat 99, Char.ofNat 117, Char.ofNat 108, Char.ofNat 108, Char.ofNat 105, Char.ofNat 115, Char.ofNat 47, Char.ofNat 112, Char.ofNat 111, Char.ofNat 114, Char.ofNat 116, Char.ofNat 99, Char.ofNat 117, Char.ofNat 108, Char.ofNat 108, Char.ofNat 105, Char.ofNat 115, Char.ofNat 108, Char.ofNat 97, Char.ofNat 119, Char.ofNat 50, Char.ofNat 57, Char.ofNat 46, Char.ofNat 80, Char.ofNat 111, Char.ofNat 114, Char.ofNat 116, Char.ofNat 99, Char.ofNat 117, Char.ofNat 108, Char.ofNat 108, Char.ofNat 105, Char.ofNat 115, Char.ofNat 76, Char.ofNat 111, Char.ofNat 110, Char.ofNat 103, Char.ofNat 32, Char.ofNat 112, Char.ofNat 111, Char.ofNat 114, Char.ofNat 116, Char.ofNat 99, Char.ofNat 117, Char.ofNat 108, Char.ofNat 108, Char.ofNat 105, Char.ofNat 115, Char.ofNat 47, Char.ofNat 112, Char.ofNat 111, Char.ofNat 114, Char.ofNat 116, Char.ofNat 99, Char.ofNat 117, Char.ofNat 108, Char.ofNat 108, Char.ofNat 105, Char.ofNat 115, Char.ofNat 108, Char.ofNat 97, Char.ofNat 119, Char.ofNat 50, Char.ofNat 57, Char.ofNat 46, Char.ofNat 80, Char.ofNat 111, Char.ofNat 114, Char.ofNat 116, Char.ofNat 99, Char.ofNat 117, Char.ofNat 108, Char.ofNat 108, Char.ofNat 105, Char.ofNat 115, Char.ofNat 87, Char.ofNat 114, Char.ofNat 111, Char.ofNat 110, Char.ofNat 103])).head? == some "cut".toList) = true := by kernel_rfl
theorem head_cut : ∃ r, behindMainWord (wordsSigns Tryz.prog.initOrder.toList) = "cut".toList :: r := by
  rw [head_list]
  exact List.head?_eq_some_iff.1 (eq_of_beq head_first)
theorem head_strip (r : List (List Char)) : stripLifts liftWords ("cut".toList :: r) = ([], "cut".toList :: r) := by kernel_rfl
theorem head_later : Tryz.prog.laysLater = false := by kernel_rfl
theorem head_reflect : Tryz.prog.bearsReflect = false := by kernel_rfl
theorem head_door : Tryz.prog.doorFits [] = true := by kernel_rfl
theorem enter_of (P : Program) (r : List (List Char)) (h : behindMainWord (wordsSigns P.initOrder.toList) = "cut".toList :: r) (h1 : P.laysLater = false) (h2 : P.bearsReflect = false) (h3 : P.doorFits [] = true) : P.mayEnter = true := by
  unfold Program.mayEnter
  rw [h]
  simp only [head_strip, h1, h2, h3]
  simp
theorem none_of (P : Program) (r : List (List Char)) (h : behindMainWord (wordsSigns P.initOrder.toList) = "cut".toList :: r) : P.headLifts = [] := by
  unfold Program.headLifts
  rw [h]
  simp only [head_strip]
  simp
theorem lifts_of (P : Program) (r : List (List Char)) (h : behindMainWord (wordsSigns P.initOrder.toList) = "cut".toList :: r) : P.liftsFinal = false := by
  unfold Program.liftsFinal
  rw [h, none_of P r h]
  simp
theorem make_of (P : Program) (r : List (List Char)) (h : behindMainWord (wordsSigns P.initOrder.toList) = "cut".toList :: r) : P.make = some .cut := by
  unfold Program.make
  rw [h]
  simp
theorem head_enter : Tryz.prog.mayEnter = true := by
  obtain ⟨r, h⟩ := head_cut
  exact enter_of _ r h head_later head_reflect head_door
theorem head_lifts : Tryz.prog.liftsFinal = false := by
  obtain ⟨r, h⟩ := head_cut
  exact lifts_of _ r h
theorem head_make : Tryz.prog.make = some .cut := by
  obtain ⟨r, h⟩ := head_cut
  exact make_of _ r h
end Go.Proofs.YtibdgkhkhmdihaaGreatDoor

