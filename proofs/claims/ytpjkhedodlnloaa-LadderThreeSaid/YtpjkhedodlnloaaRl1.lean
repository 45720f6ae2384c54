/- Reference of the ladder. -/
import Derived.Test.YtpjkhedodlnloaaRf8
import Derived.Test.YtpjkhedodlnloaaLd3
namespace Go.Proofs.Ytpjkhedodlnloaa
open Go.RowKit

theorem EU.cong {m n U : Int} (h : EU m U) (e : m % pN = n % pN) : EU n U := El.cong h e
theorem EU.addN {a b : Nat} {U V R : Int} (hx : EU a U) (hy : EU b V) (hR : Hid (fv U + fv V = R)) : EU ((a + b) % pN : Nat) R := by
  rw [← hR.out]; exact (EU.add hx hy).cong (by rw [Int.natCast_emod, Int.natCast_add, Int.emod_emod])
theorem EU.subN {a b : Nat} (ha : a < pN) (hb : b < pN) {U V R : Int} (hx : EU a U) (hy : EU b V) (hR : Hid (fv U - fv V = R)) : EU ((a + pN - b) % pN : Nat) R := by
  rw [← hR.out]
  refine (EU.sub hx hy).cong ?_
  have h := sub_modZ a b
  rw [Nat.mod_eq_of_lt ha, Nat.mod_eq_of_lt hb] at h
  rw [h, Int.natCast_emod, Int.emod_emod]
theorem EU.mulN {a b : Nat} {U V R : Int} (hx : EU a U) (hy : EU b V) (hR : Hid (mulU U V = R)) : EU (a * b % pN : Nat) R := by
  rw [← hR.out]; exact (EU.mul hx hy).cong (by rw [Int.natCast_emod, Int.natCast_mul, Int.emod_emod])

theorem EU.addX {a b : Nat} {U V : Int} (hx : EU a U) (hy : EU b V) : ∃ R, Hid (fv U + fv V = R) ∧ EU ((a + b) % pN : Nat) R := ⟨_, Lib.hid rfl, EU.addN hx hy (Lib.hid rfl)⟩
theorem EU.subX {a b : Nat} (ha : a < pN) (hb : b < pN) {U V : Int} (hx : EU a U) (hy : EU b V) : ∃ R, Hid (fv U - fv V = R) ∧ EU ((a + pN - b) % pN : Nat) R := ⟨_, Lib.hid rfl, EU.subN ha hb hx hy (Lib.hid rfl)⟩
theorem EU.mulX {a b : Nat} {U V : Int} (hx : EU a U) (hy : EU b V) : ∃ R, Hid (mulU U V = R) ∧ EU (a * b % pN : Nat) R := ⟨_, Lib.hid rfl, EU.mulN hx hy (Lib.hid rfl)⟩
theorem modp_lt (n : Nat) : n % pN < pN := Nat.mod_lt _ pN_pos

theorem El.small {n : Nat} (hn : n < 262144) : El n ((n : Int) :: List.replicate 15 0) := by
  refine ⟨by simp, ?_, ?_, ?_⟩
  · intro x hx
    rcases List.mem_cons.1 hx with rfl | h
    · constructor <;> omega
    · rw [List.mem_replicate] at h; omega
  all_goals
    have e : valZ ((n : Int) :: List.replicate 15 0) = n := by
      rw [valZ, show valZ (List.replicate 15 0) = 0 by decide]; omega
    rw [e]
  omega

theorem small_mulX {b : Nat} {V : Int} (hy : EU b V) : ∃ R, (∀ w, Calls Try.prog 25 #[.agg (el ((121665 : Int) :: List.replicate 15 0)).toArray, .agg (el (rep V)).toArray] w fun e w' => e = .returned (.agg (el (rep R)).toArray) ∧ Below w.heap.size w w') ∧ EU (121665 * b % pN : Nat) R := by
  have h1 := El.small (n := 121665) (by decide)
  refine ⟨fv (mulZ ((121665 : Int) :: List.replicate 15 0) (rep V)), fun w => rmul_el h1 hy w, ?_⟩
  have h2 := El.mul h1 hy
  exact El.cong h2 (by rw [Int.natCast_emod, Int.natCast_mul, Int.emod_emod])

set_option maxHeartbeats 2000000 in
set_option maxRecDepth 100000 in
theorem rclamp_any (k : Nat) (hk : k < 256 ^ 32) (w : World) :
    Calls Try.prog 21 #[.agg (byts k).toArray] w fun e w' => e = .returned (.agg (byts (clampN k)).toArray) ∧ Below w.heap.size w w' := by
  obtain ⟨d0, hd0⟩ : ∃ d, k / 256 ^ 0 % 256 = d := ⟨_, rfl⟩
  have l0 : d0 < 256 := hd0 ▸ Nat.mod_lt _ (by decide)
  have a0 := and_248 d0 l0
  have e0 : k - k % 8 = k - d0 + (d0 - d0 % 8) := by rw [← hd0]; omega
  obtain ⟨k1, hk1⟩ : ∃ k1, k - k % 8 = k1 := ⟨_, rfl⟩
  have s0 : (byts k).set 0 (.int .u8 ((d0 - d0 % 8 : Nat) : Int)) = byts k1 := byts_set (by decide) hk (by omega) (by rw [hd0, ← hk1, e0]; omega)
  have hk1l : k1 < 256 ^ 32 := by omega
  obtain ⟨d31, hd31⟩ : ∃ d, k1 / 256 ^ 31 % 256 = d := ⟨_, rfl⟩
  have l31 : d31 < 256 := hd31 ▸ Nat.mod_lt _ (by decide)
  have a1 := and_127 d31 l31
  have a2 : bits .or .u8 ((d31 : Int) % 128) 64 = ((d31 % 128 % 64 + 64 : Nat) : Int) := by
    rw [show (d31 : Int) % 128 = ((d31 % 128 : Nat) : Int) by omega]
    exact or_64 (d31 % 128) (Nat.mod_lt _ (by decide))
  have hc : clampN k = k1 % 2 ^ 254 + 2 ^ 254 := by rw [clampN, hk1]
  have s1 : (byts k1).set 31 (.int .u8 ((d31 % 128 % 64 + 64 : Nat) : Int)) = byts (clampN k) := byts_set (by decide) hk1l (by omega) (by
    rw [hd31, hc]
    have : k1 / 256 ^ 31 = d31 := by omega
    omega)
  rw [show (((d31 % 128 % 64 + 64 : Nat) : Int)) = (d31 : Int) % 64 + 64 by omega] at s1 a2
  generalize clampN k = R at s1 ⊢
  have g0 := byts_get k 0 (by decide)
  have g1 := byts_get k1 31 (by decide)
  rw [hd0] at g0
  rw [hd31] at g1
  replace s0 := Lib.hid s0
  replace s1 := Lib.hid s1
  replace g1 := Lib.hid g1
  clear hk hd0 e0 hk1 hk1l hd31 hc
  go_enter Try.func21, Try.ntmps21
  go_upto_region 1 with fail
  refine wp_new2 (fun W hsz k1 k2 kb => ?_)
  have k2 : Arr W (w.heap.size + 1) (byts 0) := k2
  have hcel := k1.cell g0
  have hfro := k1.frozen 0
  clear g0
  go_upto_region 2 with fail
  refine code_cell k1 (fun w_1 k1 hoth hbel => ?_)
  have k2 := hoth _ _ (by omega) k2
  have kb := hbel _ _ (by omega) kb
  clear hoth hbel
  rw [s0.out] at k1
  clear hcel hfro a0
  have hcel := k1.cell g1.out
  have hfro := k1.frozen 31
  go_upto_region 3 with fail
  refine code_cell k1 (fun w_2 k1 hoth hbel => ?_)
  have k2 := hoth _ _ (by omega) k2
  have kb := hbel _ _ (by omega) kb
  clear hoth hbel
  rw [s1.out] at k1
  clear hcel hfro a1 a2
  go_wp2_with (first | (refine wpList_load_arr2 rfl _ _ rfl _ rfl (by decide +kernel) _ (by assumption) (by first | (rw [lims_len]; kernel_rfl) | (rw [el_rep]; kernel_rfl) | (rw [el_len]; kernel_rfl) | (rw [byts_len]; kernel_rfl) | (rw [us_len]; kernel_rfl) | (rw [bytn_len]; kernel_rfl) | (rw [ens_len, digs_len]; kernel_rfl) | kernel_rfl) ?_) | (refine wpList_store_arr rfl _ _ _ rfl _ _ rfl rfl _ (by first | assumption | exact Arr.new _ _ _) (by first | (rw [lims_len]; kernel_rfl) | (rw [el_rep]; kernel_rfl) | (rw [el_len]; kernel_rfl) | (rw [byts_len]; kernel_rfl) | (rw [us_len]; kernel_rfl) | (rw [bytn_len]; kernel_rfl) | (rw [ens_len, digs_len]; kernel_rfl) | kernel_rfl) (by first | (rw [lims_len, lims_len]) | (rw [el_rep, el_rep]) | (rw [el_rep, el_len]; rfl) | (rw [el_len, el_rep]; rfl) | (rw [el_len, el_len]; rfl) | (rw [byts_len, byts_len]) | (rw [lims_len]; rfl) | (rw [byts_len]; rfl) | (rw [us_len, us_len]; rfl) | (rw [bytn_len, bytn_len]) | (rw [bytn_len]; rfl) | (rw [ens_len, ens_len, digs_len, digs_len]) | rfl) (by first | exact lims_one _ _ | exact el_one _ | exact byts_one _ | exact us_one _ | exact bytn_one _ _ | exact ens_one _ | (intro v hv; simp at hv; rcases hv with rfl | rfl | rfl | rfl <;> rfl)) ?_))
  exact bodyPost_ret (results_arr2 Try.results21 _ _ _ rfl (by kernel_rfl) _ (by first | assumption | exact Arr.setRow (by assumption) _) (by first | (rw [lims_len]; kernel_rfl) | (rw [el_rep]; kernel_rfl) | (rw [el_len]; kernel_rfl) | (rw [byts_len]; kernel_rfl) | (rw [us_len]; kernel_rfl) | (rw [bytn_len]; kernel_rfl) | (rw [ens_len, digs_len]; kernel_rfl) | kernel_rfl)) rfl ⟨rfl, below_setRow kb (by omega) _⟩


end Go.Proofs.Ytpjkhedodlnloaa
