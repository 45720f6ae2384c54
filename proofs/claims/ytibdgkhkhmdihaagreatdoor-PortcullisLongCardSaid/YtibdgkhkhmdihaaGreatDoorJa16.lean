import Derived.Test.YtibdgkhkhmdihaaGreatDoorJa14
import Derived.Test.YtibdgkhkhmdihaaGreatDoorJa07
import Derived.Test.YtibdgkhkhmdihaaGreatDoorJa01
import Derived.ProofKit
import Derived.OpenShut
import Derived.Deep.Matrix

namespace Go.Proofs.YtibdgkhkhmdihaaGreatDoor
open Go.RowKit
theorem byts_set {n k v m : Nat} (hk : k < 32) (hn : n < 256 ^ 32) (hv : v < 256) (h : m + 256 ^ k * (n / 256 ^ k % 256) = n + 256 ^ k * v) : (byts n).set k (.int .u8 (v : Int)) = byts m := by
  have h1 := val_set 256 (digs 256 32 n) k _ v (digs_get 256 32 n k hk)
  rw [val_digs, Nat.mod_eq_of_lt hn] at h1
  have h2 : val 256 ((digs 256 32 n).set k v) = m := by omega
  have h3 := digs_val 256 (by decide) ((digs 256 32 n).set k v) (set_lt (digs_lt 256 32 n (by decide)) hv)
  rw [List.length_set, digs_len, h2] at h3
  rw [byts, byts, h3, List.map_set]
end Go.Proofs.YtibdgkhkhmdihaaGreatDoor


namespace Go.Proofs.YtibdgkhkhmdihaaGreatDoor
open Go.RowKit
theorem and_248 : ∀ x : Nat, x < 256 → bits .and .u8 (x : Int) 248 = ((x - x % 8 : Nat) : Int) := by decide +kernel
theorem and_127 : ∀ x : Nat, x < 256 → bits .and .u8 (x : Int) 127 = ((x % 128 : Nat) : Int) := by decide +kernel
theorem or_64 : ∀ x : Nat, x < 128 → bits .or .u8 (x : Int) 64 = ((x % 64 + 64 : Nat) : Int) := by decide +kernel
/-- A key's number. -/
def clampN (k : Nat) : Nat := (k - k % 8) % 2 ^ 254 + 2 ^ 254
theorem clamp_lt (k : Nat) : clampN k < 2 ^ 255 := by
  unfold clampN
  have := Nat.mod_lt (k - k % 8) (show 0 < 2 ^ 254 by decide)
  omega
set_option maxHeartbeats 2000000 in
set_option maxRecDepth 100000 in
theorem lclamp_any (k : Nat) (hk : k < 256 ^ 32) (w : World) :
    Calls Tryz.prog 118 #[.agg (byts k).toArray] w fun e w' => e = .returned (.agg (byts (clampN k)).toArray) ∧ Below w.heap.size w w' := by
  obtain ⟨d0, hd0⟩ : ∃ d, k / 256 ^ 0 % 256 = d := ⟨_, rfl⟩
  have l0 : d0 < 256 := hd0 ▸ Nat.mod_lt _ (by decide)
  have a0 := and_248 d0 l0
  have e0 : k - k % 8 = k - d0 + (d0 - d0 % 8) := by rw [← hd0]; omega
  obtain ⟨k1, hk1⟩ : ∃ k1, k - k % 8 = k1 := ⟨_, rfl⟩
  have s0 : (byts k).set 0 (.int .u8 ((d0 - d0 % 8 : Nat) : Int)) = byts k1 := byts_set (by decide) hk (by omega) (by rw [hd0, ← hk1, e0]; omega)
  have hk1l : k1 < 256 ^ 32 := by omega
  obtain ⟨d31, hd31⟩ : ∃ d, k1 / 256 ^ 31 % 256 = d := ⟨_, rfl⟩
  have l31 : d31 < 256 := hd31 ▸ Nat.mod_lt _ (by decide)
  have a1 := and_127 d31 l31
  have a2 : bits .or .u8 ((d31 : Int) % 128) 64 = ((d31 % 128 % 64 + 64 : Nat) : Int) := by
    rw [show (d31 : Int) % 128 = ((d31 % 128 : Nat) : Int) by omega]
    exact or_64 (d31 % 128) (Nat.mod_lt _ (by decide))
  have hc : clampN k = k1 % 2 ^ 254 + 2 ^ 254 := by rw [clampN, hk1]
  have s1 : (byts k1).set 31 (.int .u8 ((d31 % 128 % 64 + 64 : Nat) : Int)) = byts (clampN k) := byts_set (by decide) hk1l (by omega) (by
    rw [hd31, hc]
    have : k1 / 256 ^ 31 = d31 := by omega
    omega)
  rw [show (((d31 % 128 % 64 + 64 : Nat) : Int)) = (d31 : Int) % 64 + 64 by omega] at s1 a2
  generalize clampN k = R at s1 ⊢
  have g0 := byts_get k 0 (by decide)
  have g1 := byts_get k1 31 (by decide)
  rw [hd0] at g0
  rw [hd31] at g1
  replace s0 := Lib.hid s0
  replace s1 := Lib.hid s1
  replace g1 := Lib.hid g1
  clear hk hd0 e0 hk1 hk1l hd31 hc
  go_enter Tryz.func118, Tryz.ntmps118
  go_upto_region 1 with fail
  refine wp_new2 (fun W hsz k1 k2 kb => ?_)
  have k2 : Arr W (w.heap.size + 1) (byts 0) := k2
  have hcel := k1.cell g0
  have hfro := k1.frozen 0
  clear g0
  go_upto_region 2 with fail
  refine code_cell k1 (fun w_1 k1 hoth hbel => ?_)
  have k2 := hoth _ _ (by omega) k2
  have kb := hbel _ _ (by omega) kb
  clear hoth hbel
  rw [s0.out] at k1
  clear hcel hfro a0
  have hcel := k1.cell g1.out
  have hfro := k1.frozen 31
  go_upto_region 3 with fail
  refine code_cell k1 (fun w_2 k1 hoth hbel => ?_)
  have k2 := hoth _ _ (by omega) k2
  have kb := hbel _ _ (by omega) kb
  clear hoth hbel
  rw [s1.out] at k1
  clear hcel hfro a1 a2
  go_wp2_with (first | (refine wpList_load_arr2 rfl _ _ rfl _ rfl (by decide +kernel) _ (by assumption) (by first | (rw [lims_len]; kernel_rfl) | (rw [el_rep]; kernel_rfl) | (rw [el_len]; kernel_rfl) | (rw [byts_len]; kernel_rfl) | (rw [us_len]; kernel_rfl) | (rw [bytn_len]; kernel_rfl) | (rw [ens_len, digs_len]; kernel_rfl) | (rw [ptL_len]; kernel_rfl) | (rw [pcs_len]; kernel_rfl) | kernel_rfl) ?_) | (refine wpList_store_arr rfl _ _ _ rfl _ _ rfl rfl _ (by first | assumption | exact Arr.new _ _ _) (by first | (rw [lims_len]; kernel_rfl) | (rw [el_rep]; kernel_rfl) | (rw [el_len]; kernel_rfl) | (rw [byts_len]; kernel_rfl) | (rw [us_len]; kernel_rfl) | (rw [bytn_len]; kernel_rfl) | (rw [ens_len, digs_len]; kernel_rfl) | (rw [ptL_len]; kernel_rfl) | (rw [pcs_len]; kernel_rfl) | kernel_rfl) (by first | (rw [lims_len, lims_len]) | (rw [el_rep, el_rep]) | (rw [el_rep, el_len]; rfl) | (rw [el_len, el_rep]; rfl) | (rw [el_len, el_len]; rfl) | (rw [byts_len, byts_len]) | (rw [lims_len]; rfl) | (rw [byts_len]; rfl) | (rw [us_len, us_len]; rfl) | (rw [bytn_len, bytn_len]) | (rw [bytn_len]; rfl) | (rw [ptL_len, ptL_len]) | (rw [pcs_len, pcs_len]) | (rw [ptL_len, pcs_len]) | (rw [pcs_len, ptL_len]) | (rw [ens_len, ens_len, digs_len, digs_len]) | rfl) (by first | exact lims_one _ _ | exact el_one _ | exact byts_one _ | exact us_one _ | exact bytn_one _ _ | exact ens_one _ | exact ptL_one _ _ _ _ | exact pcs_one _ | (intro v hv; simp at hv; rcases hv with rfl | rfl | rfl | rfl <;> rfl)) ?_))
  exact bodyPost_ret (results_arr2 Tryz.results118 _ _ _ rfl (by kernel_rfl) _ (by first | assumption | exact Arr.setRow (by assumption) _) (by first | (rw [lims_len]; kernel_rfl) | (rw [el_rep]; kernel_rfl) | (rw [el_len]; kernel_rfl) | (rw [byts_len]; kernel_rfl) | (rw [us_len]; kernel_rfl) | (rw [bytn_len]; kernel_rfl) | (rw [ens_len, digs_len]; kernel_rfl) | (rw [ptL_len]; kernel_rfl) | (rw [pcs_len]; kernel_rfl) | kernel_rfl)) rfl ⟨rfl, below_setRow kb (by omega) _⟩
end Go.Proofs.YtibdgkhkhmdihaaGreatDoor

