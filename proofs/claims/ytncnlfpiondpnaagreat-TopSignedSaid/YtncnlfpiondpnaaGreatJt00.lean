/- Steps of the proofs that stand in many places, each said once: the premise is proved where the step is used. No condition. -/
import Derived.ProofKit
import Derived.Lib.Hide
namespace Go.Proofs.YtncnlfpiondpnaaGreat
open Go.RowKit
theorem zH {p : Prop} (h : p) : Hid p := Lib.hid h
theorem zDk {p : Prop} (h : p := by decide +kernel) : p := h
theorem zKr {p : Prop} (h : p := by kernel_rfl) : p := h
theorem zOm {p : Prop} (h : p := by omega) : p := h
theorem zDc {p : Prop} (h : p := by decide) : p := h
theorem zAm {p : Prop} (h : p := by assumption) : p := h
theorem zLn {p : Prop} (h : p := by first | (rw [lims_len]; kernel_rfl) | (rw [el_rep]; kernel_rfl) | (rw [el_len]; kernel_rfl) | (rw [byts_len]; kernel_rfl) | (rw [us_len]; kernel_rfl) | (rw [bytn_len]; kernel_rfl) | (rw [ens_len, digs_len]; kernel_rfl) | (rw [ptL_len]; kernel_rfl) | (rw [pcs_len]; kernel_rfl) | (rw [sgL_len]; kernel_rfl) | (rw [crtL_len]; kernel_rfl) | kernel_rfl) : p := h
theorem zLm {p : Prop} (h : p := by first | (rw [lims_len, lims_len]) | (rw [el_rep, el_rep]) | (rw [el_rep, el_len]; rfl) | (rw [el_len, el_rep]; rfl) | (rw [el_len, el_len]; rfl) | (rw [byts_len, byts_len]) | (rw [lims_len]; rfl) | (rw [byts_len]; rfl) | (rw [us_len, us_len]; rfl) | (rw [bytn_len, bytn_len]) | (rw [bytn_len]; rfl) | (rw [ptL_len, ptL_len]) | (rw [pcs_len, pcs_len]) | (rw [ptL_len, pcs_len]) | (rw [pcs_len, ptL_len]) | (rw [sgL_len, sgL_len]) | (rw [crtL_len, crtL_len]) | (rw [ens_len, ens_len, digs_len, digs_len]) | rfl) : p := h
theorem zOn {p : Prop} (h : p := by first | exact lims_one _ _ | exact el_one _ | exact byts_one _ | exact us_one _ | exact bytn_one _ _ | exact ens_one _ | exact ptL_one _ _ _ _ | exact pcs_one _ | exact sgL_one _ _ | exact crtL_one _ _ _ _ | (intro v hv; simp at hv; rcases hv with rfl | rfl | rfl | rfl <;> rfl)) : p := h
theorem zSa {α : Type} (l : List α) (i : Nat) (a : α) : l.toArray.setIfInBounds i a = (l.set i a).toArray := List.setIfInBounds_toArray _ _ _
theorem zSz {α : Type} (a b : α) (l : List α) : (a :: l).set 0 b = b :: l := rfl
theorem zSs {α : Type} (a b : α) (l : List α) (n : Nat) : (a :: l).set (n + 1) b = a :: l.set n b := rfl
theorem zRd {p : Prop} (h : p := by
  repeat (first | (refine rd_skip rfl rfl ?_; simp only [Act.put, zSa, zSz, zSs]) | (refine rd_load_arr rfl rfl _ _ rfl _ rfl (by decide +kernel) _ (by assumption) zLn ?_; simp only [Act.put, zSa, zSz, zSs]) | (refine rd_take (v := ?_) rfl rfl ?_ ?_; rotate_left; (focus (go_simp; try (with_reducible rfl))); simp only [Act.put, zSa, zSz, zSs]))
  exact rd_nil) : p := h
theorem zRm {p : Prop} (h : p := by
  repeat (first | (refine rd_skip rfl rfl ?_; simp only [Act.put, zSa, zSz, zSs]) | (refine rd_load_mid rfl rfl _ _ rfl _ _ rfl (by decide +kernel) _ (by assumption) zLn ?_; simp only [Act.put, zSa, zSz, zSs]) | (refine rd_load_arr rfl rfl _ _ rfl _ rfl (by decide +kernel) _ (by assumption) zLn ?_; simp only [Act.put, zSa, zSz, zSs]) | (refine rd_take (v := ?_) rfl rfl ?_ ?_; rotate_left; (focus (go_simp; try (with_reducible rfl))); simp only [Act.put, zSa, zSz, zSs]))
  exact rd_nil) : p := h
theorem zLe {a b : Nat} (h : a ≤ b := by first | exact Nat.le_refl _ | omega | (simp; omega)) : a ≤ b := h
end Go.Proofs.YtncnlfpiondpnaaGreat
