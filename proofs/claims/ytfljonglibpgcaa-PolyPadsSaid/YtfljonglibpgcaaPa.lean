/- poly: the example of the document. -/
import Derived.Test.YtfljonglibpgcaaPe
namespace Go.Proofs.Ytfljonglibpgcaa
open Go.RowKit

/-- The example's key. -/
def k10 : Nat := val 256 ((List.range 32).map (· + 1))
theorem k10_facts : k10 < 256 ^ 32 ∧ (∀ i, i < 32 → k10 / 256 ^ i % 256 = i + 1) ∧ bytn 16 (polyT (polyR k10) (k10 / 2 ^ 128) []) = bytn 16 (k10 / 2 ^ 128) ∧
    digs 256 16 (polyT (polyR k10) (k10 / 2 ^ 128) [1]) ≠ digs 256 16 (polyT (polyR k10) (k10 / 2 ^ 128) []) := by
  refine ⟨by decide +kernel, by decide +kernel, ?_, by decide +kernel⟩
  rw [bytn, bytn, show digs 256 16 (polyT (polyR k10) (k10 / 2 ^ 128) []) = digs 256 16 (k10 / 2 ^ 128) by decide +kernel]

theorem byts_hi (K : Nat) : ∀ j, j < (bytn 16 (K / 2 ^ 128)).length → (byts K)[16 + j]? = (bytn 16 (K / 2 ^ 128))[j]? := by
  intro j hj
  rw [bytn_len] at hj
  rw [byts_get _ _ (by omega), bytn_get _ _ _ hj, Nat.pow_add, ← Nat.div_div_eq_div_mul, show (256 : Nat) ^ 16 = 2 ^ 128 by decide]

theorem str {w : World} {v : Value} {bs : List UInt8} (h : Sl w v (u8s bs)) : (convert 27 9 v).run Try.prog w = .ok (.string ⟨bs.toArray⟩) w :=
  run_string_sl h _ _ _ Try.underlying27 Try.underlying5 Try.underlying9

/-- string(t[:]) of an array of 16 bytes; string(k[16:]) of one of 32. -/
theorem str_tag {w : World} {g n : Nat} (h : Arr w g (bytn 16 n)) : (convert 27 9 (.slice (some ⟨g, 0, none⟩) 16 16)).run Try.prog w = .ok (.string ⟨((digs 256 16 n).map UInt8.ofNat).toArray⟩) w :=
  str (Sl.of_part h (by rw [u8s_len, List.length_map, digs_len]) (by decide) (by decide) (fun j _ => by rw [Nat.zero_add, ← bytn_u8s]))
theorem str_hi {w : World} {g K : Nat} (h : Arr w g (byts K)) : (convert 27 9 (.slice (some ⟨g, 16, none⟩) 16 16)).run Try.prog w = .ok (.string ⟨((digs 256 16 (K / 2 ^ 128)).map UInt8.ofNat).toArray⟩) w :=
  str (Sl.of_part h (by rw [u8s_len, List.length_map, digs_len]) (by decide) (by decide) (fun j hj => by rw [← bytn_u8s] at hj ⊢; exact byts_hi K j hj))

set_option maxHeartbeats 4000000 in
set_option maxRecDepth 100000 in
theorem alive10_any (w : World) : Calls Try.prog 8 #[] w fun e w' => e = .returned (.bool true) ∧ Below w.heap.size w w' := by
  obtain ⟨hK, hd, ht, hne⟩ := k10_facts
  obtain ⟨K, hKK⟩ : ∃ K, k10 = K := ⟨_, rfl⟩
  rw [hKK] at hK hd ht hne
  have c0 := fun w => psum_any K hK none 0 [] w (Sls.nil w)
  have c1 := fun d w (h : Sls w (.slice d 1 1) [[1]]) => psum_any K hK d 1 [[1]] w h
  rw [show ([] : List (List UInt8)).flatten = [] from rfl] at c0
  rw [show ([[1]] : List (List UInt8)).flatten = [1] from rfl] at c1
  obtain ⟨T0, hT0⟩ : ∃ T, polyT (polyR K) (K / 2 ^ 128) [] = T := ⟨_, rfl⟩
  obtain ⟨T1, hT1⟩ : ∃ T, polyT (polyR K) (K / 2 ^ 128) [1] = T := ⟨_, rfl⟩
  rw [hT0] at ht hne c0
  rw [hT1] at hne c1
  have hmx := mixl_zero (byts K) (byts 0)
  have hll : (byts K).length = (byts 0).length := by rw [byts_len, byts_len]
  have hall := mixl_all hll
  rw [byts_len] at hall
  have q : ∀ w, (Op.equalIn 10000 30 (.agg (bytn 16 T1).toArray) (.agg (bytn 16 T0).toArray)).run Try.prog w = .ok false w := fun w => by
    rw [eq_tag, decide_eq_false hne]
  have hst : ((digs 256 16 T0).map UInt8.ofNat) = ((digs 256 16 (K / 2 ^ 128)).map UInt8.ofNat) := by
    have hinj : ∀ a b : List UInt8, u8s a = u8s b → a = b := fun a b h => (List.map_inj_right (fun x y e => by simp at e; exact UInt8.toNat_inj.1 (by omega))).1 h
    exact hinj _ _ (by rw [← bytn_u8s, ← bytn_u8s, ht])
  clear hKK hK hT0 hT1 hne ht
  replace hd := Lib.hid hd
  replace hst := Lib.hid hst
  replace c0 := Lib.hid c0
  replace c1 := Lib.hid c1
  replace hmx := Lib.hid hmx
  replace hll := Lib.hid hll
  replace hall := Lib.hid hall
  replace q := Lib.hid q
  go_enter Try.func8, Try.ntmps8
  go_upto_region 2 with fail
  refine wp_new1 (fun W hsz k1 kb => ?_)
  have k1 : Arr W w.heap.size (mixl 0 (byts K) (byts 0)) := by rw [hmx.out]; exact k1
  clear hsz
  go_wp2_with fail
  go_loopw [2] (fun iv wr => ∃ i : Nat, i ≤ 32 ∧ iv = .int .i64 i ∧ Arr wr w.heap.size (mixl i (byts K) (byts 0)) ∧ Below w.heap.size w wr) (fun iv _ => 32 - (intOf iv).toNat)
  case atStart => exact ⟨0, by omega, rfl, k1, kb⟩
  case round =>
    clear k1 kb
    obtain ⟨i, hi, rfl, k1, kb⟩ := hrel
    by_cases hlt : i < 32
    · have g1 : (mixl i (byts K) (byts 0))[i]? = some (.int .u8 0) := by
        rw [mixl_get hll.out (by rw [byts_len]; exact hlt), if_neg (Nat.lt_irrefl i), byts_get 0 i hlt, Nat.zero_div]; rfl
      have gN := byts_get K i hlt
      rw [hd.out i hlt] at gN
      have hset := mixl_set hll.out gN
      have hcel := k1.cell g1
      have hfro := k1.frozen i
      have iw1 : IntKind.u8.wrap ((i : Int) + 1) = (i : Int) + 1 := by simp [IntKind.wrap, IntKind.bits, IntKind.signed]; omega
      replace g1 := Lib.hid g1
      replace gN := Lib.hid gN
      replace hset := Lib.hid hset
      go_wp2_with fail
      refine ⟨⟨i + 1, by omega, by go_num, ?_, kb.setCell (by simp) _⟩, by simp [intOf]; omega⟩
      have := k1.set i (.int .u8 ((i + 1 : Nat) : Int))
      rw [hset.out] at this
      rw [show ((i : Int) + 1) = ((i + 1 : Nat) : Int) by omega]
      exact this
    · obtain rfl : i = 32 := by omega
      rw [hall.out] at k1
      go_wp2_with (refine wpList_load_arr2 rfl _ _ rfl _ rfl (by kernel_rfl) _ (by assumption) (by first | (rw [lims_len]; kernel_rfl) | (rw [el_rep]; kernel_rfl) | (rw [el_len]; kernel_rfl) | (rw [byts_len]; kernel_rfl) | (rw [us_len]; kernel_rfl) | (rw [bytn_len]; kernel_rfl) | (rw [ens_len, digs_len]; kernel_rfl) | kernel_rfl) ?_)
      refine (c0.out _).mono ?_
      rintro e w_1 ⟨rfl, hb_1⟩
      have k1 := k1.below hb_1
      have kb := bel kb hb_1
      clear hb_1
      go_upto_region 7 with (refine wpList_store_arr rfl _ _ _ rfl _ _ rfl rfl _ (by first | assumption | exact Arr.new _ _ _) (by first | (rw [lims_len]; kernel_rfl) | (rw [el_rep]; kernel_rfl) | (rw [el_len]; kernel_rfl) | (rw [byts_len]; kernel_rfl) | (rw [us_len]; kernel_rfl) | (rw [bytn_len]; kernel_rfl) | (rw [ens_len, digs_len]; kernel_rfl) | kernel_rfl) (by first | (rw [lims_len, lims_len]) | (rw [el_rep, el_rep]) | (rw [el_rep, el_len]; rfl) | (rw [el_len, el_rep]; rfl) | (rw [el_len, el_len]; rfl) | (rw [byts_len, byts_len]) | (rw [lims_len]; rfl) | (rw [byts_len]; rfl) | (rw [us_len, us_len]; rfl) | (rw [bytn_len, bytn_len]) | (rw [bytn_len]; rfl) | (rw [ens_len, ens_len, digs_len, digs_len]) | rfl) (by first | exact lims_one _ _ | exact el_one _ | exact byts_one _ | exact us_one _ | exact bytn_one _ _ | exact ens_one _ | (intro v hv; simp at hv; rcases hv with rfl | rfl | rfl | rfl <;> rfl)) ?_)
      have hg_k3_k1 := k1.lt
      refine code_new (fun w_2 k3 hnew => ?_)
      have k1 := k1.below hnew
      have kb := bel kb hnew
      clear hnew
      generalize (w_1).heap.size = g_k3 at k3 hg_k3_k1 ⊢
      refine Tx.start (fun w' => Below (w_2).heap.size (w_2) w') 9999 14 rfl (by kernel_rfl) ?_
      have hS_3 : Below (w_2).heap.size (w_2) (World.drew w_2) := (Below.refl _ _).drew
      refine Tx.seg (A := ?_) 6 1151 (by kernel_rfl) (by exact hS_3) [0, 1, 2, 3, 4, 5, 6, 10] (by kernel_rfl) ?_ ?_
      rotate_left
      · intro w' hB
        have e1 := str_tag (k3.below hB)
        have e2 := str_hi (k1.below hB)
        rw [hst.out] at e1
        have f1 := k1.below hB
        have f2 := k3.below hB
        iterate 8 (first | (refine rd_skip rfl rfl ?_; simp only [Act.put, List.setIfInBounds_toArray, List.set_cons_zero, List.set_cons_succ]) | (refine rd_load_arr rfl rfl _ _ rfl _ rfl (by kernel_rfl) _ (by assumption) (by first | (rw [lims_len]; kernel_rfl) | (rw [el_rep]; kernel_rfl) | (rw [el_len]; kernel_rfl) | (rw [byts_len]; kernel_rfl) | (rw [us_len]; kernel_rfl) | (rw [bytn_len]; kernel_rfl) | (rw [ens_len, digs_len]; kernel_rfl) | kernel_rfl) ?_; simp only [Act.put, List.setIfInBounds_toArray, List.set_cons_zero, List.set_cons_succ]) | (refine rd_take (v := ?_) rfl rfl ?_ ?_; rotate_left; (focus (go_simp; try (with_reducible rfl))); simp only [Act.put, List.setIfInBounds_toArray, List.set_cons_zero, List.set_cons_succ]))
        exact rd_nil
      refine Tx.eff 7 1279 rfl (by decide +kernel) (fun K hK => ?_)
      go_simp
      refine hK (fun w' => Below (w_2).heap.size (w_2) w') _ _ (ext_trans hS_3 (Nat.le_refl _) (below_alloc _ _)) (fun _ h => h) ?_
      clear hK K
      try simp only [Act.put, List.setIfInBounds_toArray, List.set_cons_zero, List.set_cons_succ]
      refine Tx.newF (F := fun w' => Sl w' (.slice (some ⟨(w_2).heap.size, 0, none⟩) 1 1) (u8s [1])) (w0 := w_2) (Sl.new1 _ _ _) (fun w1 h => h.below (Below.refl _ _).drew) (by first | exact .inl rfl | exact .inr rfl) (fun w_4 h7 hnew => ?_)
      have hS_4 : Below (w_2).heap.size (w_2) w_4 := by first | exact hnew | exact ext_trans hS_3 (Nat.le_refl _) hnew
      clear hnew hS_3
      refine Tx.eff 8 1535 rfl (by decide +kernel) (fun K hK => ?_)
      go_simp
      refine hK (fun w' => Below (w_2).heap.size (w_2) w') _ _ (ext_trans hS_4 (Nat.le_refl _) (below_alloc _ _)) (fun _ h => h) ?_
      clear hK K
      try simp only [Act.put, List.setIfInBounds_toArray, List.set_cons_zero, List.set_cons_succ]
      refine Tx.newF (F := fun w' => Sls w' (.slice (some ⟨(w_4).heap.size, 0, none⟩) 1 1) [[1]]) (w0 := w_4) (Sls.new1 h7 _) (fun w1 h => h.below (Below.refl _ _).drew) (by first | exact .inl rfl | exact .inr rfl) (fun w_5 h8 hnew => ?_)
      have hS_5 : Below (w_2).heap.size (w_2) w_5 := by first | exact hnew | exact ext_trans hS_4 (Nat.le_refl _) hnew
      clear hnew hS_4
      refine Tx.eff 9 2047 rfl (by decide +kernel) (fun K hK => ?_)
      go_simp
      refine (c1.out _ _ h8).mono ?_
      rintro e w_6 ⟨rfl, hb_6⟩
      have hS_6 := ext_trans hS_5 (Nat.le_refl _) hb_6
      refine hK (fun w' => Below (w_2).heap.size (w_2) w') _ _ hS_6 (fun _ h => h) ?_
      clear hK K hb_6 hS_5
      try simp only [Act.put, List.setIfInBounds_toArray, List.set_cons_zero, List.set_cons_succ]
      refine Tx.seg (A := ?_) 0 16383 (by kernel_rfl) (by exact hS_6) [11, 12, 13] (by kernel_rfl) ?_ ?_
      rotate_left
      · intro w' hB
        have e1 := q.out w'
        iterate 3 (first | (refine rd_skip rfl rfl ?_; simp only [Act.put, List.setIfInBounds_toArray, List.set_cons_zero, List.set_cons_succ]) | (refine rd_load_arr rfl rfl _ _ rfl _ rfl (by kernel_rfl) _ (by assumption) (by first | (rw [lims_len]; kernel_rfl) | (rw [el_rep]; kernel_rfl) | (rw [el_len]; kernel_rfl) | (rw [byts_len]; kernel_rfl) | (rw [us_len]; kernel_rfl) | (rw [bytn_len]; kernel_rfl) | (rw [ens_len, digs_len]; kernel_rfl) | kernel_rfl) ?_; simp only [Act.put, List.setIfInBounds_toArray, List.set_cons_zero, List.set_cons_succ]) | (refine rd_take (v := ?_) rfl rfl ?_ ?_; rotate_left; (focus (go_simp; try (with_reducible rfl))); simp only [Act.put, List.setIfInBounds_toArray, List.set_cons_zero, List.set_cons_succ]))
        exact rd_nil
      refine Tx.done (by kernel_rfl) ?_
      have kb := bel kb hS_6
      clear hS_6
      go_wp2_with fail
      go_ret
      exact ⟨rfl, kb⟩

end Go.Proofs.Ytfljonglibpgcaa
