/- The law PolyEdges: its walk. -/
import Derived.Test.YtfljonglibpgcaaPl1
import Derived.Test.YtfljonglibpgcaaIn
import Derived.Laws.MakeOwn
namespace Go.Proofs.Ytfljonglibpgcaa
open Go.RowKit

theorem rep32 : ∀ k, k < 256 → k * ((256 ^ 32 - 1) / 255) < 256 ^ 32 ∧ ∀ i, i < 32 → k * ((256 ^ 32 - 1) / 255) / 256 ^ i % 256 = k := by decide +kernel

theorem make_u8 (n : Nat) (hn : n ≤ 1000) (w : World) : (Instr.makeSlice 27 (.int .i64 (n : Int)) (.int .i64 (n : Int))).run Try.prog w = .ok (.slice (some ⟨w.heap.size, 0, none⟩) n n) (w.alloc (.cells (u8s (List.replicate n 0)).toArray 5)) := by
  obtain ⟨i, hi, hz0, hz1, hz2⟩ := info_parts info_u8
  have h := run_makeSlice (P := Try.prog) w 27 5 i _ Try.underlying27 hi hz0 .i64 .i64 (n : Int) (n : Int) (by omega) (by omega) (by rw [hz1]; omega) (by rw [hz2]; omega) (by omega)
  rw [hz1, Int.toNat_natCast, Nat.mul_one] at h
  have e : madeCells (Value.int .u8 0).cells n = (u8s (List.replicate n 0)).toArray := by
    apply Array.ext
    · rw [size_madeCells]; simp [u8s]
    · intro j h1 h2
      simp [madeCells, u8s, Value.cells, Nat.mod_one]
  rw [e] at h
  exact h

set_option maxHeartbeats 4000000 in
set_option maxRecDepth 100000 in
theorem polyEdges_walk (a0 a1 a2 : Int) (w : World) (w0 : (Lit.int .u8 a0).wf = true) (w1 : (Lit.int .u8 a1).wf = true) (_ : (Lit.int .i64 a2).wf = true) :
    Calls Try.prog 4 #[.int .u8 a0, .int .u8 a1, .int .i64 a2] w fun e w' => e = .returned (.bool true) ∧ Below w.heap.size w w' := by
  have w0' := wf_u8 w0
  have w1' := wf_u8 w1
  clear w0 w1
  by_cases hneg : a2 < 0
  · go_enter Try.func4, Try.ntmps4
    go_wp2_with fail
    refine (alive10_any _).mono ?_
    rintro e w1 ⟨rfl, hb1⟩
    go_wp2_with fail
    go_ret
    exact ⟨rfl, hb1⟩
  by_cases hbig : 300 < a2
  · go_enter Try.func4, Try.ntmps4
    go_wp2_with fail
    refine (alive10_any _).mono ?_
    rintro e w1 ⟨rfl, hb1⟩
    go_wp2_with fail
    go_ret
    exact ⟨rfl, hb1⟩
  obtain ⟨k, rfl⟩ : ∃ n : Nat, a0 = (n : Int) := ⟨a0.toNat, by omega⟩
  obtain ⟨v, rfl⟩ : ∃ n : Nat, a1 = (n : Int) := ⟨a1.toNat, by omega⟩
  obtain ⟨n, rfl⟩ : ∃ n : Nat, a2 = (n : Int) := ⟨a2.toNat, by omega⟩
  have lk : k < 256 := by omega
  have lv : v < 256 := by omega
  have ln : n ≤ 300 := by omega
  clear w0' w1'
  obtain ⟨hK, hd⟩ := rep32 k lk
  obtain ⟨K, hKK⟩ : ∃ K, k * ((256 ^ 32 - 1) / 255) = K := ⟨_, rfl⟩
  rw [hKK] at hK hd
  obtain ⟨bs, hbs⟩ : ∃ bs, List.replicate n (UInt8.ofNat v) = bs := ⟨_, rfl⟩
  have hbl : bs.length = n := by rw [← hbs, List.length_replicate]
  have hbg : ∀ j, j < n → (u8s bs)[j]? = some (.int .u8 (v : Int)) := by
    intro j hj
    rw [← hbs, u8s, List.map_replicate, List.getElem?_replicate, if_pos hj]
    simp; omega
  obtain ⟨zs, hzs⟩ : ∃ zs, List.replicate n (0 : UInt8) = zs := ⟨_, rfl⟩
  have hzl : zs.length = n := by rw [← hzs, List.length_replicate]
  have hzg : ∀ j, j < n → (u8s zs)[j]? = some (.int .u8 0) := by
    intro j hj
    rw [← hzs, u8s, List.map_replicate, List.getElem?_replicate, if_pos hj]
    rfl
  have hmk := fun w => make_u8 n (by omega) w
  rw [hzs] at hmk
  have c1 := fun d cap w (h : Sls w (.slice d 1 cap) [bs]) => psum_any K hK d cap [bs] w h
  rw [show [bs].flatten = bs by simp] at c1
  have c2 := fun d cap w h => rpoly_any K hK d cap bs (by omega) w h
  obtain ⟨T, hT⟩ : ∃ T, polyT (polyR K) (K / 2 ^ 128) bs = T := ⟨_, rfl⟩
  rw [hT] at c1 c2
  rw [hbl] at c2
  have q := Lib.hid (fun w => eq_tag_same T w)
  have hm0 := mixl_zero (byts K) (byts 0)
  have hll : (byts K).length = (byts 0).length := by rw [byts_len, byts_len]
  have hall := mixl_all hll
  rw [byts_len] at hall
  have hm1 := mixl_zero (u8s bs) (u8s zs)
  have hll1 : (u8s bs).length = (u8s zs).length := by rw [u8s_len, u8s_len, hbl, hzl]
  have hall1 := mixl_all hll1
  rw [u8s_len, hzl] at hall1
  clear hKK hK hbs hzs hT
  replace hd := Lib.hid hd
  replace hbl := Lib.hid hbl
  replace hzl := Lib.hid hzl
  replace hbg := Lib.hid hbg
  replace hzg := Lib.hid hzg
  replace hm0 := Lib.hid hm0
  replace hll := Lib.hid hll
  replace hall := Lib.hid hall
  replace hm1 := Lib.hid hm1
  replace hll1 := Lib.hid hll1
  replace hall1 := Lib.hid hall1
  replace c1 := Lib.hid c1
  replace hmk := Lib.hid hmk
  replace c2 := Lib.hid c2
  have hb' : ¬ (300 : Int) < (n : Int) := hbig
  have hn' : ¬ (n : Int) < 0 := hneg
  go_enter Try.func4, Try.ntmps4
  go_wp2_with fail
  refine (alive10_any _).mono ?_
  rintro e w1 ⟨rfl, kb⟩
  have lt0 := kb.size
  go_upto_region 5 with fail
  refine wp_new1 (fun W hsz k8 hb8 => ?_)
  have kb := bel kb hb8
  clear hsz hb8
  generalize w1.heap.size = g at k8 lt0 ⊢
  have k8 : Arr W g (mixl 0 (byts K) (byts 0)) := by rw [hm0.out]; exact k8
  go_wp2_with fail
  go_loopw [9] (fun iv wr => ∃ i : Nat, i ≤ 32 ∧ iv = .int .i64 i ∧ Arr wr g (mixl i (byts K) (byts 0)) ∧ Below w.heap.size w wr) (fun iv _ => 32 - (intOf iv).toNat)
  case atStart => exact ⟨0, by omega, rfl, k8, kb⟩
  case round =>
    clear k8 kb
    obtain ⟨i, hi, rfl, k8, kb⟩ := hrel
    by_cases hlt : i < 32
    · have g1 : (mixl i (byts K) (byts 0))[i]? = some (.int .u8 0) := by
        rw [mixl_get hll.out (by rw [byts_len]; exact hlt), if_neg (Nat.lt_irrefl i), byts_get 0 i hlt, Nat.zero_div]; rfl
      have gN := byts_get K i hlt
      rw [hd.out i hlt] at gN
      have hset := mixl_set hll.out gN
      have hcel := k8.cell g1
      have hfro := k8.frozen i
      replace g1 := Lib.hid g1
      replace gN := Lib.hid gN
      replace hset := Lib.hid hset
      go_wp2_with fail
      refine ⟨⟨i + 1, by omega, by go_num, ?_, kb.setCell (by simp; omega) _⟩, by simp [intOf]; omega⟩
      have := k8.set i (.int .u8 (k : Int))
      rw [hset.out] at this
      exact this
    · have hi32 : i = 32 := by omega
      rw [hi32, hall.out] at k8
      clear hd hm0 hll hall hi
      have hm := hmk.out
      clear hmk
      go_upto_region 10 with fail
      clear hi32 hm hlt
      have hwr := k8.lt
      have hkz := kb.size
      refine wp_new1 (fun W2 hsz2 k10 hb10 => ?_)
      have k8 := k8.below hb10
      have kb := bel kb hb10
      clear hsz2 hb10
      generalize wr.heap.size = g2 at k10 hwr hkz ⊢
      have k10 : Arr W2 g2 (mixl 0 (u8s bs) (u8s zs)) := by rw [hm1.out]; exact k10
      go_wp2_with fail
      go_loopw [11] (fun jv wr => ∃ j : Nat, j ≤ n ∧ jv = .int .i64 j ∧ Arr wr g (byts K) ∧ Arr wr g2 (mixl j (u8s bs) (u8s zs)) ∧ Below w.heap.size w wr) (fun jv _ => n - (intOf jv).toNat)
      case atStart => exact ⟨0, by omega, rfl, k8, k10, kb⟩
      case round =>
        clear k8 k10 kb
        obtain ⟨j, hj, rfl, k8, k10, kb⟩ := hrel
        by_cases hlt : j < n
        · have g1 : (mixl j (u8s bs) (u8s zs))[j]? = some (.int .u8 0) := by
            rw [mixl_get hll1.out (by rw [u8s_len, hzl.out]; exact hlt), if_neg (Nat.lt_irrefl j), hzg.out j hlt]
          have hset := mixl_set hll1.out (hbg.out j hlt)
          have hcel := k10.cell g1
          have hfro := k10.frozen j
          replace g1 := Lib.hid g1
          replace hset := Lib.hid hset
          go_wp2_with fail
          refine ⟨⟨j + 1, by omega, by go_num, k8.other (by simp; omega) _, ?_, kb.setCell (by simp; omega) _⟩, by simp [intOf]; omega⟩
          have := k10.set j (.int .u8 (v : Int))
          rw [hset.out] at this
          exact this
        · obtain rfl : n = j := by omega
          rw [hall1.out] at k10
          have hs0 := sl_arr k10 (by rw [u8s_len, hbl.out]; unfold maxLen; omega)
          rw [u8s_len, hbl.out] at hs0
          have hs := Lib.hid hs0
          clear hs0 hbg hzg hm1 hll1 hall1
          go_upto_region 14 with fail
          refine Tx.start (fun w' => Below (wr).heap.size (wr) w') 9999 9 rfl (by kernel_rfl) ?_
          have hS_1 : Below (wr).heap.size (wr) (World.drew wr) := (Below.refl _ _).drew
          refine Tx.seg (A := ?_) 5 51 (by kernel_rfl) (by exact hS_1) [0, 1, 4, 5] (by kernel_rfl) ?_ ?_
          rotate_left
          · intro w' hB
            have e1 := k8.below hB
            iterate 4 (first | (refine rd_skip rfl rfl ?_; simp only [Act.put, List.setIfInBounds_toArray, List.set_cons_zero, List.set_cons_succ]) | (refine rd_load_arr rfl rfl _ _ rfl _ rfl (by kernel_rfl) _ (by assumption) (by first | (rw [lims_len]; kernel_rfl) | (rw [el_rep]; kernel_rfl) | (rw [el_len]; kernel_rfl) | (rw [byts_len]; kernel_rfl) | (rw [us_len]; kernel_rfl) | (rw [bytn_len]; kernel_rfl) | (rw [ens_len, digs_len]; kernel_rfl) | kernel_rfl) ?_; simp only [Act.put, List.setIfInBounds_toArray, List.set_cons_zero, List.set_cons_succ]) | (refine rd_take (v := ?_) rfl rfl ?_ ?_; rotate_left; (focus (go_simp; try (with_reducible rfl))); simp only [Act.put, List.setIfInBounds_toArray, List.set_cons_zero, List.set_cons_succ]) | (refine rd_take (v := ?_) rfl rfl ?_ ?_; rotate_left; (focus (try go_simp); fail)))
            exact rd_nil
          refine Tx.eff 2 55 rfl (by decide +kernel) (fun K hK => ?_)
          go_simp
          refine hK (fun w' => Below (wr).heap.size (wr) w') _ _ (ext_trans hS_1 (Nat.le_refl _) (below_alloc _ _)) (fun _ h => h) ?_
          clear hK K
          try simp only [Act.put, List.setIfInBounds_toArray, List.set_cons_zero, List.set_cons_succ]
          refine Tx.newF (F := fun w' => Sls w' (.slice (some ⟨(wr).heap.size, 0, none⟩) 1 1) [bs]) (w0 := wr) (Sls.new1 hs.out _) (fun w1 h => h.below (Below.refl _ _).drew) (by first | exact .inl rfl | exact .inr rfl) (fun w_2 h2 hnew => ?_)
          have hS_2 : Below (wr).heap.size (wr) w_2 := by first | exact hnew | exact ext_trans hS_1 (Nat.le_refl _) hnew
          clear hnew hS_1
          refine Tx.eff 3 63 rfl (by decide +kernel) (fun K hK => ?_)
          go_simp
          refine (c1.out _ _ _ h2).mono ?_
          rintro e w_3 ⟨rfl, hb_3⟩
          have hS_3 := ext_trans hS_2 (Nat.le_refl _) hb_3
          refine hK (fun w' => Below (wr).heap.size (wr) w') _ _ hS_3 (fun _ h => h) ?_
          clear hK K hb_3 hS_2
          try simp only [Act.put, List.setIfInBounds_toArray, List.set_cons_zero, List.set_cons_succ]
          refine Tx.eff 6 127 rfl (by decide +kernel) (fun K hK => ?_)
          go_simp
          refine (c2.out _ _ _ (hs.out.below hS_3)).mono ?_
          rintro e w_4 ⟨rfl, hb_4⟩
          have hS_4 := ext_trans hS_3 (Nat.le_refl _) hb_4
          refine hK (fun w' => Below (wr).heap.size (wr) w') _ _ hS_4 (fun _ h => h) ?_
          clear hK K hb_4 hS_3
          try simp only [Act.put, List.setIfInBounds_toArray, List.set_cons_zero, List.set_cons_succ]
          refine Tx.seg (A := ?_) 0 511 (by kernel_rfl) (by exact hS_4) [7, 8] (by kernel_rfl) ?_ ?_
          rotate_left
          · intro w' hB
            have e1 := q.out w'
            iterate 2 (first | (refine rd_skip rfl rfl ?_; simp only [Act.put, List.setIfInBounds_toArray, List.set_cons_zero, List.set_cons_succ]) | (refine rd_load_arr rfl rfl _ _ rfl _ rfl (by kernel_rfl) _ (by assumption) (by first | (rw [lims_len]; kernel_rfl) | (rw [el_rep]; kernel_rfl) | (rw [el_len]; kernel_rfl) | (rw [byts_len]; kernel_rfl) | (rw [us_len]; kernel_rfl) | (rw [bytn_len]; kernel_rfl) | (rw [ens_len, digs_len]; kernel_rfl) | kernel_rfl) ?_; simp only [Act.put, List.setIfInBounds_toArray, List.set_cons_zero, List.set_cons_succ]) | (refine rd_take (v := ?_) rfl rfl ?_ ?_; rotate_left; (focus (go_simp; try (with_reducible rfl))); simp only [Act.put, List.setIfInBounds_toArray, List.set_cons_zero, List.set_cons_succ]) | (refine rd_take (v := ?_) rfl rfl ?_ ?_; rotate_left; (focus (try go_simp); fail)))
            exact rd_nil
          refine Tx.done (by kernel_rfl) ?_
          have kb := bel kb hS_4
          clear hS_4
          go_wp2_with fail
          go_ret
          exact ⟨rfl, kb⟩

end Go.Proofs.Ytfljonglibpgcaa
