/- TopSigned: part 29 of its proof: lemmas and contracts, each with its conditions in its own statement; the last part holds the law itself. -/
import Derived.Test.YtncnlfpiondpnaaGreatJt28
import Derived.Laws.MakeOwn

set_option maxHeartbeats 4000000
set_option maxRecDepth 100000
namespace Go.Proofs.YtncnlfpiondpnaaGreat
open Go.RowKit
theorem make8 (w : World) : (Instr.makeSlice 154 (.int .i64 8) (.int .i64 8)).run Tryz.prog w = .ok (.slice (some ⟨w.heap.size, 0, none⟩) 8 8) (w.alloc (.cells (lims 8 0).toArray 87)) := by
 obtain ⟨i, hi, hz0, hz1, hz2⟩ := info_parts info_u64
 have h := run_makeSlice (P := Tryz.prog) w 154 87 i _ Tryz.underlying154 hi hz0 .i64 .i64 8 8 zDc zDc (by rw [hz1]; decide) (by rw [hz2]; decide) zDc
 rw [hz1] at h
 have e : madeCells (Value.int .u64 0).cells (Int.toNat 8 * 1) = (lims 8 0).toArray := by kernel_rfl
 rw [e] at h
 exact h
theorem lims_set_of8 (n k : Nat) (_ : k < 64) : (lims 8 (n % 256 ^ k)).set (k / 8) (.int .u64 ((n % 256 ^ (k + 1) / 18446744073709551616 ^ (k / 8) % 18446744073709551616 : Nat) : Int)) = lims 8 (n % 256 ^ (k + 1)) := by
 apply List.ext_getElem?
 intro j
 by_cases hj : j < 8
 · rw [List.getElem?_set, lims_get _ _ _ hj, lims_get _ _ _ hj, lims_len]
   by_cases h1 : k / 8 = j
   · subst h1; rw [if_pos rfl, if_pos hj]
   · rw [if_neg h1]
     rcases Nat.lt_or_ge j (k / 8) with h2 | h2
     · rw [of_low n k j h2]
     · rw [of_high n k j zOm]
 · rw [List.getElem?_eq_none (by rw [List.length_set, lims_len]; omega), List.getElem?_eq_none (by rw [lims_len]; omega)]
theorem scReduce_any (d : Option Addr) (n cap : Nat) (bs : List UInt8) (w : World) (hs : Sl w (.slice d n cap) (u8s bs)) :
 Calls Tryz.prog 76 #[.slice d n cap] w fun e w' => e = .returned (.agg (byts (val 256 ((bs.take 64).map (·.toNat)) % qN)).toArray) ∧ Below w.heap.size w w' := by
 have hlen := hs.len
 rw [u8s_len] at hlen
 obtain ⟨rfl, hlc, hcm⟩ := hlen
 unfold maxLen at hcm
 go_enter Tryz.func76, Tryz.ntmps76
 obtain ⟨m, hm⟩ : ∃ m, min bs.length 64 = m := ⟨_, rfl⟩
 obtain ⟨N, hN⟩ : ∃ N, val 256 ((bs.take 64).map (·.toNat)) = N := ⟨_, rfl⟩
 have hdg : ∀ k (h : k < bs.length), k < 64 → N / 256 ^ k % 256 = (bs[k]).toNat := by
  intro k h1 h2
  have h3 := digs_val 256 zDc ((bs.take 64).map (·.toNat)) (by intro x hx; simp only [List.mem_map] at hx; obtain ⟨y, -, rfl⟩ := hx; exact y.toNat_lt)
  rw [hN] at h3
  have h4 := digs_get 256 ((bs.take 64).map (·.toNat)).length N k (by simp; omega)
  rw [h3] at h4
  simp [h1, h2] at h4
  exact h4.symm
 have hNm : N < 256 ^ m := by
  have h3 := val_lt 256 zDc ((bs.take 64).map (·.toNat)) (by intro x hx; simp only [List.mem_map] at hx; obtain ⟨y, -, rfl⟩ := hx; exact y.toNat_lt)
  rw [hN] at h3
  simpa [Nat.min_comm, ← hm] using h3
 rw [hN]
 have hdg := zH hdg
 have hNm' := zH hNm
 have hN' := zH hN
 clear hN hNm
 have hmk := fun w => make8 w
 go_upto_region 2 with fail
 refine wp_new2 (fun W hsz h1 h2 hb0 => ?_)
 go_wp2_with fail
 all_goals
  clear hmk
  try rw [show max (64 : Int) 0 = 64 from rfl]
  go_loopw [13] (fun kv wr => ∃ k : Nat, k ≤ m ∧ kv = .int .i64 k ∧ Arr wr w.heap.size (byts 0) ∧ Arr wr (w.heap.size + 1) (lims 8 (N % 256 ^ k)) ∧ Below w.heap.size w wr) (fun kv _ => m - (intOf kv).toNat)
  case atStart => exact ⟨0, Nat.zero_le _, rfl, h1, by rw [Nat.pow_zero, Nat.mod_one]; exact h2, hb0⟩
  case round =>
   obtain ⟨k, hk, rfl, k1, k2, kb⟩ := hrel
   clear h1 h2 hb0 hsz
   by_cases hlt : k < m
   · have hkl : k < bs.length := by omega
     obtain ⟨b0, hb0⟩ : ∃ x : Nat, (bs[k]).toNat = x := ⟨_, rfl⟩
     have hbl : b0 < 256 := by rw [← hb0]; exact (bs[k]).toNat_lt
     obtain ⟨bb, oo, rfl, -, -, -, hcc⟩ := hs.at (by rw [u8s_len]; omega)
     have hcell := hcc k _ (u8s_get bs k hkl)
     rw [hb0] at hcell
     have hbbl := World.block_lt_of_cell? w _ hcell
     have hcell2 : wr.cell? ⟨bb, oo + k, none⟩ = some (.int .u8 (b0 : Int)) := by rw [kb.cell hbbl]; exact hcell
     obtain ⟨l0, hl0⟩ : ∃ l0, N % 256 ^ k / 18446744073709551616 ^ (k / 8) % 18446744073709551616 = l0 := ⟨_, rfl⟩
     have hl1 : l0 < 18446744073709551616 := by rw [← hl0]; exact Nat.mod_lt _ zDc
     have hc := k2.cell (lims_get 8 (N % 256 ^ k) (k / 8) zOm)
     rw [hl0] at hc
     have hf := k2.frozen (k / 8)
     have hl0' := zH hl0
     have hb0' := zH hb0
     clear hl0 hb0 hcell hcc
     go_upto_region 5 with fail
     have hq0 : (0 : Int) ≤ (k : Int) / 8 := by omega
     have hq1 : (k : Int) / 8 < 8 := by omega
     have ew1 : IntKind.i64.wrap ((k : Int) / 8) = (k : Int) / 8 := i64_in zOm
     have et : ((k : Int) / 8).toNat = k / 8 := by omega
     have em : ((k : Int)).tmod 8 = (k : Int) % 8 := Int.tmod_eq_emod_of_nonneg zOm
     have eb : IntKind.u64.wrap (b0 : Int) = (b0 : Int) := by simp [IntKind.wrap, IntKind.bits, IntKind.signed]; omega
     have hs0 : (0 : Int) ≤ 8 * ((k : Int) % 8) := by omega
     have ew2 : IntKind.i64.wrap ((k : Int) % 8) = (k : Int) % 8 := i64_in zOm
     have ew3 : IntKind.i64.wrap (8 * ((k : Int) % 8)) = 8 * ((k : Int) % 8) := i64_in zOm
     refine Tx.start (fun w' => Below (wr).heap.size (wr) w') 13 14 rfl zKr ?_
     have hS_1 : Below (wr).heap.size (wr) (World.drew wr) := (Below.refl _ _).drew
     refine Tx.seg (A := ?_) 1 8191 zKr (by exact (Below.refl _ _).drew) [0, 1, 2, 3, 4, 5, 6, 7, 8, 9, 10, 11, 12] zKr ?_ ?_
     rotate_left
     · intro w' hB
       have e1 : w'.cell? ⟨w.heap.size + 1, k / 8, none⟩ = some (.int .u64 (l0 : Int)) := by rw [hB.cell (by simpa using k2.lt)]; exact hc
       exact zRd
     have hc2 : wr.drew.cell? ⟨w.heap.size + 1, k / 8, none⟩ = some (.int .u64 (l0 : Int)) := hc
     have hf2 : wr.drew.frozen? ⟨w.heap.size + 1, k / 8, none⟩ = false := hf
     refine Tx.bar 16383 rfl zDk (fun K hK => ?_)
     go_simp
     refine hK (fun _ => True) 9999 _ _ ?_
     clear hK K
     try simp only [Act.put]
     try simp only [zSa, zSz, zSs]
     refine Tx.done zKr ?_
     go_wp2_with fail
     refine ⟨⟨k + 1, by omega, by go_num, k1.other (by simp) _, ?_, (kb.setCell (by simp) _).drew⟩, by simp [intOf]; omega⟩
     have h9 := k2.set (k / 8) (.int .u64 ((N % 256 ^ (k + 1) / 18446744073709551616 ^ (k / 8) % 18446744073709551616 : Nat) : Int))
     rw [lims_set_of8 _ _ zOm] at h9
     rw [show (b0 : Int) * 2 ^ (8 * (k % 8)) = ((b0 * 2 ^ (8 * (k % 8)) : Nat) : Int) by simp, of_step hl0'.out (by rw [hdg.out k hkl zOm]; exact hb0'.out)]
     exact h9
   · obtain rfl : k = m := by omega
     rw [Nat.mod_eq_of_lt hNm'.out] at k2
     have hr := reduce_any (digs 18446744073709551616 8 N) (w.heap.size + 1) 0 8 wr (by rw [digs_len]; decide) (by rw [digs_len]; decide) (digs_lt _ _ _ zDc) (fun j x hj => by rw [Nat.zero_add]; exact k2.cell (us_get _ j x hj))
     have hN512 : N < 18446744073709551616 ^ 8 := Nat.lt_of_lt_of_le hNm'.out (by rw [lim_pow]; exact Nat.pow_le_pow_right zDc zOm)
     rw [digs_len, val_digs, Nat.mod_eq_of_lt hN512] at hr
     have hr := zH hr
     clear hN512
     go_wp2_with fail
     refine hr.out.mono ?_
     rintro e w6 ⟨rfl, hb6⟩
     have k1 := k1.below hb6
     have kb := bel kb hb6
     clear hr hb6 k2
     go_wp2_with fail
     refine (limNum_any _ _).mono ?_
     rintro e w7 ⟨rfl, hb7⟩
     have k1 := k1.below hb7
     have kb := bel kb hb7
     clear hb7
     go_wp2_with (first | (refine zSt ?_))
     exact bodyPost_ret (results_arr2 Tryz.results76 _ _ _ rfl zKr _ (by first | assumption | exact Arr.setRow zAm _) zLn) rfl ⟨rfl, below_setRow kb zOm _⟩
theorem Sls.app {w0 w : World} {v : Value} {uu vs : List Value} {al ls : List (List UInt8)} (h : Sl w v (uu ++ vs)) (ha : uu.length = al.length) (hl : vs.length = ls.length) (h1 : ∀ (j : Nat) (a : Value) (b : List UInt8), uu[j]? = some a → al[j]? = some b → Sl w0 a (u8s b))
 (h2 : ∀ (j : Nat) (a : Value) (b : List UInt8), vs[j]? = some a → ls[j]? = some b → Sl w0 a (u8s b)) (hb : Below w0.heap.size w0 w) : Sls w v (al ++ ls) := by
 refine ⟨_, h, by simp [ha, hl], ?_⟩
 intro j a b hj hj'
 by_cases hlt : j < uu.length
 · rw [List.getElem?_append_left hlt] at hj
   rw [List.getElem?_append_left zOm] at hj'
   exact (h1 j a b hj hj').below hb
 · rw [List.getElem?_append_right zOm] at hj
   rw [List.getElem?_append_right zOm, ← ha] at hj'
   exact (h2 _ a b hj hj').below hb
theorem val_bytn {N : Nat} (h : N < 256 ^ 64) : val 256 ((((digs 256 64 N).map UInt8.ofNat).take 64).map (·.toNat)) = N := by
 rw [List.take_of_length_le (by simp [digs_len]), List.map_map]
 have : (digs 256 64 N).map ((fun x : UInt8 => x.toNat) ∘ UInt8.ofNat) = digs 256 64 N := by
  conv => rhs; rw [← List.map_id (digs 256 64 N)]
  apply List.map_congr_left
  intro x hx
  have := digs_lt 256 64 N zDc x hx
  simp only [Function.comp_apply, UInt8.toNat_ofNat', id_eq]
  omega
 rw [this, val_digs, Nat.mod_eq_of_lt h]
theorem run_append_nothing {P : Program} {w : World} (t ty e : TypeId) {i : TypeInfo} (ht : P.underlying t = some (.slice e)) (hi : P.info? e = some i) {a : Option Addr} {n cap : Nat} (hn : n ≤ cap) {vx : Value} (hx : Sl w vx []) :
 (Builtin.append_ #[t, t] ty #[.slice a n cap, vx]).run P w = .ok (.slice a n cap) w := by
 obtain ⟨x, c, rfl, -⟩ := hx
 cases x <;> cases a <;> simp [Builtin.append_, run_underlying ht, sizeOf, typeInfo, hi, Builtin.lenOf, Builtin.firstCells, hn, storeCells, loadCells, loadCellsFrom]
theorem wpList_append_run {P : Program} {w w' : World} {ops : Array Oper} {rest : List Oper} {o : Oper} {a : Act} {Q : Exit → Act → World → Prop} (hgd : o.guard = none) (s x : Operand) (t : TypeId)
 (ho : o.op = .call { callee := .builtin .append, args := #[s, x], argTypes := #[t, t] }) {v vx v' : Value} (hs : a.eval s = v) (hx : a.eval x = vx) (hr : (Builtin.append_ #[t, t] o.type #[v, vx]).run P w = .ok v' w')
 (h : wpList P ops Q rest (a.put o.dst v') w') : wpList P ops Q (o :: rest) a w := by
 refine wpList_plain hgd fun K hK => ?_
 unfold Oper.wp execOp
 simp only [ho, resolve, invoke, builtin, Sem.run_bind, Sem.run_pure, Result.andThen_ok, List.map_toArray, List.map_cons, List.map_nil, hs, hx, hr]
 exact hK _ _ h
theorem csum2_any (w : World) (d d2 : Option Addr) (na nb2 cb : Nat) (al ls : List (List UInt8)) (h1 : Sls w (.slice d na na) al) (hs : Sls w (.slice d2 nb2 cb) ls) (ha1 : al.length ≤ 1000) (hl : ls.length ≤ 100000) :
 Calls Tryz.prog 34 #[.slice d2 nb2 cb, .slice d na na] w fun e w' => e = .returned (.agg (byts (shab (al ++ ls).flatten % qN)).toArray) ∧ Below w.heap.size w w' := by
 obtain ⟨vs, hv1, hvl, hvo, hvj⟩ := hs.vals
 obtain ⟨uu, hu1, hul, huo, huj⟩ := h1.vals
 have hna : na = uu.length := by obtain ⟨a', c', e, h2, -⟩ := hu1; simp only [Value.slice.injEq] at e; exact e.2.1
 obtain ⟨N, hN⟩ : ∃ N, shab (al ++ ls).flatten = N := ⟨_, rfl⟩
 have hNl : N < 256 ^ 64 := hN ▸ shab_lt _
 have hap := zH (fun w' v (hb : Below w.heap.size w w') (h : Sl w' v (uu ++ vs)) => Sls.app h hul hvl huj hvj hb)
 rw [hN]
 obtain ⟨i, hi, hz0, hz1, hz2⟩ := info_parts info_sl
 have hap2 : Hid (∀ ty W, Below w.heap.size w W → ∃ v' wC, (Builtin.append_ #[29, 29] ty #[.slice d na na, .slice d2 nb2 cb]).run Tryz.prog W = .ok v' wC ∧ Sl wC v' (uu ++ vs) ∧ Below W.heap.size W wC) := zH (by
  intro ty W hb
  by_cases hz : vs = []
  · subst hz
    exact ⟨_, W, run_append_nothing 29 ty 22 Tryz.underlying29 hi (Nat.le_refl _) (hv1.below hb), by rw [List.append_nil]; exact hu1.below hb, Below.refl _ _⟩
  · have hpos : 0 < vs.length := List.length_pos_iff.2 hz
    obtain ⟨v', wC, r1, r2, r3⟩ := run_append_new (P := Tryz.prog) 29 ty 22 Tryz.underlying29 hi hz0 hz1 hz2 rfl (hu1.below hb) (hv1.below hb) zOm hvo (by unfold maxLen; omega) zOm
    exact ⟨v', wC, r1, Sl.of_own r2, r3⟩)
 have hvs := zH hv1
 have hvl2 := zH hvl
 replace hvo := zH hvo
 clear hv1 hvl hvj hu1 hul huo huj h1 hs hna hi hz0 hz1 hz2
 go_enter Tryz.func34, Tryz.ntmps34
 go_upto_region 1 with fail
 refine wp_new1 (fun W hsz k4 kb => ?_)
 have k4 : Arr W w.heap.size (byts 0) := k4
 have h4 := kb.size
 clear hsz
 obtain ⟨v', wC, hr, hsl, hb1⟩ := hap2.out 29 W kb
 replace hr := zH hr
 go_wp2_with (at_builtin; refine wpList_append_run rfl _ _ 29 rfl rfl rfl hr.out ?_)
 replace k4 := k4.below hb1
 have hbC : Below w.heap.size w wC := bel kb hb1
 have hS := hap.out _ _ hbC hsl
 obtain ⟨aS, cS, rfl⟩ : ∃ aS cS, v' = .slice aS (al ++ ls).length cS := by
  obtain ⟨vs2, ⟨aS, cS, he, -⟩, hl2, -⟩ := hS
  exact ⟨aS, cS, by rw [he, hl2]⟩
 have cs := shsumb_any _ _ _ wC hS
 rw [hN] at cs
 replace cs := zH cs
 obtain ⟨n3, hn3⟩ : ∃ n, (al ++ ls).length = n := ⟨_, rfl⟩
 rw [hn3] at cs ⊢
 clear hS hn3 hsl hr hb1 hvs hap hvo hvl2 kb hap2 h4
 go_wp2_with fail
 refine cs.out.mono ?_
 rintro e wD ⟨rfl, hb⟩
 replace k4 := k4.below hb
 replace hbC : Below w.heap.size w wD := bel hbC hb
 clear hb cs
 go_upto_region 2 with (refine wpl_storeG rfl _ _ _ rfl _ (bytn 64 N) rfl rfl _ (Arr.new _ _ _) (by rw [bytn_len]; kernel_rfl) (by rw [bytn_len]; rfl) (bytn_one _ _) (fun wE k5 hg hsz => ?_))
 have hb := below_fresh hg
 have lt4 := k4.lt
 replace k4 := k4.below hb
 replace hbC : Below w.heap.size w wE := bel hbC hb
 obtain ⟨g5, hg5⟩ : ∃ g, wD.heap.size = g := ⟨_, rfl⟩
 rw [hg5] at k5 lt4 ⊢
 clear hb hg hsz hg5
 rw [bytn_u8s] at k5
 have cR := scReduce_any (some ⟨g5, 0, none⟩) 64 64 _ wE (Sl.ofArrN k5 (by simp [digs_len]) zDc)
 rw [val_bytn hNl] at cR
 replace cR := zH cR
 clear k5
 go_wp2_with fail
 refine cR.out.mono ?_
 rintro e wF ⟨rfl, hb⟩
 replace k4 := k4.below hb
 replace hbC : Below w.heap.size w wF := bel hbC hb
 clear hb cR
 go_wp2_with (refine zSt ?_)
 exact bodyPost_ret (results_arr2 Tryz.results34 _ _ _ rfl zKr _ (by first | assumption | exact Arr.setRow zAm _) zLn) rfl ⟨rfl, below_setRow hbC zOm _⟩
def verP (K R s : Nat) (L : List UInt8) : Bool :=
 (readP R).2 && ((readP K).2 && (decide (s < qN) && decide (encP (tmsP bP s 256) = encP (addP (readP R).1 (tmsP (readP K).1 (shab (nb 32 R ++ (nb 32 K ++ L)) % qN) 256)))))
theorem readP_ok (b : Nat) : (readP b).1.ok := by
 have z : zP.ok := ⟨pN_pos, pN_pos, pN_pos, pN_pos⟩
 have h1 : 1 < pN := by decide
 unfold readP
 split
 · exact z
 · rename_i hy
   have hy : b % 2 ^ 255 < pN := by
    have : b % 2 ^ 255 % pN = b % 2 ^ 255 := by simpa using hy
    rw [← this]
    exact Nat.mod_lt _ pN_pos
   split
   · exact z
   · split
     · split
       · exact z
       · exact ⟨Nat.mod_lt _ pN_pos, hy, h1, Nat.mod_lt _ pN_pos⟩
     · exact ⟨rtv_lt _, hy, h1, Nat.mod_lt _ pN_pos⟩
def sgL (R s : Nat) : List Value := byts R ++ byts s
theorem sgL_len (R s : Nat) : (sgL R s).length = 64 := by simp [sgL, byts_len]
theorem sgL_r {w : World} {k R s : Nat} (h : Arr w k (sgL R s)) : w.rangeAt k 0 (byts R) := h.range (fun j hj => by rw [Nat.zero_add, sgL, List.getElem?_append_left hj])
theorem sgL_s {w : World} {k R s : Nat} (h : Arr w k (sgL R s)) : w.rangeAt k 32 (byts s) := h.range (fun j hj => by rw [sgL, List.getElem?_append_right (by rw [byts_len]; omega), byts_len, show 32 + j - 32 = j by omega])
theorem byts_nb (R : Nat) : byts R = u8s (nb 32 R) := nb_u8s 32 R
def Ph.sls (n : Nat) (ls : List (List UInt8)) : Ph := ⟨fun v w => ∃ d, v = .slice d n n ∧ Sls w v ls, fun _ _ _ ⟨d, h1, h2⟩ hb => ⟨d, h1, h2.below hb⟩, false, fun h => by cases h⟩
theorem sgL_sl {w : World} {k R s : Nat} (h : Arr w k (sgL R s)) : Sl w (.slice (some ⟨k, 0, none⟩) 32 64) (u8s (nb 32 R)) := by
 refine ⟨some ⟨k, 0, none⟩, 64, by rw [u8s_len, nb_len], by rw [u8s_len, nb_len]; decide, by decide, fun h => (by cases h), fun x hx j u hu => ?_⟩
 cases hx
 rw [Addr.add_lit]
 rw [← byts_nb] at hu
 exact sgL_r h j u hu
theorem cverify_any (K R s : Nat) (hK : K < 256 ^ 32) (hR : R < 256 ^ 32) (hs : s < 256 ^ 32) (d : Option Addr) (n c : Nat) (ls : List (List UInt8)) (hl : ls.length ≤ 100000) (w : World) (hls : Sls w (.slice d n c) ls) :
 Calls Tryz.prog 11 #[.agg (byts K).toArray, .agg (sgL R s).toArray, .slice d n c] w fun e w' => e = .returned (.bool (verP K R s ls.flatten)) ∧ Below w.heap.size w w' := by
 have cR := zH (fun w => pread_any R hR w)
 have cK := zH (fun w => pread_any K hK w)
 have okR := readP_ok R
 have okK := readP_ok K
 obtain ⟨V, hV⟩ : ∃ V, verP K R s ls.flatten = V := ⟨_, rfl⟩
 rw [hV]
 unfold verP at hV
 obtain ⟨RP, hRP⟩ : ∃ P, (readP R).1 = P := ⟨_, rfl⟩
 obtain ⟨KP, hKP⟩ : ∃ P, (readP K).1 = P := ⟨_, rfl⟩
 obtain ⟨o1, ho1⟩ : ∃ o, (readP R).2 = o := ⟨_, rfl⟩
 obtain ⟨o2, ho2⟩ : ∃ o, (readP K).2 = o := ⟨_, rfl⟩
 rw [hRP, ho1] at cR
 rw [hKP, ho2] at cK
 rw [hRP] at okR
 rw [hKP] at okK
 rw [hRP, hKP, ho1, ho2] at hV
 have cL := fun w => scLess_any s hs w
 obtain ⟨o3, ho3⟩ : ∃ o, decide (s < qN) = o := ⟨_, rfl⟩
 rw [ho3] at cL hV
 replace cL := zH cL
 replace hV := zH hV
 replace okR := zH okR
 replace okK := zH okK
 replace hls := zH hls
 replace hs := zH hs
 replace hl := zH hl
 clear hRP hKP ho1 ho2 ho3 hK hR
 go_enter Tryz.func11, Tryz.ntmps11
 go_upto_region 1 with fail
 refine wp_new2 (fun W hsz k3 k4 kb => ?_)
 have k4 : Arr W (w.heap.size + 1) (sgL R s) := k4
 clear hsz
 have hat : ∀ w o, (Instr.arrayAt 25 (.slice (some ⟨o, 32, none⟩) 32 32)).run Tryz.prog w = .ok (.pointer (some ⟨o, 32, none⟩)) w := fun w o => run_arrayAt w 25 5 32 _ 32 32 Tryz.underlying25 zDc
 have hat2 : ∀ w o, (Instr.arrayAt 25 (.slice (some ⟨o, 0, none⟩) 32 64)).run Tryz.prog w = .ok (.pointer (some ⟨o, 0, none⟩)) w := fun w o => run_arrayAt w 25 5 32 _ 32 64 Tryz.underlying25 zDc
 have hs1 := sgL_s k4
 go_upto_region 2 with (first | (refine wpList_load_mid2 rfl _ _ rfl _ _ rfl zKr _ hs1 zLn ?_) | (refine zSt ?_))
 clear hs1
 have hg_k7_k3 := k3.lt
 have hg_k7_k4 := k4.lt
 refine code_new (fun w_1 k7 hnew => ?_)
 have k3 := k3.below hnew
 have k4 := k4.below hnew
 have kb := bel kb hnew
 clear hnew
 generalize (W).heap.size = g_k7 at k7 hg_k7_k3 hg_k7_k4 ⊢
 have hr1 := sgL_r k4
 go_wp2_with (refine wpList_load_mid2 rfl _ _ rfl _ _ rfl zKr _ hr1 zLn ?_)
 clear hr1
 refine (cR.out _).mono ?_
 rintro e w_2 ⟨rfl, hb_2⟩
 have k3 := k3.below hb_2
 have k4 := k4.below hb_2
 have k7 := k7.below hb_2
 have kb := bel kb hb_2
 clear hb_2
 go_upto_region 3 with (first | (refine zLd ?_) | (refine zSt ?_))
 have hg_k8_k3 := k3.lt
 have hg_k8_k4 := k4.lt
 have hg_k8_k7 := k7.lt
 refine code_new (fun w_3 k8 hnew => ?_)
 have k3 := k3.below hnew
 have k4 := k4.below hnew
 have k7 := k7.below hnew
 have kb := bel kb hnew
 clear hnew
 generalize (w_2).heap.size = g_k8 at k8 hg_k8_k3 hg_k8_k4 hg_k8_k7 ⊢
 go_upto_region 3 with (first | (refine zLd ?_) | (refine zSt ?_))
 go_wp2_with (first | (refine zLd ?_) | (refine zSt ?_))
 refine (cK.out _).mono ?_
 rintro e w_4 ⟨rfl, hb_4⟩
 have k3 := k3.below hb_4
 have k4 := k4.below hb_4
 have k7 := k7.below hb_4
 have k8 := k8.below hb_4
 have kb := bel kb hb_4
 clear hb_4
 go_upto_region 4 with (first | (refine zLd ?_) | (refine zSt ?_))
 have hg_k10_k3 := k3.lt
 have hg_k10_k4 := k4.lt
 have hg_k10_k7 := k7.lt
 have hg_k10_k8 := k8.lt
 refine code_new (fun w_5 k10 hnew => ?_)
 have k3 := k3.below hnew
 have k4 := k4.below hnew
 have k7 := k7.below hnew
 have k8 := k8.below hnew
 have kb := bel kb hnew
 clear hnew
 generalize (w_4).heap.size = g_k10 at k10 hg_k10_k3 hg_k10_k4 hg_k10_k7 hg_k10_k8 ⊢
 clear cR cK
 cases o1
 · go_wp2_with fail
   go_ret
   exact ⟨by rw [← hV.out]; rfl, kb⟩
 cases o2
 · go_wp2_with fail
   go_ret
   exact ⟨by rw [← hV.out]; rfl, kb⟩
 go_wp2_with (refine zLd ?_)
 refine (cL.out _).mono ?_
 rintro e w_6 ⟨rfl, hb_6⟩
 have k3 := k3.below hb_6
 have k4 := k4.below hb_6
 have k7 := k7.below hb_6
 have k8 := k8.below hb_6
 have k10 := k10.below hb_6
 have kb := bel kb hb_6
 clear hb_6
 cases o3
 · go_wp2_with fail
   go_ret
   exact ⟨by rw [← hV.out]; rfl, kb⟩
 have sR := zH (sgL_sl k4)
 have sK := zH (show Sl w_6 (.slice (some ⟨w.heap.size, 0, none⟩) 32 32) (u8s (nb 32 K)) from Sl.ofArrN (by rw [← byts_nb]; exact k3) (nb_len _ _) zDc)
 have hls2 := hls.out.below kb
 have cS := zH (fun d' (w' : World) (hb : Below (w_6).heap.size w_6 w') (h : Sls w' (.slice d' 2 2) [nb 32 R, nb 32 K]) => csum2_any w' d' d 2 n c [nb 32 R, nb 32 K] ls h (hls2.below hb) (by simp) hl.out)
 obtain ⟨M, hM⟩ : ∃ M, shab ([nb 32 R, nb 32 K] ++ ls).flatten % qN = M := ⟨_, rfl⟩
 rw [hM] at cS
 have lM : M < 256 ^ 32 := by rw [← hM]; exact Nat.lt_trans (Nat.mod_lt _ zDc) zDc
 have hV2 : decide (encP (tmsP bP s 256) = encP (addP RP (tmsP KP M 256))) = V := by
  have h := hV.out
  simp only [Bool.true_and] at h
  rw [← h, ← hM]
  rfl
 have qe := fun w => eq_num (b := V) hV2 (encP_lt _) (encP_lt _) w
 have c1 := zH (fun w => ptimes_any bP s bP_ok hs.out w)
 have c2 := zH (fun w => pbytes_any (tmsP bP s 256) (tmsP_ok _ _ _) w)
 have c3 := zH (fun w => ptimes_any KP M okK.out lM w)
 have c4 := zH (fun w => padd_any RP (tmsP KP M 256) okR.out (tmsP_ok _ _ _) w)
 have c5 := zH (fun w => pbytes_any (addP RP (tmsP KP M 256)) (addP_ok _ _) w)
 obtain ⟨A, hA⟩ : ∃ P, tmsP bP s 256 = P := ⟨_, rfl⟩
 obtain ⟨B, hB⟩ : ∃ P, tmsP KP M 256 = P := ⟨_, rfl⟩
 rw [hA] at c1 c2 qe
 rw [hB] at c3 c4 c5 qe
 obtain ⟨C, hC⟩ : ∃ P, addP RP B = P := ⟨_, rfl⟩
 rw [hC] at c4 c5 qe
 obtain ⟨x, hx⟩ : ∃ x, encP A = x := ⟨_, rfl⟩
 obtain ⟨y, hy⟩ : ∃ y, encP C = y := ⟨_, rfl⟩
 rw [hx] at c2 qe
 rw [hy] at c5 qe
 replace qe := zH qe
 clear hM lM hV2 hA hB hC hx hy hV hls hl hs okR okK hls2 cL hat hat2
 go_upto_region 6 with fail
 refine Tx.start (fun w' => Below (w_6).heap.size (w_6) w') 6 7 rfl zKr ?_
 have hS_7 : Below (w_6).heap.size (w_6) (World.drew w_6) := (Below.refl _ _).drew
 refine Tx.seg2 (A := ?_) 4 7 zKr (by exact hS_7) [0, 1, 2] zKr ?_ ?_
 rotate_left
 · intro w' hB
   exact zRd
 refine Tx.poolB 1 63 [(3, 42), (4, 43), (5, 12)] [(false, []), (false, [(3, 42)]), (false, [])] [(3, Ph.sls 2 [nb 32 R, nb 32 K]), (4, Ph.is (.agg (byts M).toArray)), (5, Ph.arr (w_6).heap.size (byts 0))] zKr zKr (by first | assumption | exact (Below.refl _ _).drew) ?_ ?_
 · refine ⟨⟨_, rfl, ?_⟩, ⟨_, rfl, ?_⟩, ⟨_, rfl, ?_⟩, trivial⟩
   · intro vs w1 hS hE hD K hK
     clear hD
     simp only [fillL, Act.put, zSa, zSz, zSs] at hK ⊢
     go_simp
     exact hK _ _ ⟨_, rfl, Sls.new2 (sR.out.below hS) (sK.out.below hS) _⟩ (below_alloc _ _) nofun
   · intro vs w1 hS hE hD K hK
     obtain ⟨q3, -⟩ := hD
     simp only [fillL, Act.put, zSa, zSz, zSs] at hK ⊢
     obtain ⟨d3, e3, hs3⟩ := q3
     rw [e3] at hK ⊢
     rw [show vs _ = _ from e3] at hs3
     clear e3
     go_simp
     refine (cS.out _ _ hS hs3).mono ?_
     rintro e w2 ⟨rfl, hb2⟩
     exact hK _ _ rfl hb2 nofun
   · intro vs w1 hS hE hD K hK
     clear hD
     simp only [fillL, Act.put, zSa, zSz, zSs] at hK ⊢
     go_simp
     exact hK _ _ ⟨_, rfl, Nat.le_trans zLe hE.size, Arr.new _ _ _⟩ (below_alloc _ _) (fun _ => ⟨_, rfl, Nat.le_refl _⟩)
 intro vs w_p6 hS_p6 hE_p6 hP hD
 obtain ⟨q3, q4, q5, -⟩ := hP
 simp only [fillL, Act.put, zSa, zSz, zSs]
 obtain ⟨d3, e3, hs3⟩ := q3
 rw [e3]
 rw [show vs _ = _ from e3] at hs3
 clear e3
 rw [show vs 4 = _ from q4]
 clear q4
 obtain ⟨g5, e5, hg5, ha5⟩ := q5
 rw [e5]
 clear e5 hD vs
 have lt_3 := Nat.lt_of_lt_of_le k3.lt hg5
 have lt_7 := Nat.lt_of_lt_of_le k7.lt hg5
 have lt_8 := Nat.lt_of_lt_of_le k8.lt hg5
 have lt_10 := Nat.lt_of_lt_of_le k10.lt hg5
 clear hs3
 have k7 := k7.below hS_p6
 have k8 := k8.below hS_p6
 have k10 := k10.below hS_p6
 have kb := bel kb hS_p6
 refine Tx.bar 127 rfl zDk (fun K hK => ?_)
 refine step_store_arr rfl _ _ _ rfl _ _ rfl rfl _ zAm zLn zLm zOn ?_
 refine hK (fun _ => True) 9999 _ _ ?_
 clear hK K
 try simp only [Act.put]
 try simp only [zSa, zSz, zSs]
 refine Tx.done zKr ?_
 first | refine then_row ha5 (fun w_8 ha5 hoth hbel => ?_) | refine inb_row ha5 (fun w_8 ha5 hoth hbel => ?_)
 have k7 := hoth _ _ zOm k7
 have k8 := hoth _ _ zOm k8
 have k10 := hoth _ _ zOm k10
 have kb := hbel _ _ zOm kb
 clear hoth hbel
 have k12 := ha5
 clear ha5
 generalize g5 = g_k12 at *
 clear cS sR sK
 go_upto_region 7 with fail
 refine Tx.start (fun w' => Below (w_8).heap.size (w_8) w') 9999 12 rfl zKr ?_
 have hS_9 : Below (w_8).heap.size (w_8) (World.drew w_8) := (Below.refl _ _).drew
 refine Tx.seg (A := ?_) 8 114 zKr (by exact hS_9) [1, 4, 5, 6] zKr ?_ ?_
 rotate_left
 · intro w' hB
   have y7 := k7.below hB
   have y8 := k8.below hB
   have y10 := k10.below hB
   have y12 := k12.below hB
   exact zRd
 refine Tx.eff 0 115 rfl zDk (fun K hK => ?_)
 go_simp
 refine (pbase_any _).mono ?_
 rintro e w_10 ⟨rfl, hb_10⟩
 have hS_10 := ext_trans hS_9 (Nat.le_refl _) hb_10
 refine hK (fun w' => Below (w_8).heap.size (w_8) w') _ _ hS_10 (fun _ h => h) ?_
 clear hK K hb_10 hS_9
 try simp only [Act.put, zSa, zSz, zSs]
 refine Tx.eff 2 119 rfl zDk (fun K hK => ?_)
 go_simp
 refine (c1.out _).mono ?_
 rintro e w_11 ⟨rfl, hb_11⟩
 have hS_11 := ext_trans hS_10 (Nat.le_refl _) hb_11
 refine hK (fun w' => Below (w_8).heap.size (w_8) w') _ _ hS_11 (fun _ h => h) ?_
 clear hK K hb_11 hS_10
 try simp only [Act.put, zSa, zSz, zSs]
 refine Tx.eff 3 127 rfl zDk (fun K hK => ?_)
 go_simp
 refine (c2.out _).mono ?_
 rintro e w_12 ⟨rfl, hb_12⟩
 have hS_12 := ext_trans hS_11 (Nat.le_refl _) hb_12
 refine hK (fun w' => Below (w_8).heap.size (w_8) w') _ _ hS_12 (fun _ h => h) ?_
 clear hK K hb_12 hS_11
 try simp only [Act.put, zSa, zSz, zSs]
 refine Tx.eff 7 255 rfl zDk (fun K hK => ?_)
 go_simp
 refine (c3.out _).mono ?_
 rintro e w_13 ⟨rfl, hb_13⟩
 have hS_13 := ext_trans hS_12 (Nat.le_refl _) hb_13
 refine hK (fun w' => Below (w_8).heap.size (w_8) w') _ _ hS_13 (fun _ h => h) ?_
 clear hK K hb_13 hS_12
 try simp only [Act.put, zSa, zSz, zSs]
 refine Tx.eff 8 511 rfl zDk (fun K hK => ?_)
 go_simp
 refine (c4.out _).mono ?_
 rintro e w_14 ⟨rfl, hb_14⟩
 have hS_14 := ext_trans hS_13 (Nat.le_refl _) hb_14
 refine hK (fun w' => Below (w_8).heap.size (w_8) w') _ _ hS_14 (fun _ h => h) ?_
 clear hK K hb_14 hS_13
 try simp only [Act.put, zSa, zSz, zSs]
 refine Tx.eff 9 1023 rfl zDk (fun K hK => ?_)
 go_simp
 refine (c5.out _).mono ?_
 rintro e w_15 ⟨rfl, hb_15⟩
 have hS_15 := ext_trans hS_14 (Nat.le_refl _) hb_15
 refine hK (fun w' => Below (w_8).heap.size (w_8) w') _ _ hS_15 (fun _ h => h) ?_
 clear hK K hb_15 hS_14
 try simp only [Act.put, zSa, zSz, zSs]
 refine Tx.seg (A := ?_) 0 4095 zKr (by exact hS_15) [10, 11] zKr ?_ ?_
 rotate_left
 · intro w' hB
   have eqf := qe.out w'
   exact zRd
 refine Tx.done zKr ?_
 have kb := bel kb hS_15
 clear hS_15
 go_wp2_with fail
 go_ret
 exact ⟨rfl, kb⟩
def seedN (K : Nat) : Nat := shab (nb 32 K)
def secN (K : Nat) : Nat := clampN (seedN K % 256 ^ 32)
theorem secN_lt (K : Nat) : secN K < 256 ^ 32 := Nat.lt_trans (clamp_lt _) zDc
def sideL (K : Nat) : List UInt8 := nb 32 (seedN K / 256 ^ 32)
def pubN (K : Nat) : Nat := encP (tmsP bP (secN K) 256)
theorem bytn64_lo {w : World} {k N : Nat} (h : Arr w k (bytn 64 N)) : w.rangeAt k 0 (byts (N % 256 ^ 32)) := h.range (fun j hj => bytn_part N j hj)
theorem bytn64_hi (N j : Nat) (hj : j < 32) : (bytn 64 N)[32 + j]? = (bytn 32 (N / 256 ^ 32))[j]? := by
 rw [bytn_get _ _ _ zOm, bytn_get _ _ _ hj, Nat.pow_add, ← Nat.div_div_eq_div_mul]
theorem csecret_any (K : Nat) (w : World) :
 Calls Tryz.prog 33 #[.agg (byts K).toArray] w fun e w' => ∃ g, e = .returned (.tuple #[.agg (byts (secN K)).toArray, .slice (some ⟨g, 32, none⟩) 32 32]) ∧ Sl w' (.slice (some ⟨g, 32, none⟩) 32 32) (u8s (sideL K)) ∧ Below w.heap.size w w' := by
 obtain ⟨N, hN⟩ : ∃ N, seedN K = N := ⟨_, rfl⟩
 have cS := zH (fun (w : World) g (h : Sls w (.slice (some ⟨g, 0, none⟩) 1 1) [nb 32 K]) => show Calls Tryz.prog 74 #[.slice (some ⟨g, 0, none⟩) 1 1] w fun e w' => e = .returned (.agg (bytn 64 N).toArray) ∧ Below w.heap.size w w' from by
  have q := shsumb_any (some ⟨g, 0, none⟩) 1 [nb 32 K] w h
  rw [show [nb 32 K].flatten = nb 32 K by simp, show shab (nb 32 K) = N from hN] at q
  exact q)
 have cC := zH (fun w => lclamp_any (N % 256 ^ 32) (Nat.mod_lt _ zDc) w)
 unfold secN sideL
 rw [hN]
 obtain ⟨A, hA⟩ : ∃ A, clampN (N % 256 ^ 32) = A := ⟨_, rfl⟩
 rw [hA] at cC ⊢
 clear hN hA
 go_enter Tryz.func33, Tryz.ntmps33
 go_upto_region 1 with fail
 refine wp_new2 (fun W hsz k1 k2 kb => ?_)
 replace k2 : Arr W (w.heap.size + 1) (byts 0) := k2
 have h1 := zH (show Sl W (.slice (some ⟨w.heap.size, 0, none⟩) 32 32) (u8s (nb 32 K)) from Sl.ofArrN (by rw [← byts_nb]; exact k1) (nb_len _ _) zDc)
 have kb2 := below_alloc W (.cells #[.slice (some ⟨w.heap.size, 0, none⟩) 32 32] 22)
 have h2 := zH (Sls.new1 h1.out 22)
 clear hsz h1 k1
 go_wp2_with fail
 refine (cS.out _ _ h2.out).mono ?_
 rintro e w1 ⟨rfl, hb⟩
 replace hb := bel kb2 hb
 replace k2 := k2.below hb
 replace kb := bel kb hb
 clear hb kb2 h2 cS
 go_upto_region 2 with (refine wpl_storeG rfl _ _ _ rfl _ (bytn 64 N) rfl rfl _ (Arr.new _ _ _) (by rw [bytn_len]; kernel_rfl) (by rw [bytn_len]; rfl) (bytn_one _ _) (fun wE k5 hg hsz => ?_))
 have hb := below_fresh hg
 have lt2 := k2.lt
 replace k2 := k2.below hb
 replace kb : Below w.heap.size w wE := bel kb hb
 obtain ⟨g5, hg5⟩ : ∃ g, w1.heap.size = g := ⟨_, rfl⟩
 rw [hg5] at k5 lt2 ⊢
 clear hb hg hsz hg5
 have hat2 : ∀ w o, (Instr.arrayAt 25 (.slice (some ⟨o, 0, none⟩) 32 64)).run Tryz.prog w = .ok (.pointer (some ⟨o, 0, none⟩)) w := fun w o => run_arrayAt w 25 5 32 _ 32 64 Tryz.underlying25 zDc
 refine Tx.start (fun w' => Below (wE).heap.size (wE) w') 5 7 rfl zKr ?_
 have hS_1 : Below (wE).heap.size (wE) (World.drew wE) := (Below.refl _ _).drew
 refine Tx.seg (A := ?_) 4 7 zKr (by exact hS_1) [0, 1, 2] zKr ?_ ?_
 rotate_left
 · intro w' hB
   have y5 := bytn64_lo (k5.below hB)
   exact zRm
 refine Tx.pure (A := ?_) 3 23 zKr (by exact hS_1) [4] zKr ?_ ?_
 rotate_left
 · intro w'
   iterate 1 (first | (refine rd_skip rfl rfl ?_; simp only [Act.put, zSa, zSz, zSs]) | (refine rd_take (v := ?_) rfl rfl ?_ ?_; rotate_left; (focus (go_simp; try (with_reducible rfl))); simp only [Act.put, zSa, zSz, zSs]))
   exact rd_nil
 refine Tx.eff 3 31 rfl zDk (fun K hK => ?_)
 go_simp
 refine (cC.out _).mono ?_
 rintro e w_2 ⟨rfl, hb_2⟩
 have hS_2 := ext_trans hS_1 (Nat.le_refl _) hb_2
 refine hK (fun w' => Below (wE).heap.size (wE) w') _ _ hS_2 (fun _ h => h) ?_
 clear hK K hb_2 hS_1
 try simp only [Act.put, zSa, zSz, zSs]
 have k2 := k2.below hS_2
 have k5 := k5.below hS_2
 have kb := bel kb hS_2
 refine Tx.bar 63 rfl zDk (fun K hK => ?_)
 refine step_store_arr rfl _ _ _ rfl _ _ rfl rfl _ zAm zLn zLm zOn ?_
 refine hK (fun _ => True) 9999 _ _ ?_
 clear hK K
 try simp only [Act.put]
 try simp only [zSa, zSz, zSs]
 refine Tx.seg (A := ?_) 0 127 zKr (by exact trivial) [6] zKr ?_ ?_
 rotate_left
 · intro w' hB
   exact zRd
 refine Tx.done zKr ?_
 refine then_row k2 (fun w_3 k2 hoth hbel => ?_)
 have k5 := hoth _ _ zOm k5
 have kb := hbel _ _ zOm kb
 clear hoth hbel
 go_wp2_with fail
 refine bodyPost_ret (results_arr_tmp Tryz.results33 _ _ _ _ rfl Tryz.underlying25 rfl _ k2 (by rw [byts_len]; kernel_rfl) _ rfl) rfl ⟨g5, rfl, ?_, kb⟩
 refine ⟨some ⟨g5, 32, none⟩, 32, by rw [u8s_len, nb_len], by rw [u8s_len, nb_len]; decide, by decide, fun h => (by cases h), fun x hx j u hu => ?_⟩
 cases hx
 rw [Addr.add_lit]
 rw [← nb_u8s] at hu
 have hj : j < 32 := by
  have := (List.getElem?_eq_some_iff.1 hu).1
  rwa [bytn_len] at this
 exact k5.cell (by rw [bytn64_hi N j hj]; exact hu)
theorem cpublic_any (K : Nat) (w : World) :
 Calls Tryz.prog 10 #[.agg (byts K).toArray] w fun e w' => e = .returned (.agg (byts (pubN K)).toArray) ∧ Below w.heap.size w w' := by
 have cS := zH (fun w => csecret_any K w)
 have lS := secN_lt K
 unfold pubN
 obtain ⟨A, hA⟩ : ∃ A, secN K = A := ⟨_, rfl⟩
 rw [hA] at lS ⊢
 simp only [hA] at cS
 have c0 := zH (fun w => pbase_any w)
 have c1 := zH (fun w => ptimes_any bP A bP_ok lS w)
 have c2 := zH (fun w => pbytes_any (tmsP bP A 256) (tmsP_ok _ _ _) w)
 obtain ⟨T, hT⟩ : ∃ P, tmsP bP A 256 = P := ⟨_, rfl⟩
 rw [hT] at c1 c2 ⊢
 obtain ⟨b, hb⟩ : ∃ b, bP = b := ⟨_, rfl⟩
 rw [hb] at c0 c1
 obtain ⟨E, hE⟩ : ∃ b, encP T = b := ⟨_, rfl⟩
 rw [hE] at c2 ⊢
 clear hA hT hb hE lS
 go_enter Tryz.func10, Tryz.ntmps10
 go_upto_region 1 with fail
 refine wp_new2 (fun W hsz k1 k2 kb => ?_)
 replace k2 : Arr W (w.heap.size + 1) (byts 0) := k2
 clear hsz
 go_wp2_with (refine zLd ?_)
 refine (cS.out _).mono ?_
 rintro e w1 ⟨g, rfl, -, hb⟩
 replace k2 := k2.below hb
 replace kb := bel kb hb
 clear hb k1 cS
 go_upto_region 2 with (refine wpl_storeG rfl _ _ _ rfl _ (byts A) rfl rfl _ (Arr.new _ _ _) (by rw [byts_len]; kernel_rfl) (by rw [byts_len]; rfl) (byts_one _) (fun wE k5 hg hsz => ?_))
 have hb := below_fresh hg
 have lt2 := k2.lt
 replace k2 := k2.below hb
 replace kb : Below w.heap.size w wE := bel kb hb
 obtain ⟨g5, hg5⟩ : ∃ g, w1.heap.size = g := ⟨_, rfl⟩
 rw [hg5] at k5 lt2 ⊢
 clear hb hg hsz hg5
 refine Tx.start (fun w' => Below (wE).heap.size (wE) w') 4 5 rfl zKr ?_
 have hS_4 : Below (wE).heap.size (wE) (World.drew wE) := (Below.refl _ _).drew
 refine Tx.seg (A := ?_) 4 2 zKr (by exact hS_4) [1] zKr ?_ ?_
 rotate_left
 · intro w' hB
   have y5 := k5.below hB
   exact zRd
 refine Tx.eff 0 3 rfl zDk (fun K hK => ?_)
 go_simp
 refine (c0.out _).mono ?_
 rintro e w_5 ⟨rfl, hb_5⟩
 have hS_5 := ext_trans hS_4 (Nat.le_refl _) hb_5
 refine hK (fun w' => Below (wE).heap.size (wE) w') _ _ hS_5 (fun _ h => h) ?_
 clear hK K hb_5 hS_4
 try simp only [Act.put, zSa, zSz, zSs]
 refine Tx.eff 2 7 rfl zDk (fun K hK => ?_)
 go_simp
 refine (c1.out _).mono ?_
 rintro e w_6 ⟨rfl, hb_6⟩
 have hS_6 := ext_trans hS_5 (Nat.le_refl _) hb_6
 refine hK (fun w' => Below (wE).heap.size (wE) w') _ _ hS_6 (fun _ h => h) ?_
 clear hK K hb_6 hS_5
 try simp only [Act.put, zSa, zSz, zSs]
 refine Tx.eff 3 15 rfl zDk (fun K hK => ?_)
 go_simp
 refine (c2.out _).mono ?_
 rintro e w_7 ⟨rfl, hb_7⟩
 have hS_7 := ext_trans hS_6 (Nat.le_refl _) hb_7
 refine hK (fun w' => Below (wE).heap.size (wE) w') _ _ hS_7 (fun _ h => h) ?_
 clear hK K hb_7 hS_6
 try simp only [Act.put, zSa, zSz, zSs]
 have k2 := k2.below hS_7
 have kb := bel kb hS_7
 refine Tx.bar 31 rfl zDk (fun K hK => ?_)
 refine step_store_arr rfl _ _ _ rfl _ _ rfl rfl _ zAm zLn zLm zOn ?_
 refine hK (fun _ => True) 9999 _ _ ?_
 clear hK K
 try simp only [Act.put]
 try simp only [zSa, zSz, zSs]
 refine Tx.done zKr ?_
 refine then_row k2 (fun w_8 k2 hoth hbel => ?_)
 have kb := hbel _ _ zOm kb
 clear hoth hbel
 go_wp2_with fail
 exact bodyPost_ret (results_arr2 Tryz.results10 _ _ _ rfl zKr _ k2 (by rw [byts_len]; kernel_rfl)) rfl ⟨rfl, kb⟩
end Go.Proofs.YtncnlfpiondpnaaGreat
