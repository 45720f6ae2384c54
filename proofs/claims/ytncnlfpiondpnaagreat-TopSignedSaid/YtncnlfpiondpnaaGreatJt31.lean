/- TopSigned: part 31 of its proof: lemmas and contracts, each with its conditions in its own statement; the last part holds the law itself. -/
import Derived.Test.YtncnlfpiondpnaaGreatJt30
import Derived.Lib.MakeNoZero
import Derived.Laws.Externs

set_option maxHeartbeats 4000000
set_option maxRecDepth 100000
namespace Go.Proofs.YtncnlfpiondpnaaGreat
open Go.RowKit
theorem cvmay_any (K : Nat) (hK : K < 256 ^ 32) (w : World) :
 Calls Tryz.prog 62 #[.agg (byts K).toArray] w fun e w' => e = .returned (.bool (readP K).2) ∧ Below w.heap.size w w' := by
 have cR := zH (fun w => pread_any K hK w)
 obtain ⟨P, hP⟩ : ∃ P, (readP K).1 = P := ⟨_, rfl⟩
 obtain ⟨o, ho⟩ : ∃ o, (readP K).2 = o := ⟨_, rfl⟩
 rw [hP, ho] at cR
 rw [ho]
 clear hP ho hK
 go_enter Tryz.func62, Tryz.ntmps62
 go_upto_region 1 with fail
 refine wp_new1 (fun W hsz k1 kb => ?_)
 clear hsz
 go_wp2_with (refine zLd ?_)
 refine (cR.out _).mono ?_
 rintro e w_1 ⟨rfl, hb_1⟩
 have k1 := k1.below hb_1
 have kb := bel kb hb_1
 clear hb_1
 go_upto_region 2 with (first | (refine zLd ?_) | (refine zSt ?_))
 have hg_k3_k1 := k1.lt
 refine code_new (fun w_2 k3 hnew => ?_)
 have k1 := k1.below hnew
 have kb := bel kb hnew
 clear hnew
 generalize (w_1).heap.size = g_k3 at k3 hg_k3_k1 ⊢
 go_wp2_with fail
 go_ret
 exact ⟨rfl, kb⟩
theorem crtL_len (i : Int) (k R s : Nat) : (crtL i k R s).length = 97 := by simp [crtL, byts_len, sgL_len]
theorem crtL_one (i : Int) (k R s : Nat) : ∀ v ∈ crtL i k R s, v.oneCell' = true := by
 intro v hv
 rcases List.mem_cons.1 hv with rfl | h
 · rfl
 · rcases List.mem_append.1 h with h | h
   · exact byts_one _ v h
   · exact sgL_one _ _ v h
def crtG (K : Nat) (i : Int) (k : Nat) : List Value := crtL i k (sgR K (pcct ++ (be8s [i] ++ nb 32 k))) (sgS K (pcct ++ (be8s [i] ++ nb 32 k)))
def crtV (K : Nat) (i : Int) (k : Nat) : List Value := if mayI i = true then (if (readP k).2 = true then crtG K i k else crtL 0 0 0 0) else crtL 0 0 0 0
def crtE (i : Int) (k : Nat) : Int := if mayI i = true then (if (readP k).2 = true then 0 else 21) else 1
theorem ctsign_any (K k : Nat) (i : Int) (hk : k < 256 ^ 32) (w : World) :
 Calls Tryz.prog 22 #[.agg (byts K).toArray, .int .i64 i, .agg (byts k).toArray] w fun e w' => e = .returned (.tuple #[.agg (crtV K i k).toArray, .int .i64 (crtE i k)]) ∧ Below w.heap.size w w' := by
 have cM := zH (fun w => show Calls Tryz.prog 61 #[.int .i64 i] w fun e w' => e = .returned (.bool (mayI i)) ∧ Below w.heap.size w w' from cmay_any i w)
 have cV := zH (fun w => cvmay_any k hk w)
 have cB := zH (fun w => show Calls Tryz.prog 63 #[.string ⟨#[80, 67, 67, 84]⟩, .int .i64 i] w fun e w' => ∃ g c, e = .returned (.slice (some ⟨g, 0, none⟩) 12 c) ∧ Sl w' (.slice (some ⟨g, 0, none⟩) 12 c) (u8s (pcct ++ be8s [i])) ∧ Below w.heap.size w w' from cbody_any ⟨#[80, 67, 67, 84]⟩ zDc i w)
 obtain ⟨B, hB⟩ : ∃ B, pcct ++ be8s [i] = B := ⟨_, rfl⟩
 have hfl : [B, nb 32 k].flatten = pcct ++ (be8s [i] ++ nb 32 k) := by rw [← hB]; simp
 rw [hB] at cB
 obtain ⟨R, hR⟩ : ∃ R, sgR K (pcct ++ (be8s [i] ++ nb 32 k)) = R := ⟨_, rfl⟩
 obtain ⟨s, hs⟩ : ∃ s, sgS K (pcct ++ (be8s [i] ++ nb 32 k)) = s := ⟨_, rfl⟩
 have cS := zH (fun w' d' (h : Sls w' (.slice d' 2 2) [B, nb 32 k]) => show Calls Tryz.prog 8 #[.agg (byts K).toArray, .slice d' 2 2] w' fun e w'' => e = .returned (.agg (sgL R s).toArray) ∧ Below w'.heap.size w' w'' from by
  have q := csign_any K d' 2 2 [B, nb 32 k] (by simp) w' h
  rw [hfl, hR, hs] at q
  exact q)
 obtain ⟨X, hX⟩ : ∃ X, crtV K i k = X := ⟨_, rfl⟩
 obtain ⟨E, hE⟩ : ∃ E, crtE i k = E := ⟨_, rfl⟩
 rw [hX, hE]
 unfold crtV crtG at hX
 unfold crtE at hE
 rw [hR, hs] at hX
 obtain ⟨m, hm⟩ : ∃ m, mayI i = m := ⟨_, rfl⟩
 obtain ⟨o, ho⟩ : ∃ o, (readP k).2 = o := ⟨_, rfl⟩
 rw [hm] at cM hX hE
 rw [ho] at cV hX hE
 clear hB hfl hR hs hm ho hk
 replace hX := zH hX
 replace hE := zH hE
 go_enter Tryz.func22, Tryz.ntmps22
 go_upto_region 1 with fail
 refine wp_new3 (fun W hsz k3 k5 k6 kb => ?_)
 replace k6 : Arr W (w.heap.size + 1 + 1) (crtL 0 0 0 0) := k6
 clear hsz
 go_wp2_with fail
 refine (cM.out _).mono ?_
 rintro e w_3 ⟨rfl, hb_3⟩
 have k3 := k3.below hb_3
 have k5 := k5.below hb_3
 have k6 := k6.below hb_3
 have kb := bel kb hb_3
 clear hb_3
 cases m
 · go_wp2_with (first | (refine wpList_builta rfl _ _ rfl (crtL 0 0 0 0).toArray zKr ?_) | (refine zSt ?_))
   exact bodyPost_ret (results_arr_tmp Tryz.results22 _ _ _ _ rfl Tryz.underlying36 rfl _ (k6.setRow _) (by rw [crtL_len]; kernel_rfl) _ rfl) rfl ⟨by rw [← hX.out, ← hE.out]; rfl, below_setRow kb zOm _⟩
 go_wp2_with (refine zLd ?_)
 refine (cV.out _).mono ?_
 rintro e w_4 ⟨rfl, hb_4⟩
 have k3 := k3.below hb_4
 have k5 := k5.below hb_4
 have k6 := k6.below hb_4
 have kb := bel kb hb_4
 clear hb_4
 cases o
 · go_wp2_with (first | (refine wpList_builta rfl _ _ rfl (crtL 0 0 0 0).toArray zKr ?_) | (refine zSt ?_))
   exact bodyPost_ret (results_arr_tmp Tryz.results22 _ _ _ _ rfl Tryz.underlying36 rfl _ (k6.setRow _) (by rw [crtL_len]; kernel_rfl) _ rfl) rfl ⟨by rw [← hX.out, ← hE.out]; rfl, below_setRow kb zOm _⟩
 go_upto_region 5 with fail
 have hk5 := zH (show Sl w_4 (.slice (some ⟨w.heap.size + 1, 0, none⟩) 32 32) (u8s (nb 32 k)) from Sl.ofArrN (by rw [← byts_nb]; exact k5) (nb_len _ _) zDc)
 refine Tx.start (fun w' => Below (w_4).heap.size (w_4) w') 9 11 rfl zKr ?_
 have hS_5 : Below (w_4).heap.size (w_4) (World.drew w_4) := (Below.refl _ _).drew
 refine Tx.seg (A := ?_) 6 47 zKr (by exact hS_5) [0, 1, 2, 3, 5] zKr ?_ ?_
 rotate_left
 · intro w' hB
   have y5 := k5.below hB
   have y3 := k3.below hB
   exact zRd
 refine Tx.eff 4 63 rfl zDk (fun K hK => ?_)
 go_simp
 refine (cB.out _).mono ?_
 rintro e w_6 ⟨g, c, rfl, hsl, hb_6⟩
 have hS_6 := ext_trans hS_5 (Nat.le_refl _) hb_6
 refine hK (fun w' => Below (w_4).heap.size (w_4) w') _ _ hS_6 (fun _ h => h) ?_
 clear hK K hS_5
 try simp only [Act.put, zSa, zSz, zSs]
 refine Tx.eff 6 127 rfl zDk (fun K hK => ?_)
 go_simp
 refine hK (fun w' => Below (w_4).heap.size (w_4) w') _ _ (ext_trans hS_6 (Nat.le_refl _) (below_alloc _ _)) (fun _ h => h) ?_
 clear hK K
 try simp only [Act.put, zSa, zSz, zSs]
 refine Tx.newF (F := fun w' => Sls w' (.slice (some ⟨(w_6).heap.size, 0, none⟩) 2 2) [B, nb 32 k]) (w0 := w_6) (Sls.new2 hsl (hk5.out.below hS_6) _) (fun w1 h => h.below (Below.refl _ _).drew) (by first | exact .inl rfl | exact .inr rfl) (fun w_7 h10 hb_7 => ?_)
 have hS_7 : Below (w_4).heap.size (w_4) w_7 := by first | exact hb_7 | exact ext_trans hS_6 (Nat.le_refl _) hb_7
 clear hS_6
 refine Tx.eff 7 255 rfl zDk (fun K hK => ?_)
 go_simp
 refine (cS.out _ _ h10).mono ?_
 rintro e w_8 ⟨rfl, hb_8⟩
 have hS_8 := ext_trans hS_7 (Nat.le_refl _) hb_8
 refine hK (fun w' => Below (w_4).heap.size (w_4) w') _ _ hS_8 (fun _ h => h) ?_
 clear hK K hb_8 hS_7
 try simp only [Act.put, zSa, zSz, zSs]
 refine Tx.seg (A := ?_) 2 511 zKr (by exact hS_8) [8] zKr ?_ ?_
 rotate_left
 · intro w' hB
   iterate 1 (first | (refine rd_skip rfl rfl ?_; simp only [Act.put, zSa, zSz, zSs]) | (refine rd_load_arr rfl rfl _ _ rfl _ rfl zDk _ zAm zLn ?_; simp only [Act.put, zSa, zSz, zSs]) | (refine rd_builta rfl rfl _ _ rfl (crtL i k R s).toArray zKr ?_; simp only [Act.put, zSa, zSz, zSs]) | (refine rd_take (v := ?_) rfl rfl ?_ ?_; rotate_left; (focus (go_simp; try (with_reducible rfl))); simp only [Act.put, zSa, zSz, zSs]))
   exact rd_nil
 have k6 := k6.below hS_8
 have kb := bel kb hS_8
 refine Tx.bar 1023 rfl zDk (fun K hK => ?_)
 refine step_store_arr rfl _ _ _ rfl _ _ rfl rfl _ zAm zLn zLm zOn ?_
 refine hK (fun _ => True) 9999 _ _ ?_
 clear hK K
 try simp only [Act.put]
 try simp only [zSa, zSz, zSs]
 refine Tx.seg (A := ?_) 0 2047 zKr (by exact trivial) [10] zKr ?_ ?_
 rotate_left
 · intro w' hB
   exact zRd
 refine Tx.done zKr ?_
 refine then_row k6 (fun w_9 k6 hoth hbel => ?_)
 have kb := hbel _ _ zOm kb
 clear hoth hbel
 go_wp2_with fail
 exact bodyPost_ret (results_arr_tmp Tryz.results22 _ _ _ _ rfl Tryz.underlying36 rfl _ k6 (by rw [crtL_len]; kernel_rfl) _ rfl) rfl ⟨by rw [← hX.out, ← hE.out]; rfl, kb⟩
theorem Sl.head {w : World} {b o c m : Nat} {bs : List UInt8} (h : Sl w (.slice (some ⟨b, o, none⟩) bs.length c) (u8s bs)) (hm : m ≤ bs.length) : Sl w (.slice (some ⟨b, o, none⟩) m c) (u8s (bs.take m)) := by
 obtain ⟨a', c', h1, h2, h3, h4, h5⟩ := h
 simp only [Value.slice.injEq] at h1
 obtain ⟨rfl, -, rfl⟩ := h1
 rw [u8s_len] at h2
 have hl : (bs.take m).length = m := by rw [List.length_take]; omega
 refine ⟨_, c, by rw [u8s_len, hl], by rw [u8s_len, hl]; omega, h3, h4, fun x hx j u hu => h5 x hx j u ?_⟩
 have hj : j < m := by
  have := (List.getElem?_eq_some_iff.1 hu).1
  rwa [u8s_len, hl] at this
 rw [← hu]
 simp [u8s, hj]
def tagB (k n : Nat) (bs side : List UInt8) : List UInt8 := (digs 256 16 (tagN k n bs side)).map UInt8.ofNat
theorem tagB_u8s (k n : Nat) (bs side : List UInt8) : bytn 16 (tagN k n bs side) = u8s (tagB k n bs side) := bytn_u8s _ _
theorem tagB_len (k n : Nat) (bs side : List UInt8) : (tagB k n bs side).length = 16 := by simp [tagB, digs_len]
def SRet (S : List UInt8) (w : World) (e : Ending) (w' : World) : Prop := ∃ g c, e = .returned (.slice (some ⟨g, 0, none⟩) S.length c) ∧ Sl w' (.slice (some ⟨g, 0, none⟩) S.length c) (u8s S) ∧ Below w.heap.size w w'
theorem bmul_any {x y : Nat} (hx : x < 18446744073709551616) (hy : y < 18446744073709551616) (w : World) :
 Calls Tryz.prog 93 #[.int .u64 (x : Int), .int .u64 (y : Int)] w fun e w' => e = .returned (.tuple #[.int .u64 ((x * y / 18446744073709551616 : Nat) : Int), .int .u64 ((x * y % 18446744073709551616 : Nat) : Int)]) ∧ w' = w := by
 have c1 := zH (mul64 x y hx hy w)
 obtain ⟨h, hh⟩ : ∃ h, x * y / 18446744073709551616 = h := ⟨_, rfl⟩
 obtain ⟨l, hl⟩ : ∃ h, x * y % 18446744073709551616 = h := ⟨_, rfl⟩
 rw [hh, hl] at c1 ⊢
 clear hh hl hx hy
 go_enter Tryz.func93, Tryz.ntmps93
 go_wp2_with fail
 refine c1.out.mono ?_
 rintro e w' ⟨rfl, rfl⟩
 clear c1
 go_wp2_with fail
 go_ret2
 exact ⟨rfl, rfl⟩
theorem mkz_any (n : Nat) (hn : n ≤ 281474976710656) (w : World) : ∃ cs : List Value, (callFunc 94 #[.int .i64 (n : Int)]).run Tryz.prog w = .ok (.value (.slice (some ⟨w.heap.size, 0, none⟩) n cs.length)) ((w.alloc (.cells cs.toArray 5)).drew.drew) ∧ n ≤ cs.length ∧ (n ≤ maxLen → cs.length ≤ maxLen) := by
 obtain ⟨cs, h1, h2, h3⟩ := Lib.run_makeNoZero (P := Tryz.prog) w #[3] 22 5 Tryz.underlying22 n hn
 refine ⟨cs.toList, ?_, by simpa using h2, by simpa using h3⟩
 rw [run_callFunc_extern (P := Tryz.prog) (f := 94) (fn := Tryz.f94) zKr zKr zKr zKr (e := Extern.BytealgMakeNoZero.makeNoZero #[3] #[22]) zKr, h1]
 simp
 rfl
theorem wpl_copyN {P : Program} {w : World} {ops : Array Oper} {rest : List Oper} {o : Oper} {a : Act} {Q : Exit → Act → World → Prop} (hw : Region.wanted o (yielded ops a.tmps) = true) (d s : Operand) (dT sT : TypeId)
 (ho : o.op = .call { callee := .builtin .copy, args := #[d, s], argTypes := #[dT, sT] }) (elem : TypeId) (hu : P.underlying dT = some (.slice elem)) (hsz : (P.info? elem).map (·.size) = some 1)
 (g off dLen dCap : Nat) (hd : a.eval d = .slice (some ⟨g, off, none⟩) dLen dCap) (xs : List Value) (hg : Arr w g xs) (hfit : off + dLen ≤ xs.length) (vs : Value) (hs : a.eval s = vs) (full : List Value) (hsl : Sl w vs full) (h1 : ∀ v ∈ full, v.oneCell' = true)
 (k : Nat) (hk : (full.take dLen).length = k) (ys : List Value) (hys : xs.take off ++ full.take dLen ++ xs.drop (off + k) = ys)
 (h : ∀ W : World, Arr W g ys → w.grownBy W (some g) → W.heap.size = w.heap.size → wpList P ops Q rest (a.put o.dst (.int .i64 (k : Int))) W) : wpList P ops Q (o :: rest) a w := by
 refine wpList_copy_arr hw d s dT sT ho elem hu hsz g off dLen dCap hd xs hg hfit vs hs full hsl h1 ?_
 rw [hk, hys]
 exact h _ (hg.setRow ys) (gr_row w g _) (by simp [World.setRow])
theorem step_copyN {P : Program} {w : World} {ops : Array Oper} {o : Oper} {a : Act} {K : Act → World → Prop} {Q : Exit → Act → World → Prop} {E : Prop} (hw : Region.wanted o (yielded ops a.tmps) = true) (d s : Operand) (dT sT : TypeId)
 (ho : o.op = .call { callee := .builtin .copy, args := #[d, s], argTypes := #[dT, sT] }) (elem : TypeId) (hu : P.underlying dT = some (.slice elem)) (hsz : (P.info? elem).map (·.size) = some 1)
 (g off dLen dCap : Nat) (hd : a.eval d = .slice (some ⟨g, off, none⟩) dLen dCap) (xs : List Value) (hg : Arr w g xs) (hfit : off + dLen ≤ xs.length) (vs : Value) (hs : a.eval s = vs) (full : List Value) (hsl : Sl w vs full) (h1 : ∀ v ∈ full, v.oneCell' = true)
 (k : Nat) (hk : (full.take dLen).length = k) (ys : List Value) (hys : xs.take off ++ full.take dLen ++ xs.drop (off + k) = ys)
 (h : ∀ W : World, Arr W g ys → w.grownBy W (some g) → W.heap.size = w.heap.size → K (a.put o.dst (.int .i64 (k : Int))) W) : if Region.wanted o (yielded ops a.tmps) = true then Oper.wp P o a w K Q else E := by
 refine step_copy_arr hw d s dT sT ho elem hu hsz g off dLen dCap hd xs hg hfit vs hs full hsl h1 ?_
 rw [hk, hys]
 exact h _ (hg.setRow ys) (gr_row w g _) (by simp [World.setRow])
theorem u8s_repx (n : Nat) (x : UInt8) : u8s (List.replicate n x) = List.replicate n (.int .u8 (x.toNat : Int)) := by simp [u8s]
theorem rep_copy {n N k m : Nat} {x : UInt8} {pad : List Value} (hk : n + k ≤ N) (hm : (u8s (List.replicate n x) ++ pad).length = m) (hN : N ≤ m) :
 ∃ pad', (u8s (List.replicate n x) ++ pad).take n ++ u8s (List.replicate k x) ++ (u8s (List.replicate n x) ++ pad).drop (n + (u8s (List.replicate k x)).length) = u8s (List.replicate (n + k) x) ++ pad' ∧ (u8s (List.replicate (n + k) x) ++ pad').length = m := by
 refine ⟨(u8s (List.replicate n x) ++ pad).drop (n + (u8s (List.replicate k x)).length), ?_, ?_⟩
 · rw [List.take_append_of_le_length (by simp [u8s]), List.take_of_length_le (by simp [u8s]), ← List.replicate_append_replicate, u8s_append]
 · rw [List.length_append, List.length_drop, hm]
   simp [u8s] at *
   omega
theorem repeat_any (a : Option Addr) (x : UInt8) (n : Nat) (h0 : 0 < n) (hn : n ≤ 1000000) (w : World) (hs : Sl w (.slice a 1 1) (u8s [x])) :
 Calls Tryz.prog 43 #[.slice a 1 1, .int .i64 (n : Int)] w fun e w' =>
  ∃ g pad, e = .returned (.slice (some ⟨g, 0, none⟩) n n) ∧ w.heap.size ≤ g ∧ Arr w' g (u8s (List.replicate n x) ++ pad) ∧ Below w.heap.size w w' := by
 have cm := zH (bmul_any (x := 1) (y := n) zDc zOm w)
 rw [Nat.one_mul, show n / 18446744073709551616 = 0 by omega, show n % 18446744073709551616 = n by omega] at cm
 obtain ⟨cs, hmk, hc1, hc2⟩ := mkz_any n zOm w
 have hcm := hc2 (by unfold maxLen; omega)
 have n0 : (0 : Int) < (n : Int) := by omega
 have n1 : (n : Int) ≤ 1000000 := by omega
 have nw : IntKind.u64.wrap (n : Int) = (n : Int) := by rw [wrap_u64_mod]; omega
 have nz : ((n : Int) == 0) = false := by simp; omega
 have nw2 : IntKind.i64.wrap (n : Int) = (n : Int) := i64_in zOm
 have hsz1 : (Tryz.prog.info? 5).map (·.size) = some 1 := by kernel_rfl
 replace hsz1 := zH hsz1
 replace hs := zH hs
 have hcl := zH (show n ≤ cs.length from hc1)
 have hcI : (n : Int) ≤ (cs.length : Int) := by omega
 unfold maxLen at hcm
 clear hc1 hc2
 go_enter Tryz.func43, Tryz.ntmps43
 go_wp2_with fail
 refine cm.out.mono ?_
 rintro e w ⟨rfl, rfl⟩
 clear cm
 have hg8 : ∀ {w0 : World} (o : Obj), Below w0.heap.size w0 ((w0.alloc o).drew.drew) := fun o => ((below_alloc _ o).drew).drew
 by_cases h8 : 8192 < n
 · have n8 : (8192 : Int) < (n : Int) := by omega
   go_upto_region 16 with fail
   obtain ⟨c, hc⟩ : ∃ c : Nat, (8192 : Int) = (c : Int) := ⟨8192, rfl⟩
   rw [hc]
   have hc0 : 0 < c := by omega
   clear hc n8 h8
   go_upto_region 17 with fail
   have kb := hg8 (w0 := w) (.cells cs.toArray 5)
   have k9 : Arr ((w.alloc (.cells cs.toArray 5)).drew.drew) w.heap.size cs := Arr.new w cs.toArray 5
   have hsW := zH (hs.out.below kb)
   generalize (w.alloc (.cells cs.toArray 5)).drew.drew = W at *
   obtain ⟨g, hg⟩ : ∃ g, w.heap.size = g := ⟨_, rfl⟩
   rw [hg] at k9 ⊢
   have hw2 : w.heap.size ≤ g := by omega
   clear hmk hg hs hg8
   go_wp2_with (refine wpl_copyN rfl _ _ 22 22 rfl 5 Tryz.underlying22 hsz1.out g 0 n n rfl _ k9 (by have := hcl.out; omega) _ rfl _ hsW.out (u8s_one [x]) 1 (by rw [List.length_take]; simp [u8s]; omega) (u8s (List.replicate 1 x) ++ cs.drop 1) (by rw [List.take_zero, List.nil_append, List.take_of_length_le (by simp [u8s]; omega)]; rfl) (fun W2 k9 hg hsz => ?_))
   replace kb := below_gr kb hg hw2 kb.size
   have hlen : (u8s (List.replicate 1 x) ++ cs.drop 1).length = cs.length := by
    have := hcl.out
    simp [u8s]
    omega
   go_loopw [10] (fun bv wr => ∃ (b : Nat) (pad : List Value), 1 ≤ b ∧ b ≤ n ∧ bv = .int .i64 b ∧ Arr wr g (u8s (List.replicate b x) ++ pad) ∧ (u8s (List.replicate b x) ++ pad).length = cs.length ∧ Below w.heap.size w wr) (fun bv _ => n - (intOf bv).toNat)
   case atStart => exact ⟨1, _, Nat.le_refl _, h0, rfl, k9, hlen, kb⟩
   case round =>
   clear k9 hlen kb hsW
   obtain ⟨b, pad, hb1, hb2, rfl, k9, hlen, kb⟩ := hrel
   replace hlen := zH hlen
   have hb0 : (0 : Int) ≤ (b : Int) := by omega
   by_cases hbn : b < n
   · have hbI : (b : Int) < (n : Int) := by omega
     go_upto_region 19 with fail
     have hbn2 := zH hbn
     have hb22 := zH hb2
     have hc02 := zH hc0
     have n12 := zH n1
     obtain ⟨q, hif, hq⟩ : ∃ q : Nat, (if c < b then (c : Int) else (b : Int)) = (q : Int) ∧ Hid (q = min b c) := ⟨min b c, by split <;> omega, zH rfl⟩
     replace hif := zH hif
     clear hbI hbn hb2 hcI
     go_upto_region 20 with fail
     rw [hif.out]
     have hbn := hbn2.out
     have hqb : q ≤ b := by rw [hq.out]; omega
     have hq1 : 1 ≤ q := by rw [hq.out]; have := hc02.out; omega
     have hq0 : (0 : Int) ≤ (q : Int) := by omega
     have hqn : (q : Int) ≤ (n : Int) := by omega
     have hbI : (b : Int) ≤ (n : Int) := by omega
     have hnb : ¬ n = b := by omega
     obtain ⟨k, hk⟩ : ∃ k, min (n - b) q = k := ⟨_, rfl⟩
     have hsq : Hid (∀ w', Arr w' g (u8s (List.replicate b x) ++ pad) → Sl w' (.slice (some ⟨g, 0, none⟩) q n) (u8s (List.replicate q x))) := zH (fun w' h => by
      have h2 := Sl.of_part (o := 0) (n := q) (cap := n) (cs := u8s (List.replicate q x)) h (by simp [u8s]) zOm (by unfold maxLen; omega) (fun j hj => by
       have hj2 : j < q := by simpa [u8s] using hj
       rw [Nat.zero_add, List.getElem?_append_left (by simp [u8s]; omega)]
       simp [u8s, hj2, show j < b by omega])
      exact h2)
     obtain ⟨pad', hp1, hp2⟩ := rep_copy (n := b) (k := k) (N := n) (m := cs.length) (x := x) (pad := pad) zOm hlen.out hcl.out
     have hk2 : Hid (((u8s (List.replicate q x)).take (n - b)).length = k) := zH (by rw [List.length_take]; simp [u8s]; omega)
     have hys : Hid ((u8s (List.replicate b x) ++ pad).take b ++ (u8s (List.replicate q x)).take (n - b) ++ (u8s (List.replicate b x) ++ pad).drop (b + k) = u8s (List.replicate (b + k) x) ++ pad') := zH (by
      rw [← hp1]
      congr 2
      · rw [u8s_repx, u8s_repx, List.take_replicate, hk]
      · simp [u8s])
     have hbk : b + k ≤ n := by omega
     have hk0 : 1 ≤ k := by omega
     replace hp2 := zH hp2
     clear hp1 hk
     obtain ⟨wq, rfl⟩ : ∃ wq : World, wq = wr := ⟨_, rfl⟩
     refine Tx.start (fun w' => Below (wq).heap.size (wq) w') 7 10 rfl zKr ?_
     have hS_1 : Below (wq).heap.size (wq) (World.drew wq) := (Below.refl _ _).drew
     refine Tx.pure (A := ?_) 9 1 zKr (by exact hS_1) [0] zKr ?_ ?_
     rotate_left
     · intro w'
       iterate 1 (first | (refine rd_skip rfl rfl ?_; simp only [Act.put, zSa, zSz, zSs]) | (refine rd_take (v := ?_) rfl rfl ?_ ?_; rotate_left; (focus (go_simp; try (with_reducible rfl))); simp only [Act.put, zSa, zSz, zSs]))
       exact rd_nil
     refine Tx.seg2 (A := ?_) 3 127 zKr (by exact hS_1) [1, 2, 3, 4, 5, 6] zKr ?_ ?_
     rotate_left
     · intro w' hB
       exact zRd
     refine Tx.bar 255 rfl zDk (fun K hK => ?_)
     replace k9 := k9.below hS_1
     replace kb := bel kb hS_1
     clear hS_1
     refine step_copyN rfl _ _ 22 22 rfl 5 Tryz.underlying22 hsz1.out g b (n - b) (n - b) rfl _ k9 (by rw [hlen.out]; have := hcl.out; omega) _ rfl _ (hsq.out _ k9) (u8s_one _) k hk2.out _ hys.out (fun W3 k9 hg hsz => ?_)
     replace kb := below_gr kb hg hw2 kb.size
     refine hK (fun _ => True) 9999 _ _ ?_
     clear hK K
     try simp only [Act.put]
     try simp only [zSa, zSz, zSs]
     have fk : IntKind.i64.wrap ((b : Int) + (k : Int)) = ((b + k : Nat) : Int) := by rw [i64_in zOm]; omega
     refine Tx.seg2 (A := ?_) 0 1023 zKr (by exact trivial) [8, 9] zKr ?_ ?_
     rotate_left
     · intro w' hB
       exact zRd
     refine Tx.done zKr ?_
     go_wp2_with fail
     exact ⟨⟨b + k, pad', by omega, hbk, by go_num, k9, hp2.out, kb⟩, by simp [intOf]; omega⟩
   · have hbe : Hid (b = n) := zH zOm
     rw [hbe.out] at k9
     have dj : decide ((b : Int) < (n : Int)) = false := decide_eq_false zOm
     go_wp2_with fail
     go_ret
     exact ⟨g, pad, rfl, hw2, k9, kb⟩
 · have n8 : ¬ (8192 : Int) < (n : Int) := by omega
   go_upto_region 16 with fail
   have hc0 : 0 < n := by omega
   go_upto_region 17 with fail
   have kb := hg8 (w0 := w) (.cells cs.toArray 5)
   have k9 : Arr ((w.alloc (.cells cs.toArray 5)).drew.drew) w.heap.size cs := Arr.new w cs.toArray 5
   have hsW := zH (hs.out.below kb)
   generalize (w.alloc (.cells cs.toArray 5)).drew.drew = W at *
   obtain ⟨g, hg⟩ : ∃ g, w.heap.size = g := ⟨_, rfl⟩
   rw [hg] at k9 ⊢
   have hw2 : w.heap.size ≤ g := by omega
   clear hmk hg hs hg8
   go_wp2_with (refine wpl_copyN rfl _ _ 22 22 rfl 5 Tryz.underlying22 hsz1.out g 0 n n rfl _ k9 (by have := hcl.out; omega) _ rfl _ hsW.out (u8s_one [x]) 1 (by rw [List.length_take]; simp [u8s]; omega) (u8s (List.replicate 1 x) ++ cs.drop 1) (by rw [List.take_zero, List.nil_append, List.take_of_length_le (by simp [u8s]; omega)]; rfl) (fun W2 k9 hg hsz => ?_))
   replace kb := below_gr kb hg hw2 kb.size
   have hlen : (u8s (List.replicate 1 x) ++ cs.drop 1).length = cs.length := by
    have := hcl.out
    simp [u8s]
    omega
   go_loopw [10] (fun bv wr => ∃ (b : Nat) (pad : List Value), 1 ≤ b ∧ b ≤ n ∧ bv = .int .i64 b ∧ Arr wr g (u8s (List.replicate b x) ++ pad) ∧ (u8s (List.replicate b x) ++ pad).length = cs.length ∧ Below w.heap.size w wr) (fun bv _ => n - (intOf bv).toNat)
   case atStart => exact ⟨1, _, Nat.le_refl _, h0, rfl, k9, hlen, kb⟩
   case round =>
   clear k9 hlen kb hsW
   obtain ⟨b, pad, hb1, hb2, rfl, k9, hlen, kb⟩ := hrel
   replace hlen := zH hlen
   have hb0 : (0 : Int) ≤ (b : Int) := by omega
   by_cases hbn : b < n
   · have hbI : (b : Int) < (n : Int) := by omega
     go_upto_region 19 with fail
     have hbn2 := zH hbn
     have hb22 := zH hb2
     have hc02 := zH hc0
     have n12 := zH n1
     obtain ⟨q, hif, hq⟩ : ∃ q : Nat, (if n < b then (n : Int) else (b : Int)) = (q : Int) ∧ Hid (q = min b n) := ⟨min b n, by split <;> omega, zH rfl⟩
     replace hif := zH hif
     clear hbI hbn hb2 hcI
     go_upto_region 20 with fail
     rw [hif.out]
     have hbn := hbn2.out
     have hqb : q ≤ b := by rw [hq.out]; omega
     have hq1 : 1 ≤ q := by rw [hq.out]; have := hc02.out; omega
     have hq0 : (0 : Int) ≤ (q : Int) := by omega
     have hqn : (q : Int) ≤ (n : Int) := by omega
     have hbI : (b : Int) ≤ (n : Int) := by omega
     have hnb : ¬ n = b := by omega
     obtain ⟨k, hk⟩ : ∃ k, min (n - b) q = k := ⟨_, rfl⟩
     have hsq : Hid (∀ w', Arr w' g (u8s (List.replicate b x) ++ pad) → Sl w' (.slice (some ⟨g, 0, none⟩) q n) (u8s (List.replicate q x))) := zH (fun w' h => by
      have h2 := Sl.of_part (o := 0) (n := q) (cap := n) (cs := u8s (List.replicate q x)) h (by simp [u8s]) zOm (by unfold maxLen; omega) (fun j hj => by
       have hj2 : j < q := by simpa [u8s] using hj
       rw [Nat.zero_add, List.getElem?_append_left (by simp [u8s]; omega)]
       simp [u8s, hj2, show j < b by omega])
      exact h2)
     obtain ⟨pad', hp1, hp2⟩ := rep_copy (n := b) (k := k) (N := n) (m := cs.length) (x := x) (pad := pad) zOm hlen.out hcl.out
     have hk2 : Hid (((u8s (List.replicate q x)).take (n - b)).length = k) := zH (by rw [List.length_take]; simp [u8s]; omega)
     have hys : Hid ((u8s (List.replicate b x) ++ pad).take b ++ (u8s (List.replicate q x)).take (n - b) ++ (u8s (List.replicate b x) ++ pad).drop (b + k) = u8s (List.replicate (b + k) x) ++ pad') := zH (by
      rw [← hp1]
      congr 2
      · rw [u8s_repx, u8s_repx, List.take_replicate, hk]
      · simp [u8s])
     have hbk : b + k ≤ n := by omega
     have hk0 : 1 ≤ k := by omega
     replace hp2 := zH hp2
     clear hp1 hk
     obtain ⟨wq, rfl⟩ : ∃ wq : World, wq = wr := ⟨_, rfl⟩
     refine Tx.start (fun w' => Below (wq).heap.size (wq) w') 7 10 rfl zKr ?_
     have hS_2 : Below (wq).heap.size (wq) (World.drew wq) := (Below.refl _ _).drew
     refine Tx.pure (A := ?_) 9 1 zKr (by exact hS_2) [0] zKr ?_ ?_
     rotate_left
     · intro w'
       iterate 1 (first | (refine rd_skip rfl rfl ?_; simp only [Act.put, zSa, zSz, zSs]) | (refine rd_take (v := ?_) rfl rfl ?_ ?_; rotate_left; (focus (go_simp; try (with_reducible rfl))); simp only [Act.put, zSa, zSz, zSs]))
       exact rd_nil
     refine Tx.seg2 (A := ?_) 3 127 zKr (by exact hS_2) [1, 2, 3, 4, 5, 6] zKr ?_ ?_
     rotate_left
     · intro w' hB
       exact zRd
     refine Tx.bar 255 rfl zDk (fun K hK => ?_)
     replace k9 := k9.below hS_2
     replace kb := bel kb hS_2
     clear hS_2
     refine step_copyN rfl _ _ 22 22 rfl 5 Tryz.underlying22 hsz1.out g b (n - b) (n - b) rfl _ k9 (by rw [hlen.out]; have := hcl.out; omega) _ rfl _ (hsq.out _ k9) (u8s_one _) k hk2.out _ hys.out (fun W3 k9 hg hsz => ?_)
     replace kb := below_gr kb hg hw2 kb.size
     refine hK (fun _ => True) 9999 _ _ ?_
     clear hK K
     try simp only [Act.put]
     try simp only [zSa, zSz, zSs]
     have fk : IntKind.i64.wrap ((b : Int) + (k : Int)) = ((b + k : Nat) : Int) := by rw [i64_in zOm]; omega
     refine Tx.seg2 (A := ?_) 0 1023 zKr (by exact trivial) [8, 9] zKr ?_ ?_
     rotate_left
     · intro w' hB
       exact zRd
     refine Tx.done zKr ?_
     go_wp2_with fail
     exact ⟨⟨b + k, pad', by omega, hbk, by go_num, k9, hp2.out, kb⟩, by simp [intOf]; omega⟩
   · have hbe : Hid (b = n) := zH zOm
     rw [hbe.out] at k9
     have dj : decide ((b : Int) < (n : Int)) = false := decide_eq_false zOm
     go_wp2_with fail
     go_ret
     exact ⟨g, pad, rfl, hw2, k9, kb⟩
theorem repeat_zero (v : Value) (x : UInt8) (w : World) :
 Calls Tryz.prog 43 #[v, .int .i64 0] w fun e w' =>
  ∃ g pad, e = .returned (.slice (some ⟨g, 0, none⟩) 0 0) ∧ w.heap.size ≤ g ∧ Arr w' g (u8s (List.replicate 0 x) ++ pad) ∧ Below w.heap.size w w' := by
 go_enter Tryz.func43, Tryz.ntmps43
 go_wp2_with fail
 go_ret
 exact ⟨_, [], rfl, Nat.le_refl _, Arr.new _ _ _, below_alloc _ _⟩
theorem repeat_all (a : Option Addr) (x : UInt8) (n : Nat) (hn : n ≤ 1000000) (w : World) (hs : Sl w (.slice a 1 1) (u8s [x])) :
 Calls Tryz.prog 43 #[.slice a 1 1, .int .i64 (n : Int)] w fun e w' =>
  ∃ g pad, e = .returned (.slice (some ⟨g, 0, none⟩) n n) ∧ w.heap.size ≤ g ∧ Arr w' g (u8s (List.replicate n x) ++ pad) ∧ Below w.heap.size w w' := by
 by_cases h : n = 0
 · subst h
   exact repeat_zero _ _ _
 · exact repeat_any a x n zOm hn w hs
end Go.Proofs.YtncnlfpiondpnaaGreat
