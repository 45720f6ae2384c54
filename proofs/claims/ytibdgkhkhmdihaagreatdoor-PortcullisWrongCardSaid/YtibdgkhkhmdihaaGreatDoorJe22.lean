/- PortcullisWrong: part 22 of its proof: lemmas and contracts, each with its conditions in its own statement; the last part holds the law itself. -/
import Derived.Test.YtibdgkhkhmdihaaGreatDoorJe21
import Derived.RangeFuncNested
import Derived.RangeFuncBound

set_option maxHeartbeats 4000000
set_option maxRecDepth 100000
namespace Go.Proofs.YtibdgkhkhmdihaaGreatDoor
open Go.RowKit
def SlA (w : World) (v : Value) (xs : List Value) : Prop := Sl w v xs
theorem SlA.below {w w' : World} {v : Value} {xs : List Value} (h : SlA w v xs) (hb : Below w.heap.size w w') : SlA w' v xs := Sl.below h hb
theorem SlA.lt {w : World} {v : Value} {xs : List Value} (_ : SlA w v xs) : 0 < 1 := by decide
def SlsA (w : World) (v : Value) (ls : List (List UInt8)) : Prop := Sls w v ls
theorem SlsA.below {w w' : World} {v : Value} {ls : List (List UInt8)} (h : SlsA w v ls) (hb : Below w.heap.size w w') : SlsA w' v ls := Sls.below h hb
theorem SlsA.lt {w : World} {v : Value} {ls : List (List UInt8)} (_ : SlsA w v ls) : 0 < 1 := by decide
def sgr (K : Nat) (L : List UInt8) : Nat := shab (sideL K ++ L) % qN
def sgR (K : Nat) (L : List UInt8) : Nat := encP (tmsP bP (sgr K L) 256)
def sgk (K : Nat) (L : List UInt8) : Nat := shab (nb 32 (sgR K L) ++ (nb 32 (pubN K) ++ L)) % qN
def sgS (K : Nat) (L : List UInt8) : Nat := (sgr K L + sgk K L * secN K % qN) % qN
theorem qN_lt32 : qN < 256 ^ 32 := by decide
theorem step_append_new {P : Program} {w : World} {ops : Array Oper} {o : Oper} {a : Act} {K : Act → World → Prop} {Q : Exit → Act → World → Prop} {E : Prop} (hgd : o.guard = none) (s x : Operand) (t : TypeId)
 (ho : o.op = .call { callee := .builtin .append, args := #[s, x], argTypes := #[t, t] })
 (e : TypeId) {i : TypeInfo} {z : Value} {bytes : Nat} (ht : P.underlying t = some (.slice e)) (hi : P.info? e = some i) (hz : i.zero = some z)
 (hsize : i.size = 1) (hby : i.bytes = bytes) (hzs : z.cells.size = 1) {d : Option Addr} {n cap : Nat} {xs : List Value} (hse : a.eval s = .slice d n cap) (hs : Sl w (.slice d n cap) xs) {vx : Value} {news : List Value} (hx : a.eval x = vx) (hsl : Sl w vx news)
 (hcap : cap < xs.length + news.length) (h1 : ∀ u ∈ news, u.oneCell' = true) (h63 : n + news.length ≤ maxLen) (hbytes : (n + news.length) * bytes ≤ 140737488355328)
 (h : ∀ v' w', w'.ownsRow w.heap.size e 1 v' (n + news.length) (xs ++ news) → Below w.heap.size w w' → K (a.put o.dst v') w') : if Region.wanted o (yielded ops a.tmps) = true then Oper.wp P o a w K Q else E := by
 rw [if_pos (by simp [Region.wanted, hgd])]
 obtain ⟨v', w', hr, h2, h3⟩ := run_append_new (P := P) t o.type e ht hi hz hsize hby hzs hs hsl hcap h1 h63 hbytes
 unfold Oper.wp execOp
 simp only [ho, resolve, invoke, builtin, Sem.run_bind, Sem.run_pure, Result.andThen_ok, List.map_toArray, List.map_cons, List.map_nil, hse, hx, hr]
 exact h v' w' h2 h3
theorem Sl.rng {w : World} {g n c : Nat} {xs : List Value} (h : Sl w (.slice (some ⟨g, 0, none⟩) n c) xs) : w.rangeAt g 0 xs := by
 obtain ⟨a, cap, he, h2, h3, h4, h5⟩ := h
 cases he
 intro j v hv
 have := h5 _ rfl j v hv
 rwa [Addr.add_lit] at this
theorem sgL_u8s (R s : Nat) : u8s (nb 32 R) ++ u8s (nb 32 s) = sgL R s := by rw [← byts_nb, ← byts_nb]; rfl
theorem sgL_one (R s : Nat) : ∀ v ∈ sgL R s, v.oneCell' = true := by
 intro v hv
 rcases List.mem_append.1 hv with h | h
 · exact byts_one _ v h
 · exact byts_one _ v h
theorem csign_any (K : Nat) (d : Option Addr) (n c : Nat) (ls : List (List UInt8)) (hl : ls.length ≤ 100000) (w : World) (hls : Sls w (.slice d n c) ls) :
 Calls Tryz.prog 138 #[.agg (byts K).toArray, .slice d n c] w fun e w' => e = .returned (.agg (sgL (sgR K ls.flatten) (sgS K ls.flatten)).toArray) ∧ Below w.heap.size w w' := by
 have cX := zH (fun w => csecret_any K w)
 have cP := zH (fun w => cpublic_any K w)
 have lS := secN_lt K
 have c1 := zH (fun w' d' (h : Sls w' (.slice d' 1 1) [sideL K]) (h2 : Sls w' (.slice d n c) ls) => show Calls Tryz.prog 193 #[.slice d n c, .slice d' 1 1] w' fun e w'' => e = .returned (.agg (byts (sgr K ls.flatten)).toArray) ∧ Below w'.heap.size w' w'' from csum2_any w' d' d 1 n c [sideL K] ls h h2 (by simp) hl)
 have c2 := zH (fun w' d' (h : Sls w' (.slice d' 2 2) [nb 32 (sgR K ls.flatten), nb 32 (pubN K)]) (h2 : Sls w' (.slice d n c) ls) => show Calls Tryz.prog 193 #[.slice d n c, .slice d' 2 2] w' fun e w'' => e = .returned (.agg (byts (sgk K ls.flatten)).toArray) ∧ Below w'.heap.size w' w'' from csum2_any w' d' d 2 n c [nb 32 (sgR K ls.flatten), nb 32 (pubN K)] ls h h2 (by simp) hl)
 have lr : sgr K ls.flatten < 256 ^ 32 := Nat.lt_trans (Nat.mod_lt _ zDc) qN_lt32
 have lk : sgk K ls.flatten < 256 ^ 32 := Nat.lt_trans (Nat.mod_lt _ zDc) qN_lt32
 have c0 := zH (fun w => pbase_any w)
 have c3 := zH (fun w => ptimes_any bP (sgr K ls.flatten) bP_ok lr w)
 have c4 := zH (fun w => show Calls Tryz.prog 78 #[.agg (tmsP bP (sgr K ls.flatten) 256).cs.toArray] w fun e w' => e = .returned (.agg (byts (sgR K ls.flatten)).toArray) ∧ Below w.heap.size w w' from pbytes_any (tmsP bP (sgr K ls.flatten) 256) (tmsP_ok _ _ _) w)
 have c5 := zH (fun w => scMul_any (sgk K ls.flatten) (secN K) lk lS w)
 have c6 := zH (fun w => show Calls Tryz.prog 194 #[.agg (byts (sgr K ls.flatten)).toArray, .agg (byts (sgk K ls.flatten * secN K % qN)).toArray] w fun e w' => e = .returned (.agg (byts (sgS K ls.flatten)).toArray) ∧ Below w.heap.size w w' from scAdd_any (sgr K ls.flatten) (sgk K ls.flatten * secN K % qN) lr (Nat.lt_trans (Nat.mod_lt _ zDc) qN_lt32) w)
 obtain ⟨m1, e1⟩ : ∃ x, sgk K ls.flatten * secN K % qN = x := ⟨_, rfl⟩
 obtain ⟨T, e2⟩ : ∃ x, tmsP bP (sgr K ls.flatten) 256 = x := ⟨_, rfl⟩
 obtain ⟨b0, e3⟩ : ∃ x, bP = x := ⟨_, rfl⟩
 rw [e1] at c5 c6
 rw [e2] at c3 c4
 rw [e3] at c0 c3
 obtain ⟨r, e4⟩ : ∃ x, sgr K ls.flatten = x := ⟨_, rfl⟩
 obtain ⟨R, e5⟩ : ∃ x, sgR K ls.flatten = x := ⟨_, rfl⟩
 obtain ⟨k, e6⟩ : ∃ x, sgk K ls.flatten = x := ⟨_, rfl⟩
 obtain ⟨s, e7⟩ : ∃ x, sgS K ls.flatten = x := ⟨_, rfl⟩
 obtain ⟨a, e8⟩ : ∃ x, secN K = x := ⟨_, rfl⟩
 obtain ⟨pk, e9⟩ : ∃ x, pubN K = x := ⟨_, rfl⟩
 obtain ⟨SD, e0⟩ : ∃ x, sideL K = x := ⟨_, rfl⟩
 rw [e4] at c1 c3 c6
 rw [e5, e9, e6] at c2
 rw [e5] at c4 ⊢
 rw [e6, e8] at c5
 rw [e7] at c6 ⊢
 rw [e9] at cP
 rw [e0] at c1
 simp only [e8, e0] at cX
 replace hls : SlsA w (.slice d n c) ls := hls
 clear e0 e1 e2 e3 e4 e5 e6 e7 e8 e9 lr lk lS hl
 go_enter Tryz.func138, Tryz.ntmps138
 go_upto_region 1 with fail
 refine wp_new2 (fun W hsz k2 k4 kb => ?_)
 replace k4 : Arr W (w.heap.size + 1) (sgL 0 0) := k4
 replace hls := zH hls
 clear hsz
 go_wp2_with (refine zLd ?_)
 refine (cX.out _).mono ?_
 rintro e w1 ⟨g, rfl, hsl, hb⟩
 have k6 : SlA w1 (.slice (some ⟨g, 32, none⟩) 32 32) (u8s SD) := hsl
 replace k2 := k2.below hb
 replace k4 := k4.below hb
 replace kb := bel kb hb
 clear hb hsl cX
 go_upto_region 2 with (first | (refine zLd ?_) | (refine zSt ?_))
 have hg_k5_k2 := k2.lt
 have hg_k5_k4 := k4.lt
 have hg_k5_k6 := k6.lt
 refine code_new (fun w_1 k5 hnew => ?_)
 have k2 := k2.below hnew
 have k4 := k4.below hnew
 have k6 := k6.below hnew
 have kb := bel kb hnew
 clear hnew
 generalize (w1).heap.size = g_k5 at k5 hg_k5_k2 hg_k5_k4 hg_k5_k6 ⊢
 go_wp2_with (first | (refine zLd ?_) | (refine zSt ?_))
 refine (cP.out _).mono ?_
 rintro e w_2 ⟨rfl, hb_2⟩
 have k2 := k2.below hb_2
 have k4 := k4.below hb_2
 have k6 := k6.below hb_2
 have k5 := k5.below hb_2
 have kb := bel kb hb_2
 clear hb_2
 go_upto_region 3 with (first | (refine zLd ?_) | (refine zSt ?_))
 have hg_k7_k2 := k2.lt
 have hg_k7_k4 := k4.lt
 have hg_k7_k6 := k6.lt
 have hg_k7_k5 := k5.lt
 refine code_new (fun w_3 k7 hnew => ?_)
 have k2 := k2.below hnew
 have k4 := k4.below hnew
 have k6 := k6.below hnew
 have k5 := k5.below hnew
 have kb := bel kb hnew
 clear hnew
 generalize (w_2).heap.size = g_k7 at k7 hg_k7_k2 hg_k7_k4 hg_k7_k6 hg_k7_k5 ⊢
 have kb6 := below_alloc (w_3) (.cells #[.slice (some ⟨g, 32, none⟩) 32 32] 26)
 have h6 := zH (Sls.new1 (show Sl (w_3) (.slice (some ⟨g, 32, none⟩) 32 32) (u8s SD) from k6) 26)
 have kl6 := hls.out.below (bel kb kb6)
 go_wp2_with fail
 refine (c1.out _ _ h6.out kl6).mono ?_
 rintro e w7 ⟨rfl, hb⟩
 clear kl6 h6
 replace hb := bel kb6 hb
 replace k2 := k2.below hb
 replace k4 := k4.below hb
 replace k5 := k5.below hb
 replace k7 := k7.below hb
 replace kb := bel kb hb
 clear hb kb6 c1 k6 cP
 go_upto_region 4 with (first | (refine zLd ?_) | (refine zSt ?_))
 have hg_k8_k2 := k2.lt
 have hg_k8_k4 := k4.lt
 have hg_k8_k5 := k5.lt
 have hg_k8_k7 := k7.lt
 refine code_new (fun w_4 k8 hnew => ?_)
 have k2 := k2.below hnew
 have k4 := k4.below hnew
 have k5 := k5.below hnew
 have k7 := k7.below hnew
 have kb := bel kb hnew
 clear hnew
 generalize (w7).heap.size = g_k8 at k8 hg_k8_k2 hg_k8_k4 hg_k8_k5 hg_k8_k7 ⊢
 go_upto_region 4 with (first | (refine zLd ?_) | (refine zSt ?_))
 refine Tx.start (fun w' => Below (w_4).heap.size (w_4) w') 5 6 rfl zKr ?_
 have hS_5 : Below (w_4).heap.size (w_4) (World.drew w_4) := (Below.refl _ _).drew
 refine Tx.seg (A := ?_) 5 2 zKr (by exact hS_5) [1] zKr ?_ ?_
 rotate_left
 · intro w' hB
   have e0 := k2.below hB
   have e1 := k4.below hB
   have e2 := k5.below hB
   have e3 := k7.below hB
   have e4 := k8.below hB
   exact zRd
 refine Tx.poolB 1 31 [(0, 23), (2, 25), (3, 26), (4, 9)] [(false, []), (false, [(0, 23)]), (false, [(2, 25)]), (false, [])] [(0, Ph.is (.agg b0.cs.toArray)), (2, Ph.is (.agg T.cs.toArray)), (3, Ph.is (.agg (byts R).toArray)), (4, Ph.arr (w_4).heap.size (byts 0))] zKr zKr (by first | assumption | exact (Below.refl _ _).drew) ?_ ?_
 · refine ⟨⟨_, rfl, ?_⟩, ⟨_, rfl, ?_⟩, ⟨_, rfl, ?_⟩, ⟨_, rfl, ?_⟩, trivial⟩
   · intro vs w1 hS hE hD K hK
     clear hD
     simp only [fillL, Act.put, zSa, zSz, zSs] at hK ⊢
     go_simp
     refine (c0.out _).mono ?_
     rintro e w2 ⟨rfl, hb2⟩
     exact hK _ _ rfl hb2 nofun
   · intro vs w1 hS hE hD K hK
     obtain ⟨q0, -⟩ := hD
     simp only [fillL, Act.put, zSa, zSz, zSs] at hK ⊢
     rw [show vs 0 = _ from q0] at hK ⊢
     clear q0
     go_simp
     refine (c3.out _).mono ?_
     rintro e w2 ⟨rfl, hb2⟩
     exact hK _ _ rfl hb2 nofun
   · intro vs w1 hS hE hD K hK
     obtain ⟨q2, -⟩ := hD
     simp only [fillL, Act.put, zSa, zSz, zSs] at hK ⊢
     rw [show vs 2 = _ from q2] at hK ⊢
     clear q2
     go_simp
     refine (c4.out _).mono ?_
     rintro e w2 ⟨rfl, hb2⟩
     exact hK _ _ rfl hb2 nofun
   · intro vs w1 hS hE hD K hK
     clear hD
     simp only [fillL, Act.put, zSa, zSz, zSs] at hK ⊢
     go_simp
     exact hK _ _ ⟨_, rfl, Nat.le_trans zLe hE.size, Arr.new _ _ _⟩ (below_alloc _ _) (fun _ => ⟨_, rfl, Nat.le_refl _⟩)
 intro vs w_p4_780 hS_p4_780 hE_p4_780 hP hD
 obtain ⟨q0, q2, q3, q4, -⟩ := hP
 simp only [fillL, Act.put, zSa, zSz, zSs]
 rw [show vs 0 = _ from q0]
 clear q0
 rw [show vs 2 = _ from q2]
 clear q2
 rw [show vs 3 = _ from q3]
 clear q3
 obtain ⟨g4, e4, hg4, ha4⟩ := q4
 rw [e4]
 clear e4 hD vs
 have lt_k9_k2 := Nat.lt_of_lt_of_le k2.lt hg4
 have lt_k9_k4 := Nat.lt_of_lt_of_le k4.lt hg4
 have lt_k9_k5 := Nat.lt_of_lt_of_le k5.lt hg4
 have lt_k9_k7 := Nat.lt_of_lt_of_le k7.lt hg4
 have lt_k9_k8 := Nat.lt_of_lt_of_le k8.lt hg4
 have k2 := k2.below hS_p4_780
 have k4 := k4.below hS_p4_780
 have k5 := k5.below hS_p4_780
 have k7 := k7.below hS_p4_780
 have k8 := k8.below hS_p4_780
 have kb := bel kb hS_p4_780
 refine Tx.bar 63 rfl zDk (fun K hK => ?_)
 refine step_store_arr rfl _ _ _ rfl _ _ rfl rfl _ zAm zLn zLm zOn ?_
 refine hK (fun _ => True) 9999 _ _ ?_
 clear hK K
 try simp only [Act.put]
 try simp only [zSa, zSz, zSs]
 refine Tx.done zKr ?_
 refine then_row ha4 (fun w_6 ha4 hoth hbel => ?_)
 have k2 := hoth _ _ zOm k2
 have k4 := hoth _ _ zOm k4
 have k5 := hoth _ _ zOm k5
 have k7 := hoth _ _ zOm k7
 have k8 := hoth _ _ zOm k8
 have kb := hbel _ _ zOm kb
 clear hoth hbel
 have k9 := ha4
 clear ha4
 generalize g4 = g_k9 at *
 clear c0 c3 c4
 have sR := zH (show Sl w_6 (.slice (some ⟨g_k9, 0, none⟩) 32 32) (u8s (nb 32 R)) from Sl.ofArrN (by rw [← byts_nb]; exact k9) (nb_len _ _) zDc)
 have sK := zH (show Sl w_6 (.slice (some ⟨g_k7, 0, none⟩) 32 32) (u8s (nb 32 pk)) from Sl.ofArrN (by rw [← byts_nb]; exact k7) (nb_len _ _) zDc)
 have kl2 := zH (hls.out.below kb)
 have cS := zH (fun d' (w' : World) (hb : Below (w_6).heap.size w_6 w') (h : Sls w' (.slice d' 2 2) [nb 32 R, nb 32 pk]) => c2.out w' d' h (kl2.out.below hb))
 go_upto_region 5 with fail
 refine Tx.start (fun w' => Below (w_6).heap.size (w_6) w') 6 7 rfl zKr ?_
 have hS_7 : Below (w_6).heap.size (w_6) (World.drew w_6) := (Below.refl _ _).drew
 refine Tx.seg2 (A := ?_) 4 7 zKr (by exact hS_7) [0, 1, 2] zKr ?_ ?_
 rotate_left
 · intro w' hB
   exact zRd
 refine Tx.poolB 1 63 [(3, 30), (4, 31), (5, 10)] [(false, []), (false, [(3, 30)]), (false, [])] [(3, Ph.sls 2 [nb 32 R, nb 32 pk]), (4, Ph.is (.agg (byts k).toArray)), (5, Ph.arr (w_6).heap.size (byts 0))] zKr zKr (by first | assumption | exact (Below.refl _ _).drew) ?_ ?_
 · refine ⟨⟨_, rfl, ?_⟩, ⟨_, rfl, ?_⟩, ⟨_, rfl, ?_⟩, trivial⟩
   · intro vs w1 hS hE hD K hK
     clear hD
     simp only [fillL, Act.put, zSa, zSz, zSs] at hK ⊢
     go_simp
     exact hK _ _ ⟨_, rfl, Sls.new2 (sR.out.below hS) (sK.out.below hS) _⟩ (below_alloc _ _) nofun
   · intro vs w1 hS hE hD K hK
     obtain ⟨q3, -⟩ := hD
     simp only [fillL, Act.put, zSa, zSz, zSs] at hK ⊢
     obtain ⟨d3, e3, hs3⟩ := q3
     rw [e3] at hK ⊢
     rw [show vs _ = _ from e3] at hs3
     clear e3
     go_simp
     refine (cS.out _ _ hS hs3).mono ?_
     rintro e w2 ⟨rfl, hb2⟩
     exact hK _ _ rfl hb2 nofun
   · intro vs w1 hS hE hD K hK
     clear hD
     simp only [fillL, Act.put, zSa, zSz, zSs] at hK ⊢
     go_simp
     exact hK _ _ ⟨_, rfl, Nat.le_trans zLe hE.size, Arr.new _ _ _⟩ (below_alloc _ _) (fun _ => ⟨_, rfl, Nat.le_refl _⟩)
 intro vs w_p5 hS_p5 hE_p5 hP hD
 obtain ⟨q3, q4, q5, -⟩ := hP
 simp only [fillL, Act.put, zSa, zSz, zSs]
 obtain ⟨d3, e3, hs3⟩ := q3
 rw [e3]
 rw [show vs _ = _ from e3] at hs3
 clear e3
 rw [show vs 4 = _ from q4]
 clear q4
 obtain ⟨g5, e5, hg5, ha5⟩ := q5
 rw [e5]
 clear e5 hD vs
 have lt_2 := Nat.lt_of_lt_of_le k2.lt hg5
 have lt_4 := Nat.lt_of_lt_of_le k4.lt hg5
 have lt_5 := Nat.lt_of_lt_of_le k5.lt hg5
 have lt_8 := Nat.lt_of_lt_of_le k8.lt hg5
 have lt_9 := Nat.lt_of_lt_of_le k9.lt hg5
 clear hs3
 have k2 := k2.below hS_p5
 have k4 := k4.below hS_p5
 have k5 := k5.below hS_p5
 have k8 := k8.below hS_p5
 have k9 := k9.below hS_p5
 have kb := bel kb hS_p5
 refine Tx.bar 127 rfl zDk (fun K hK => ?_)
 refine step_store_arr rfl _ _ _ rfl _ _ rfl rfl _ zAm zLn zLm zOn ?_
 refine hK (fun _ => True) 9999 _ _ ?_
 clear hK K
 try simp only [Act.put]
 try simp only [zSa, zSz, zSs]
 refine Tx.done zKr ?_
 first | refine then_row ha5 (fun w_8 ha5 hoth hbel => ?_) | refine inb_row ha5 (fun w_8 ha5 hoth hbel => ?_)
 have k2 := hoth _ _ zOm k2
 have k4 := hoth _ _ zOm k4
 have k5 := hoth _ _ zOm k5
 have k8 := hoth _ _ zOm k8
 have k9 := hoth _ _ zOm k9
 have kb := hbel _ _ zOm kb
 clear hoth hbel
 have k10 := ha5
 clear ha5
 generalize g5 = g_k10 at *
 clear cS sR sK
 go_upto_region 6 with (first | (refine zLd ?_) | (refine zSt ?_))
 refine Tx.start (fun w' => Below (w_8).heap.size (w_8) w') 6 7 rfl zKr ?_
 have hS_9 : Below (w_8).heap.size (w_8) (World.drew w_8) := (Below.refl _ _).drew
 refine Tx.seg (A := ?_) 4 7 zKr (by exact hS_9) [0, 1, 2] zKr ?_ ?_
 rotate_left
 · intro w' hB
   have e0 := k2.below hB
   have e1 := k4.below hB
   have e2 := k5.below hB
   have e3 := k8.below hB
   have e4 := k9.below hB
   have e5 := k10.below hB
   exact zRd
 refine Tx.poolB 1 63 [(3, 35), (4, 36), (5, 11)] [(false, []), (false, [(3, 35)]), (false, [])] [(3, Ph.is (.agg (byts m1).toArray)), (4, Ph.is (.agg (byts s).toArray)), (5, Ph.arr (w_8).heap.size (byts 0))] zKr zKr (by first | assumption | exact (Below.refl _ _).drew) ?_ ?_
 · refine ⟨⟨_, rfl, ?_⟩, ⟨_, rfl, ?_⟩, ⟨_, rfl, ?_⟩, trivial⟩
   · intro vs w1 hS hE hD K hK
     clear hD
     simp only [fillL, Act.put, zSa, zSz, zSs] at hK ⊢
     go_simp
     refine (c5.out _).mono ?_
     rintro e w2 ⟨rfl, hb2⟩
     exact hK _ _ rfl hb2 nofun
   · intro vs w1 hS hE hD K hK
     obtain ⟨q3, -⟩ := hD
     simp only [fillL, Act.put, zSa, zSz, zSs] at hK ⊢
     rw [show vs 3 = _ from q3] at hK ⊢
     clear q3
     go_simp
     refine (c6.out _).mono ?_
     rintro e w2 ⟨rfl, hb2⟩
     exact hK _ _ rfl hb2 nofun
   · intro vs w1 hS hE hD K hK
     clear hD
     simp only [fillL, Act.put, zSa, zSz, zSs] at hK ⊢
     go_simp
     exact hK _ _ ⟨_, rfl, Nat.le_trans zLe hE.size, Arr.new _ _ _⟩ (below_alloc _ _) (fun _ => ⟨_, rfl, Nat.le_refl _⟩)
 intro vs w_p6_2939 hS_p6_2939 hE_p6_2939 hP hD
 obtain ⟨q3, q4, q5, -⟩ := hP
 simp only [fillL, Act.put, zSa, zSz, zSs]
 rw [show vs 3 = _ from q3]
 clear q3
 rw [show vs 4 = _ from q4]
 clear q4
 obtain ⟨g5, e5, hg5, ha5⟩ := q5
 rw [e5]
 clear e5 hD vs
 have lt_k11_k2 := Nat.lt_of_lt_of_le k2.lt hg5
 have lt_k11_k4 := Nat.lt_of_lt_of_le k4.lt hg5
 have lt_k11_k5 := Nat.lt_of_lt_of_le k5.lt hg5
 have lt_k11_k8 := Nat.lt_of_lt_of_le k8.lt hg5
 have lt_k11_k9 := Nat.lt_of_lt_of_le k9.lt hg5
 have lt_k11_k10 := Nat.lt_of_lt_of_le k10.lt hg5
 have k2 := k2.below hS_p6_2939
 have k4 := k4.below hS_p6_2939
 have k5 := k5.below hS_p6_2939
 have k8 := k8.below hS_p6_2939
 have k9 := k9.below hS_p6_2939
 have k10 := k10.below hS_p6_2939
 have kb := bel kb hS_p6_2939
 refine Tx.bar 127 rfl zDk (fun K hK => ?_)
 refine step_store_arr rfl _ _ _ rfl _ _ rfl rfl _ zAm zLn zLm zOn ?_
 refine hK (fun _ => True) 9999 _ _ ?_
 clear hK K
 try simp only [Act.put]
 try simp only [zSa, zSz, zSs]
 refine Tx.done zKr ?_
 refine then_row ha5 (fun w_10 ha5 hoth hbel => ?_)
 have k2 := hoth _ _ zOm k2
 have k4 := hoth _ _ zOm k4
 have k5 := hoth _ _ zOm k5
 have k8 := hoth _ _ zOm k8
 have k9 := hoth _ _ zOm k9
 have k10 := hoth _ _ zOm k10
 have kb := hbel _ _ zOm kb
 clear hoth hbel
 have k11 := ha5
 clear ha5
 generalize g5 = g_k11 at *
 clear c5 c6
 have sR := zH (show Sl w_10 (.slice (some ⟨g_k9, 0, none⟩) 32 32) (u8s (nb 32 R)) from Sl.ofArrN (by rw [← byts_nb]; exact k9) (nb_len _ _) zDc)
 have sS := zH (show Sl w_10 (.slice (some ⟨g_k11, 0, none⟩) 32 32) (u8s (nb 32 s)) from Sl.ofArrN (by rw [← byts_nb]; exact k11) (nb_len _ _) zDc)
 obtain ⟨i, hi, hz0, hz1, hz2⟩ := info_parts info_u8
 have hat2 : ∀ w o c, (Instr.arrayAt 136 (.slice (some ⟨o, 0, none⟩) 64 c)).run Tryz.prog w = .ok (.pointer (some ⟨o, 0, none⟩)) w := fun w o c => run_arrayAt w 136 5 64 _ 64 c Tryz.underlying136 zDc
 clear k9 k11 k2 k5 k8 k10
 go_upto_region 7 with fail
 refine Tx.start (fun w' => Below (w_10).heap.size (w_10) w') 5 6 rfl zKr ?_
 have hS_11 : Below (w_10).heap.size (w_10) (World.drew w_10) := (Below.refl _ _).drew
 refine Tx.seg (A := ?_) 4 3 zKr (by exact hS_11) [0, 1] zKr ?_ ?_
 rotate_left
 · intro w' hB
   exact zRd
 refine Tx.eff 2 7 rfl zDk (fun K hK => ?_)
 refine step_append_new rfl _ _ 26 rfl 5 Tryz.underlying26 hi hz0 hz1 hz2 rfl rfl (sR.out.below (hS_11)) rfl (sS.out.below (hS_11)) ?c1 (u8s_one _) ?c2 ?c3 ?_
 case c1 => rw [u8s_len, u8s_len, nb_len, nb_len]; decide
 case c2 => rw [u8s_len, nb_len]; decide
 case c3 => rw [u8s_len, nb_len]; decide
 intro v3 w12 hown hb12
 rw [u8s_len, nb_len, sgL_u8s] at hown
 obtain ⟨g12, c12, rfl, -⟩ := own_range hown zDc
 have hsl := Sl.of_own hown
 have hS_12 : Below (w_10).heap.size w_10 w12 := ext_trans hS_11 (Nat.le_refl _) hb12
 refine hK (fun w' => Below w12.heap.size w12 w') _ _ hS_12 (fun _ h => bel hS_12 h) ?_
 clear hK K
 replace k4 := k4.below hS_12
 try simp only [Act.put, zSa, zSz, zSs]
 refine Tx.seg (A := ?_) 1 31 zKr (by exact (Below.refl _ _)) [3, 4] zKr ?_ ?_
 rotate_left
 · intro w' hB
   have y12 := (hsl.below hB).rng
   exact zRm
 refine Tx.bar 63 rfl zDk (fun K hK => ?_)
 refine step_store_arr rfl _ _ _ rfl _ _ rfl rfl _ zAm zLn zLm zOn ?_
 refine hK (fun _ => True) 9999 _ _ ?_
 clear hK K
 try simp only [Act.put]
 try simp only [zSa, zSz, zSs]
 refine Tx.done zKr ?_
 replace kb := bel kb hS_12
 refine then_row k4 (fun w_12 k4 hoth hbel => ?_)
 have kb := hbel _ _ zOm kb
 clear hoth hbel
 go_wp2_with fail
 exact bodyPost_ret (results_arr2 Tryz.results138 _ _ _ rfl zKr _ (by first | assumption | exact Arr.setRow zAm _) zLn) rfl ⟨rfl, kb⟩
def mayB2 (v i : Int) : Bool := decide (0 ≤ v) && (decide (v ≤ 2147483647) && (decide (0 ≤ i) && decide (i < 32)))
theorem imay_any (v i : Int) (w : World) : Calls Tryz.prog 190 #[.int .i64 v, .int .i64 i] w fun e w' => e = .returned (.bool (mayB2 v i)) ∧ Below w.heap.size w w' := by
 obtain ⟨V, hV⟩ : ∃ V, mayB2 v i = V := ⟨_, rfl⟩
 rw [hV]
 unfold mayB2 at hV
 replace hV := zH hV
 have fin : ∀ {b : Bool}, (decide (0 ≤ v) && (decide (v ≤ 2147483647) && (decide (0 ≤ i) && decide (i < 32)))) = b → Hid (V = b) := fun h => zH (by rw [← hV.out, h])
 by_cases h1 : 0 ≤ v
 · by_cases h2 : v ≤ 2147483647
   · by_cases h3 : 0 ≤ i
     · by_cases h4 : i < 32
       · have hv := fin (b := true) (by simp [h1, h2, h3, h4])
         clear fin
         go_enter Tryz.func190, Tryz.ntmps190
         go_wp2_with fail
         go_ret
         exact ⟨by rw [hv.out]; rfl, Below.refl _ _⟩
       · have hv := fin (b := false) (by simp; omega)
         clear fin
         go_enter Tryz.func190, Tryz.ntmps190
         go_wp2_with fail
         go_ret
         exact ⟨by rw [hv.out]; rfl, Below.refl _ _⟩
     · have hv := fin (b := false) (by simp; omega)
       clear fin
       go_enter Tryz.func190, Tryz.ntmps190
       go_wp2_with fail
       go_ret
       exact ⟨by rw [hv.out]; rfl, Below.refl _ _⟩
   · have hv := fin (b := false) (by simp; omega)
     clear fin
     go_enter Tryz.func190, Tryz.ntmps190
     go_wp2_with fail
     go_ret
     exact ⟨by rw [hv.out]; rfl, Below.refl _ _⟩
 · have hv := fin (b := false) (by simp; omega)
   clear fin
   go_enter Tryz.func190, Tryz.ntmps190
   go_wp2_with fail
   go_ret
   exact ⟨by rw [hv.out]; rfl, Below.refl _ _⟩
def sealS (k n : Nat) (bs side : List UInt8) : List UInt8 := trB k 1 n bs ++ tagB k n (trB k 1 n bs) side
theorem sealS_len (k n : Nat) (bs side : List UInt8) : (sealS k n bs side).length = bs.length + 16 := by rw [sealS, List.length_append, trB_len, tagB_len]
theorem aseals_own (k n : Nat) (a d : Option Addr) (c cd : Nat) (bs side : List UInt8) (l1 : bs.length ≤ 50000) (l2 : side.length ≤ 50000) (w : World) (h1 : Sl w (.slice a bs.length c) (u8s bs)) (h2 : Sl w (.slice d side.length cd) (u8s side)) :
 Calls Tryz.prog 141 #[.agg (bytn 32 k).toArray, .agg (bytn 12 n).toArray, .slice a bs.length c, .slice d side.length cd] w fun e w' => ∃ u, e = .returned u ∧ w'.ownsRow w.heap.size 5 1 u (sealS k n bs side).length (u8s (sealS k n bs side)) ∧ Below w.heap.size w w' := by
 have cU := zH (fun w' (hb : Below w.heap.size w w') => cturn_any k n 1 a c bs zDc zOm w' (h1.below hb))
 obtain ⟨z, hz⟩ : ∃ z, trB k 1 n bs = z := ⟨_, rfl⟩
 have hzl : z.length = bs.length := by rw [← hz, trB_len]
 have hS : Hid (sealS k n bs side = z ++ tagB k n z side) := zH (by rw [sealS, hz])
 rw [hz] at cU
 obtain ⟨m, hm⟩ : ∃ m, bs.length = m := ⟨_, rfl⟩
 rw [hm] at cU hzl l1 ⊢
 obtain ⟨G, hG⟩ : ∃ G, sealS k n bs side = G := ⟨_, rfl⟩
 rw [hG] at hS ⊢
 replace h2 := zH h2
 replace l2 := zH l2
 clear h1 hz hm hG
 go_enter Tryz.func141, Tryz.ntmps141
 go_upto_region 1 with fail
 refine wp_new2 (fun W hsz k4 k5 kb => ?_)
 have k4 : Arr W w.heap.size (bytn 32 k) := k4
 have k5 : Arr W (w.heap.size + 1) (bytn 12 n) := k5
 clear hsz
 replace cU := zH (cU.out W kb)
 go_wp2_with (refine zLd ?_)
 refine cU.out.mono ?_
 rintro e w1 ⟨g, rfl, hg, kz, hb⟩
 replace k4 := k4.below hb
 replace k5 := k5.below hb
 replace kb := bel kb hb
 clear hb cU
 have hsz := zH (show Sl w1 (.slice (some ⟨g, 0, none⟩) m m) (u8s z) from Sl.ofArrN kz hzl zOm)
 have cT := zH (by
  have q := atag_any k n (some ⟨g, 0, none⟩) d m cd z side zOm (by have := l2.out; omega) w1 (by rw [hzl]; exact hsz.out) (h2.out.below kb)
  rw [hzl] at q
  exact q)
 have hT : Hid (bytn 16 (tagN k n z side) = u8s (tagB k n z side)) := zH (tagB_u8s _ _ _ _)
 have htl : Hid ((tagB k n z side).length = 16) := zH (tagB_len _ _ _ _)
 obtain ⟨T, hTe⟩ : ∃ T, tagN k n z side = T := ⟨_, rfl⟩
 obtain ⟨t, hte⟩ : ∃ t, tagB k n z side = t := ⟨_, rfl⟩
 rw [hTe] at cT hT
 rw [hte] at hS hT htl
 obtain ⟨ns, hns⟩ : ∃ n, side.length = n := ⟨_, rfl⟩
 rw [hns] at cT ⊢
 clear hTe hte kz h2 l2 hns
 go_wp2_with (refine zLd ?_)
 refine cT.out.mono ?_
 rintro e w2 ⟨rfl, hb⟩
 replace kb := bel kb hb
 replace hsz := zH (hsz.out.below hb)
 clear hb cT k4 k5
 go_upto_region 3 with (refine wpl_storeG rfl _ _ _ rfl _ (bytn 16 T) rfl rfl _ (Arr.new _ _ _) (by rw [bytn_len]; kernel_rfl) (by rw [bytn_len]; rfl) (bytn_one _ _) (fun w4 k6 hg hsz4 => ?_))
 have hb := below_fresh hg
 replace hsz := zH (hsz.out.below hb)
 replace kb := bel kb hb
 obtain ⟨g6, hg6⟩ : ∃ g, w2.heap.size = g := ⟨_, rfl⟩
 rw [hg6] at k6 ⊢
 clear hg6 hb hg hsz4
 rw [hT.out] at k6
 obtain ⟨i, hi, hz0, hz1, hz2⟩ := info_parts info_u8
 have hst := Sl.ofArrN k6 htl.out zDc
 clear k6
 go_wp2_with (at_builtin; refine wpList_append_new rfl _ _ 26 rfl 5 Tryz.underlying26 hi hz0 hz1 hz2 rfl rfl hsz.out rfl hst ?c1 (u8s_one _) ?c3 ?c4 ?_)
 case c1 => rw [u8s_len, u8s_len, htl.out, hzl]; omega
 case c3 => rw [u8s_len, htl.out]; unfold maxLen; omega
 case c4 => rw [u8s_len, htl.out]; omega
 intro v w5 hown hb5
 rw [u8s_len, htl.out, ← u8s_append, ← hS.out] at hown
 have hGl : G.length = m + 16 := by rw [hS.out, List.length_append, htl.out, hzl]
 rw [← hGl] at hown
 have hbs := kb.size
 replace kb := bel kb hb5
 clear hb5 hst hsz hzl
 go_wp2_with fail
 go_ret
 exact ⟨v, rfl, own_mono hown hbs, kb⟩
theorem aseals_any (k n : Nat) (a d : Option Addr) (c cd : Nat) (bs side : List UInt8) (l1 : bs.length ≤ 50000) (l2 : side.length ≤ 50000) (w : World) (h1 : Sl w (.slice a bs.length c) (u8s bs)) (h2 : Sl w (.slice d side.length cd) (u8s side)) :
 Calls Tryz.prog 141 #[.agg (bytn 32 k).toArray, .agg (bytn 12 n).toArray, .slice a bs.length c, .slice d side.length cd] w (SRet (sealS k n bs side) w) := by
 refine (aseals_own k n a d c cd bs side l1 l2 w h1 h2).mono ?_
 rintro e w' ⟨u, rfl, hown, hb⟩
 obtain ⟨g, c', rfl, -⟩ := own_range hown (by rw [sealS_len]; omega)
 exact ⟨g, c', rfl, Sl.of_own hown, hb⟩
theorem u8s_bytn (L : List UInt8) : u8s L = bytn L.length (val 256 (L.map (·.toNat))) := by
 have h3 := digs_val 256 zDc (L.map (·.toNat)) (by intro x hx; simp only [List.mem_map] at hx; obtain ⟨y, -, rfl⟩ := hx; exact y.toNat_lt)
 rw [List.length_map] at h3
 rw [bytn, h3, List.map_map]
 rfl
def nonN (i : Int) : Nat := val 256 ((List.replicate 4 (0 : UInt8) ++ be8s [i]).map (·.toNat))
theorem nonN_u8s (i : Int) : u8s (List.replicate 4 (0 : UInt8) ++ be8s [i]) = bytn 12 (nonN i) := by
 have h := u8s_bytn (List.replicate 4 (0 : UInt8) ++ be8s [i])
 rw [List.length_append, be8s_len] at h
 exact h
theorem Sl.new1At {w : World} (n : Nat) (h : w.heap.size = n) (v : Value) (t : TypeId) : Sl (w.alloc (.cells #[v] t)) (.slice (some ⟨n, 0, none⟩) 1 1) [v] := by
 subst h
 exact Sl.new1 w v t
theorem nonce_any (i : Int) (w : World) :
 Calls Tryz.prog 191 #[.int .i64 i] w fun e w' => e = .returned (.agg (bytn 12 (nonN i)).toArray) ∧ Below w.heap.size w w' := by
 have hmk : ∀ w, (Instr.makeSlice 26 (.int .i64 4) (.int .i64 4)).run Tryz.prog w = .ok (.slice (some ⟨w.heap.size, 0, none⟩) 4 4) (w.alloc (.cells (u8s (List.replicate 4 0)).toArray 5)) := make_u8c 4 zDc
 have hN := zH (nonN_u8s i)
 obtain ⟨N, hNe⟩ : ∃ N, nonN i = N := ⟨_, rfl⟩
 rw [hNe] at hN ⊢
 clear hNe
 have hat2 : ∀ w o c, (Instr.arrayAt 209 (.slice (some ⟨o, 0, none⟩) 12 c)).run Tryz.prog w = .ok (.pointer (some ⟨o, 0, none⟩)) w := fun w o c => run_arrayAt w 209 5 12 _ 12 c Tryz.underlying209 zDc
 go_enter Tryz.func191, Tryz.ntmps191
 go_upto_region 1 with fail
 refine wp_new1 (fun W hsz k2 kb => ?_)
 replace k2 : Arr W w.heap.size (bytn 12 0) := k2
 clear hsz
 have h1 := zH (show Sl (W.alloc (.cells (u8s (List.replicate 4 0)).toArray 5)) (.slice (some ⟨W.heap.size, 0, none⟩) 4 4) (u8s (List.replicate 4 0)) from Sl.ofArrN (Arr.new _ _ _) (by simp) zDc)
 have kb1 := below_alloc W (.cells (u8s (List.replicate 4 0)).toArray 5)
 have kb2 := bel kb1 (below_alloc (W.alloc (.cells (u8s (List.replicate 4 0)).toArray 5)) (.cells #[.int .i64 i] 3))
 have h2 := zH (Sl.new1At (w := W.alloc (.cells (u8s (List.replicate 4 0)).toArray 5)) (W.heap.size + 1) (by simp) (.int .i64 i) 3)
 have cI := zH (fun w' vb vn (hb : Sl w' vb (u8s (List.replicate 4 0))) (hn : Sl w' vn [.int .i64 i]) => packInt_any vb vn (List.replicate 4 0) [i] w' hb hn (by simp))
 go_wp2_with fail
 refine (cI.out _ _ _ (h1.out.alloc _) h2.out).mono ?_
 rintro e w1 ⟨v, rfl, hown, hb1⟩
 rw [hN.out, show (List.replicate 4 (0 : UInt8) ++ be8s [i]).length = 12 by rw [List.length_append, be8s_len]; rfl] at hown
 obtain ⟨g, c, rfl, -⟩ := own_range hown zDc
 have hr := (Sl.of_own hown).rng
 replace hb1 := bel kb2 hb1
 replace k2 := k2.below hb1
 replace kb := bel kb hb1
 clear hown hb1 h1 kb1 kb2 hmk
 go_wp2_with (first | (refine wpList_load_mid2 rfl _ _ rfl _ _ rfl zKr _ hr zLn ?_) | (refine zSt ?_))
 exact bodyPost_ret (results_arr2 Tryz.results191 _ _ _ rfl zKr _ (by first | assumption | exact Arr.setRow zAm _) zLn) rfl ⟨rfl, below_setRow kb (Nat.le_refl _) _⟩
def Ph.sl (n : Nat) (xs : List Value) : Ph := ⟨fun v w => ∃ d, v = .slice d n n ∧ Sl w v xs, fun _ _ _ ⟨d, h1, h2⟩ hb => ⟨d, h1, h2.below hb⟩, false, fun h => by cases h⟩
theorem packInt1_any (vn : Value) (v : Int) (w : World) (hn : Sl w vn [.int .i64 v]) :
 Calls Tryz.prog 21 #[.slice none 0 0, vn] w fun e w' => ∃ g c, e = .returned (.slice (some ⟨g, 0, none⟩) 8 c) ∧ Sl w' (.slice (some ⟨g, 0, none⟩) 8 c) (u8s (be8s [v])) ∧ Below w.heap.size w w' := by
 refine (packInt_any (.slice none 0 0) vn [] [v] w (Sl.nil _) hn (by simp)).mono ?_
 rintro e w' ⟨v', rfl, hown, hb⟩
 rw [List.nil_append, show (be8s [v]).length = 8 from be8s_len [v]] at hown
 obtain ⟨g, c, rfl, -⟩ := own_range hown zDc
 exact ⟨g, c, rfl, Sl.of_own hown, hb⟩
def isealB (K : Nat) (v i : Int) (bs : List UInt8) : List UInt8 := sealS K (nonN i) bs (be8s [v])
theorem iseal_own (K : Nat) (v i : Int) (a : Option Addr) (c : Nat) (bs : List UInt8) (hl : bs.length = 64) (hm : mayB2 v i = true) (w : World) (h : Sl w (.slice a 64 c) (u8s bs)) :
 Calls Tryz.prog 135 #[.agg (bytn 32 K).toArray, .int .i64 v, .int .i64 i, .slice a 64 c] w fun e w' => ∃ u, e = .returned (.tuple #[u, .int .i64 0]) ∧ w'.ownsRow w.heap.size 5 1 u 80 (u8s (isealB K v i bs)) ∧ Below w.heap.size w w' := by
 have cM := zH (fun w => imay_any v i w)
 rw [hm] at cM
 have hGl : (isealB K v i bs).length = 80 := by rw [isealB, sealS_len, hl]
 have cN := zH (fun w => nonce_any i w)
 have cI := zH (fun w vn h => packInt1_any vn v w h)
 have cA := zH (fun w' g cd (h1 : Sl w' (.slice a 64 c) (u8s bs)) (h2 : Sl w' (.slice (some ⟨g, 0, none⟩) 8 cd) (u8s (be8s [v]))) => show Calls Tryz.prog 141 #[.agg (bytn 32 K).toArray, .agg (bytn 12 (nonN i)).toArray, .slice a 64 c, .slice (some ⟨g, 0, none⟩) 8 cd] w' (fun e w'' => ∃ u, e = .returned u ∧ w''.ownsRow w'.heap.size 5 1 u 80 (u8s (isealB K v i bs)) ∧ Below w'.heap.size w' w'') from by
  have q := aseals_own K (nonN i) a (some ⟨g, 0, none⟩) c cd bs (be8s [v]) zOm (by rw [be8s_len]; simp) w' (by rw [hl]; exact h1) (by rw [be8s_len]; exact h2)
  rw [hl, show (be8s [v]).length = 8 from be8s_len [v]] at q
  rw [show (sealS K (nonN i) bs (be8s [v])).length = 80 from hGl] at q
  exact q)
 obtain ⟨N, hN⟩ : ∃ N, nonN i = N := ⟨_, rfl⟩
 obtain ⟨G, hG⟩ : ∃ N, isealB K v i bs = N := ⟨_, rfl⟩
 rw [hN] at cN cA
 rw [hG] at cA ⊢
 replace h := zH h
 clear hm hGl hN hG hl
 go_enter Tryz.func135, Tryz.ntmps135
 go_upto_region 1 with fail
 refine wp_new1 (fun W hsz k4 kb => ?_)
 replace k4 : Arr W w.heap.size (bytn 32 K) := k4
 clear hsz
 go_wp2_with fail
 refine (cM.out _).mono ?_
 rintro e w_2 ⟨rfl, hb_2⟩
 have k4 := k4.below hb_2
 have kb := bel kb hb_2
 clear hb_2
 go_upto_region 3 with fail
 refine Tx.start (fun w' => Below (w_2).heap.size (w_2) w') 9999 10 rfl zKr ?_
 have hS_3 : Below (w_2).heap.size (w_2) (World.drew w_2) := (Below.refl _ _).drew
 refine Tx.seg (A := ?_) 6 27 zKr (by exact hS_3) [0, 1, 3, 4] zKr ?_ ?_
 rotate_left
 · intro w' hB
   have y4 := k4.below hB
   exact zRd
 refine Tx.poolB 4 63 [(2, 21), (5, 24)] [(false, []), (false, [])] [(2, Ph.is (.agg (bytn 12 N).toArray)), (5, Ph.sl 1 [.int .i64 v])] zKr zKr (by first | assumption | exact (Below.refl _ _).drew) ?_ ?_
 · refine ⟨⟨_, rfl, ?_⟩, ⟨_, rfl, ?_⟩, trivial⟩
   · intro vs w1 hS hE hD K hK
     clear hD
     simp only [fillL, Act.put, zSa, zSz, zSs] at hK ⊢
     go_simp
     refine (cN.out _).mono ?_
     rintro e w2 ⟨rfl, hb2⟩
     exact hK _ _ rfl hb2 nofun
   · intro vs w1 hS hE hD K hK
     clear hD
     simp only [fillL, Act.put, zSa, zSz, zSs] at hK ⊢
     go_simp
     exact hK _ _ ⟨_, rfl, Sl.new1 _ _ _⟩ (below_alloc _ _) nofun
 intro vs w_p0 hS_p0 hE_p0 hP hD
 obtain ⟨q2, q5, -⟩ := hP
 simp only [fillL, Act.put, zSa, zSz, zSs]
 rw [show vs 2 = _ from q2]
 clear q2
 obtain ⟨d5, e5, hs5⟩ := q5
 rw [e5]
 rw [show vs _ = _ from e5] at hs5
 clear e5
 clear  hD vs
 refine Tx.eff 6 127 rfl zDk (fun K hK => ?_)
 go_simp
 refine (cI.out _ _ hs5).mono ?_
 rintro e w_4 ⟨g6, c6, rfl, hsd, hb_4⟩
 have hS_4 := ext_trans hS_p0 (Nat.le_refl _) hb_4
 refine hK (fun w' => Below (w_2).heap.size (w_2) w') _ _ hS_4 (fun _ h => h) ?_
 clear hK K hS_p0
 try simp only [Act.put, zSa, zSz, zSs]
 have hM := (bel kb hS_4).size
 refine Tx.eff 7 255 rfl zDk (fun K hK => ?_)
 go_simp
 refine (cA.out _ _ _ (h.out.below (bel kb hS_4)) hsd).mono ?_
 rintro e w_5 ⟨u7, rfl, hz, hb_5⟩
 have hS_5 := ext_trans hS_4 (Nat.le_refl _) hb_5
 refine hK (fun w' => Below (w_2).heap.size (w_2) w') _ _ hS_5 (fun _ h => h) ?_
 clear hK K hS_4
 try simp only [Act.put, zSa, zSz, zSs]
 refine Tx.seg (A := ?_) 0 1023 zKr (by exact hS_5) [8, 9] zKr ?_ ?_
 rotate_left
 · intro w' hB
   exact zRd
 refine Tx.done zKr ?_
 have kb := bel kb hS_5
 go_wp2_with fail
 go_ret2
 exact ⟨u7, rfl, own_mono hz hM, kb⟩
open Go.RowKit Go.Shelf
attribute [local go_sem] Oper.semAt_some
theorem wpListIn_copy_arr {F : Fence} {n : Nat} {P : Program} {w : World} {ops : Array Oper} {rest : List Oper} {o : Oper} {a : Act} {Q : Exit → Act → World → Prop} (hgd : o.guard = none) (d s : Operand) (dT sT : TypeId)
 (ho : o.op = .call { callee := .builtin .copy, args := #[d, s], argTypes := #[dT, sT] }) (elem : TypeId) (hu : P.underlying dT = some (.slice elem)) (hsz : (P.info? elem).map (·.size) = some 1)
 (g off dLen dCap : Nat) (hd : a.eval d = .slice (some ⟨g, off, none⟩) dLen dCap) (xs : List Value) (hg : Arr w g xs) (hfit : off + dLen ≤ xs.length) (vs : Value) (hs : a.eval s = vs) (full : List Value) (hsl : Sl w vs full) (h1 : ∀ v ∈ full, v.oneCell' = true)
 (h : wpListIn F n P ops Q rest (a.put o.dst (goInt (full.take dLen).length)) (w.setRow g (xs.take off ++ full.take dLen ++ xs.drop (off + (full.take dLen).length)).toArray)) : wpListIn F n P ops Q (o :: rest) a w := by
 refine wpListIn_plain hgd fun K hK => ?_
 unfold Oper.wpIn
 refine ⟨by simp [Oper.about, ho, resolve, Target.leads, Sem.run_pure], ?_⟩
 rw [Oper.semAt_plain F _ _ (by rw [ho]; intro c hc'; cases hc')]
 obtain ⟨sp, cap, rfl, h2, h3, h4, h5⟩ := hsl
 obtain ⟨T, hg⟩ := hg
 cases sp with
 | none =>
  obtain rfl := h4 rfl
  obtain rfl : full = [] := List.eq_nil_of_length_eq_zero zOm
  have hrun := run_copy_nil (P := P) w dT sT o.type elem ⟨g, off, none⟩ dLen dCap hu (by cases hq : P.info? elem <;> simp [hq] at hsz ⊢)
  simp only [execOp, ho, resolve, invoke, builtin, Sem.run_bind, Sem.run_pure, Result.andThen_ok, List.map_toArray, List.map_cons, List.map_nil, hd, hs, List.length_nil, hrun]
  refine hK _ _ ?_
  simp only [List.take_nil, List.append_nil, List.length_nil, Nat.add_zero, List.take_append_drop] at h
  rwa [setRow_self w g xs.toArray T (0, 0) hg] at h
 | some x =>
  have hl : (full.take dLen).length = Nat.min full.length dLen := by rw [List.length_take]; exact Nat.min_comm _ _
  have hrun := run_copy_row (P := P) w dT sT o.type elem g off dLen dCap x full.length cap xs.toArray T (full.take dLen) hu hsz hg hl (fun j v hj => h5 x rfl j v (by
   rw [List.getElem?_take] at hj
   split at hj
   · exact hj
   · cases hj)) (by have := List.length_take_le dLen full; simp only [List.size_toArray]; omega) (fun v hv => h1 v (List.mem_of_mem_take hv))
  simp only [execOp, ho, resolve, invoke, builtin, Sem.run_bind, Sem.run_pure, Result.andThen_ok, List.map_toArray, List.map_cons, List.map_nil, hd, hs, hrun]
  exact hK _ _ h
def pieceB (bs : List UInt8) (x : Nat) : List UInt8 := (bs.drop (64 * x)).take 64
def cblkB (bs : List UInt8) (x : Nat) : List UInt8 := pieceB bs x ++ List.replicate (64 - (pieceB bs x).length) 0
theorem pieceB_len (bs : List UInt8) (x : Nat) : (pieceB bs x).length = pieceN bs.length x := by rw [pieceB, List.length_take, List.length_drop, pieceN]
theorem cblkB_len (bs : List UInt8) (x : Nat) : (cblkB bs x).length = 64 := by
 have : (pieceB bs x).length ≤ 64 := by rw [pieceB, List.length_take]; omega
 rw [cblkB, List.length_append, List.length_replicate]; omega
def cblksB (bs : List UInt8) : List (List UInt8) := if bs = [] then [List.replicate 64 0] else (List.range (piecesN bs.length)).map (cblkB bs)
theorem Sl.piece {w : World} {b o c : Nat} {bs : List UInt8} (h : Sl w (.slice (some ⟨b, o, none⟩) bs.length c) (u8s bs)) (x : Nat) : Sl w (.slice (some ⟨b, o + 64 * x, none⟩) (pieceN bs.length x) (pieceN bs.length x)) (u8s (pieceB bs x)) := by
 obtain ⟨a', c', h1, h2, h3, h4, h5⟩ := h
 simp only [Value.slice.injEq] at h1
 obtain ⟨rfl, -, rfl⟩ := h1
 rw [u8s_len] at h2
 have hl := pieceB_len bs x
 refine ⟨_, _, by rw [u8s_len, hl], by rw [u8s_len, hl]; exact Nat.le_refl _, by rw [pieceN]; unfold maxLen; omega, fun h => (by cases h), fun y hy j u hu => ?_⟩
 cases hy
 have hj : j < (pieceB bs x).length := by
  have := (List.getElem?_eq_some_iff.1 hu).1
  rwa [u8s_len] at this
 have := h5 _ rfl (64 * x + j) u (by
  rw [← hu]
  have h1 : j < 64 := by rw [hl, pieceN] at hj; omega
  simp [u8s, pieceB, h1])
 rw [Addr.add_lit] at this ⊢
 rw [Nat.add_assoc]
 exact this
theorem wpListIn_cblk {F : Fence} {n : Nat} {P : Program} {W0 W : World} {ops : Array Oper} {rest : List Oper} {o : Oper} {a : Act} {Q : Exit → Act → World → Prop} (hgd : o.guard = none) (d s : Operand) (dT sT : TypeId)
 (ho : o.op = .call { callee := .builtin .copy, args := #[d, s], argTypes := #[dT, sT] }) (elem : TypeId) (hu : P.underlying dT = some (.slice elem)) (hsz : (P.info? elem).map (·.size) = some 1) (bs : List UInt8) (x : Nat) {Z : Array Value} (hZ : Hid ((u8s (List.replicate 64 0)).toArray = Z))
 (hW : W = W0.alloc (.cells Z elem)) (hd : a.eval d = .slice (some ⟨W0.heap.size, 0, none⟩) 64 64) (vs : Value) (hs : a.eval s = vs) (hsl : Sl W0 vs (u8s (pieceB bs x)))
 (h : ∀ (W2 : World) (z : Value), W2.heap[W0.heap.size]? = some (.cells (u8s (cblkB bs x)).toArray elem (0, 0)) → W.grownBy W2 (some W0.heap.size) → W2.heap.size = W0.heap.size + 1 → wpListIn F n P ops Q rest (a.put o.dst z) W2) : wpListIn F n P ops Q (o :: rest) a W := by
 replace hZ := hZ.out
 subst hZ
 subst hW
 have hg : Arr (W0.alloc (.cells (u8s (List.replicate 64 0)).toArray elem)) W0.heap.size (u8s (List.replicate 64 0)) := Arr.new _ _ _
 have hpl : (pieceB bs x).length ≤ 64 := by rw [pieceB, List.length_take]; omega
 refine wpListIn_copy_arr hgd d s dT sT ho elem hu hsz W0.heap.size 0 64 64 hd _ hg (by rw [u8s_len]; simp) vs hs _ (hsl.alloc _) (u8s_one _) (h _ _ ?_ (gr_row _ _ _) (by simp [World.setRow]))
 have e : u8s (cblkB bs x) = (u8s (List.replicate 64 0)).take 0 ++ (u8s (pieceB bs x)).take 64 ++ (u8s (List.replicate 64 0)).drop (0 + ((u8s (pieceB bs x)).take 64).length) := by
  rw [List.take_zero, List.nil_append, List.take_of_length_le (by rw [u8s_len]; exact hpl), u8s_len, Nat.zero_add, cblkB, u8s_append]
  have hz : ∀ n, u8s (List.replicate n (0 : UInt8)) = List.replicate n (.int .u8 0) := fun n => by rw [u8s, List.map_replicate]; rfl
  rw [hz, hz, List.drop_replicate]
 rw [e]
 simp only [World.setRow, Array.getElem?_modify]
 rw [if_pos trivial, World.alloc_heap_new]
 rfl
def CutI (n₁ b0 : Nat) (bs : List UInt8) (pre : List Nat) (W : World) : Prop :=
 ∃ (v : Value) (vs : List Value), Boxed W b0 38 v ∧ W.ownsRow n₁ 26 1 v pre.length vs ∧ vs.length = pre.length ∧ (∀ u ∈ vs, u.oneCell' = true) ∧ ∀ (j : Nat) (u : Value) (x : Nat), vs[j]? = some u → pre[j]? = some x → ∃ g, u = .slice (some ⟨g, 0, none⟩) 64 64 ∧ W.heap[g]? = some (.cells (u8s (cblkB bs x)).toArray 5 (0, 0))
theorem cells_not_row {W : World} {g : Nat} {ys : Array Value} {t e : TypeId} (h : W.heap[g]? = some (.cells ys t (0, 0))) (hte : t ≠ e) {base size k : Nat} {v : Value} {xs : List Value} (hr : W.ownsRow base e size v k xs) : some g ≠ v.ownBlock := by
 rcases hr.2 with ⟨rfl, _⟩ | ⟨g', cap, cur, rfl, _, hgb, _⟩
 · simp [Value.ownBlock]
 · intro e'
   obtain rfl : g = g' := by simpa [Value.ownBlock] using e'
   have := h.symm.trans hgb
   simp at this
   exact hte this.2
theorem cutI_own (n₁ b0 : Nat) (bs : List UInt8) : Own (CutI n₁ b0 bs) := by
 rintro s X Y row ⟨v, vs, hv, hr, h1, h2, h3⟩ hg hrow
 refine ⟨v, vs, hv.kept hg (fun e' => ?_), hr.kept hg ?_, h1, h2, fun j u x ha hb => ?_⟩
 · obtain ⟨o, ho, hc⟩ := hrow b0 e'.symm
   rw [show X.heap[b0]? = _ from hv] at ho
   cases ho
   cases hc
 · rcases hr.2 with ⟨rfl, _⟩ | ⟨g, cap, cur, rfl, _, hgb, _⟩
   · exact .inl rfl
   · refine .inr (fun e' => ?_)
     obtain ⟨o, ho, hc⟩ := hrow g (by rw [← e']; rfl)
     rw [hgb] at ho
     cases ho
     cases hc
 · obtain ⟨g, e1, e2⟩ := h3 j u x ha hb
   refine ⟨g, e1, (hg.block g (Array.getElem?_eq_some_iff.1 e2).1 (fun e' => ?_)).trans e2⟩
   obtain ⟨o, ho, hc⟩ := hrow g e'.symm
   rw [e2] at ho
   cases ho
   cases hc
theorem icut_any (a : Option Addr) (c : Nat) (bs : List UInt8) (h0 : bs ≠ []) (hL : bs.length ≤ 2048) (w : World) (h : Sl w (.slice a bs.length c) (u8s bs)) :
 Calls Tryz.prog 134 #[.slice a bs.length c] w fun e w' => ∃ d c', e = .returned (.tuple #[.slice d (piecesN bs.length) c', .int .i64 0]) ∧ Sls w' (.slice d (piecesN bs.length) c') (cblksB bs) ∧ Below w.heap.size w w' := by
 obtain ⟨-, hlc, hcm⟩ := h.len
 obtain ⟨b, o, rfl, -, -, -, -⟩ := h.at (by rw [u8s_len]; exact List.length_pos_iff.2 h0)
 have hpc := zH (fun W (hb : Below w.heap.size w W) x => (h.below hb).piece x)
 have hLp : 0 < bs.length := List.length_pos_iff.2 h0
 obtain ⟨L, hLe⟩ : ∃ L, bs.length = L := ⟨_, rfl⟩
 have hLH := zH hLe
 rw [hLe] at hpc hL hlc hLp ⊢
 have l1 : ¬ (2048 : Int) < (L : Int) := by omega
 have l2 : ¬ (L : Int) = 0 := by omega
 clear h hLe
 refine (callsIn_wide (n := 5)).1 ?_
 refine callsIn_of_wp_marks Tryz.func134 rfl trivial ?_ rfl
 simp only [Tryz.ntmps134, List.size_toArray, List.length_cons, List.length_nil, Nat.reduceAdd, Nat.reduceSub, Array.replicate_succ, Array.replicate_zero, List.push_toArray, List.append_toArray, List.nil_append, List.cons_append]
 gi_wp2_with (gi_at_call 189; refine (chunk_in _ _ _ _ _).mono ?_; rintro e w' ⟨rfl, rfl⟩)
 refine ⟨trivial, ?_⟩
 refine (chunk_in _ _ _ _ _).mono ?_
 rintro e w' ⟨rfl, rfl⟩
 have z1 : (w.alloc (.cells #[.slice none 0 0] 38)).heap.size = w.heap.size + 1 := by simp
 have z2 : ((w.alloc (.cells #[.slice none 0 0] 38)).alloc (.cells #[.slice (some ⟨b, o, none⟩) L c] 26)).heap.size = w.heap.size + 1 + 1 := by simp
 obtain ⟨WL, hWL⟩ : ∃ W, ((w.alloc (.cells #[.slice none 0 0] 38)).alloc (.cells #[.slice (some ⟨b, o, none⟩) L c] 26)).alloc (.cells #[.int .i64 64] 3) = W := ⟨_, rfl⟩
 have bO : Boxed WL w.heap.size 38 (.slice none 0 0) := by rw [← hWL]; exact ((Boxed.new w _ _).alloc _).alloc _
 have bS : Boxed WL (w.heap.size + 1) 26 (.slice (some ⟨b, o, none⟩) L c) := by
  have q := (Boxed.new (w.alloc (.cells #[.slice none 0 0] 38)) 26 (.slice (some ⟨b, o, none⟩) L c)).alloc (.cells #[.int .i64 64] 3)
  rw [z1, hWL] at q
  exact q
 have bN : Boxed WL (w.heap.size + 1 + 1) 3 (.int .i64 64) := by
  have q := Boxed.new ((w.alloc (.cells #[.slice none 0 0] 38)).alloc (.cells #[.slice (some ⟨b, o, none⟩) L c] 26)) 3 (.int .i64 64)
  rw [z2, hWL] at q
  exact q
 have hB0 : Below w.heap.size w WL := by rw [← hWL]; exact (((Below.refl _ w).alloc (Nat.le_refl _) _).alloc (by simp) _).alloc (by simp; omega) _
 have hWs : WL.heap.size = w.heap.size + 3 := by rw [← hWL]; simp
 rw [hWL]
 rw [z1]
 clear hWL z1 z2
 gi_wp2
 refine wpIn_rangeFunc_ownG rfl zDc (gf := 237) (lb := #[.pointer (some ⟨w.heap.size + 1, 0, none⟩), .pointer (some ⟨w.heap.size + 1 + 1, 0, none⟩)]) rfl trivial (enters_of Tryz.func237 zKr rfl)
  (chunk_stops _ zDc (w.heap.size + 1) (w.heap.size + 1 + 1) w.heap.size b o L c zOm zOm WL zOm zOm bS.cell bN.cell)
  (fun h k => h.trans k) (fun W l o o' hl ho h1 h2 => ⟨belowK_b (w := WL) zOm W l o o' hl ho h1 h2, World.putObj_heap_other zOm, World.putObj_heap_other zOm⟩) (Below.refl _ _) (fun _ => rfl)
  (fun pre W => CutI WL.heap.size w.heap.size bs pre W ∧ Below w.heap.size WL W)
  (fun _ _ _ => False)
  (OwnFrom.and (Own.from (cutI_own WL.heap.size w.heap.size bs) _) (ownFrom_below zOm zOm))
  (fun _ _ _ _ _ hs _ _ => hs)
  ⟨⟨.slice none 0 0, [], bO, World.ownsRow_nil _ _ _ _, rfl, (fun u hu => by cases hu), (fun j u x hj => by cases hj)⟩, Below.refl _ _⟩
  (fun x => { tmps := #[.slice (some ⟨b, o, none⟩) L c, undef, .slice none 0 0, .int .i64 0, .pointer (some ⟨w.heap.size, 0, none⟩), .slice (some ⟨b, o + 64 * x, none⟩) (pieceN L x) (pieceN L x), undef, .slice (some ⟨b, o, none⟩) L c, .int .i64 L, .bool false, .slice (some ⟨b, o, none⟩) L c, .int .i64 L, .bool false, undef, undef, .slice (some ⟨b, o, none⟩) L c, .func (.func 237) #[] #[.pointer (some ⟨w.heap.size + 1, 0, none⟩), .pointer (some ⟨w.heap.size + 1 + 1, 0, none⟩)], .slice (some ⟨b, o + 64 * x, none⟩) (pieceN L x) (pieceN L x), undef, undef, undef, undef, undef, undef, undef, undef, undef], defers := [] }) ?assign ?body ?done ?stop
 case assign =>
  intro l x W K hK
  gi_wp2
  exact hK
 case body =>
  rintro l pre x W ⟨⟨v, vs, hv, hrow, hvl, hv1, hvs⟩, hB⟩ hlt
  have hc := hv.cell
  have hp := zH (hpc.out W (hB0.trans hB) x)
  have hmk : ∀ w, (Instr.makeSlice 26 (.int .i64 64) (.int .i64 64)).run Tryz.prog w = .ok (.slice (some ⟨w.heap.size, 0, none⟩) 64 64) (w.alloc (.cells (u8s (List.replicate 64 0)).toArray 5)) := make_u8c 64 zDc
  obtain ⟨Z, hZ⟩ : ∃ Z, (u8s (List.replicate 64 0)).toArray = Z := ⟨_, rfl⟩
  rw [hZ] at hmk
  replace hZ := zH hZ
  have hpn : pre.length < 33 := by rw [piecesN] at hlt; omega
  gi_wp2_with (refine wpListIn_cblk rfl _ _ 26 26 rfl 5 Tryz.underlying26 zKr bs x hZ (W0 := W) rfl rfl _ rfl hp.out ?_)
  intro W2 z hA hg2 hs2
  have hb2 : Below W.heap.size W W2 := ((Below.refl _ W).alloc (Nat.le_refl _) _).grown hg2 (by simp) (fun k e => by cases e; exact Nat.le_refl _)
  have hv2 : Boxed W2 w.heap.size 38 v := (hb2.block _ hv.lt).trans hv
  have hrow2 := own_below hrow hb2
  have hk1 : KeepsOthers W W2 := (KeepsOthers.alloc W _).trans (KeepsOthers.of_grownBy hg2 (fun j ob e ho => by
   cases e
   rw [World.alloc_heap_new] at ho
   cases ho
   rfl))
  have hc2 := hv2.cell
  obtain ⟨i0, hi, hz0, hz1, hz2⟩ := info_parts info_sl
  have hvs2 : ∀ (j : Nat) (u : Value) (y : Nat), vs[j]? = some u → pre[j]? = some y → ∃ g, u = .slice (some ⟨g, 0, none⟩) 64 64 ∧ W2.heap[g]? = some (.cells (u8s (cblkB bs y)).toArray 5 (0, 0)) := fun j u y ha hb => by
   obtain ⟨g, e1, e2⟩ := hvs j u y ha hb
   exact ⟨g, e1, (hb2.block g (Array.getElem?_eq_some_iff.1 e2).1).trans e2⟩
  have hwW : w.heap.size < W.heap.size := hv.lt
  have hLW : WL.heap.size ≤ W2.heap.size ∧ WL.heap.size ≤ W.heap.size := by
   have := hb2.size
   have := hB.size
   omega
  replace hs2 := zH hs2
  have q1 : pre.length + 1 ≤ maxLen := by unfold maxLen; omega
  have q2 : (pre.length + 1) * 24 ≤ 140737488355328 := by omega
  have q3 : WL.heap.size ≤ (W2.alloc (.cells #[.slice (some ⟨W.heap.size, 0, none⟩) 64 64] 26)).heap.size := by simp; omega
  have hrowA := zH (hrow2.alloc (.cells #[.slice (some ⟨W.heap.size, 0, none⟩) 64 64] 26))
  have hvA := zH (hv2.alloc (.cells #[.slice (some ⟨W.heap.size, 0, none⟩) 64 64] 26))
  have cA := cell_one_new W2 (.slice (some ⟨W.heap.size, 0, none⟩) 64 64) 26
  replace q1 := zH q1
  replace q2 := zH q2
  replace q3 := zH q3
  replace cA := zH cA
  gi_wp2_with (gi_at_builtin; go_loud (refine wpListIn_append_own _ rfl _ _ 38 rfl WL.heap.size 26 i0 (.slice none 0 0) 1 24 Tryz.underlying38 hi hz0 hz1 hz2 rfl zDc v pre.length vs rfl hrowA.out ⟨W2.heap.size, 0, none⟩ 1 1 [.slice (some ⟨W.heap.size, 0, none⟩) 64 64] rfl rfl cA.out (by simp [Value.oneCell']) q1.out q2.out q3.out ?_); intro v' w1 hown' hgrow _; obtain ⟨g', cap', rfl⟩ := ownsRow_succ hown'; have hv1' : Boxed w1 w.heap.size 38 v := hvA.out.kept hgrow (hvA.out.not_row zDc hrowA.out); have hc1 := hv1'.cell; have hf1 := hv1'.frozen)
  obtain ⟨hvB, hvC, -, hkC, hbC⟩ := hv2.appended zDc (own_mono hrow2 zOm) zOm (Nat.le_refl _) (own_mono hown' zOm) hgrow
  have hb2' : Below w.heap.size W W2 := hb2.mono zOm
  have hal : (W2.alloc (.cells #[.slice (some ⟨W.heap.size, 0, none⟩) 64 64] 26)).heap.size = W2.heap.size + 1 := by simp
  have hnb : ∀ k, k < WL.heap.size → k ≠ w.heap.size → (w1.setCell ⟨w.heap.size, 0, none⟩ (.slice (some ⟨g', 0, none⟩) (pre.length + 1) cap')).heap[k]? = W.heap[k]? := fun k hk hne =>
   (Below.heap_setCell _ _ _ k hne).trans ((hgrow.block k zOm (fun e => by have := own_block hrow2 k e.symm; omega)).trans ((Below.heap_alloc W2 _ k zOm).trans (hb2.block k zOm)))
  have hty : ∀ (g : Nat) (y : Nat), W2.heap[g]? = some (.cells (u8s (cblkB bs y)).toArray 5 (0, 0)) → (w1.setCell ⟨w.heap.size, 0, none⟩ (.slice (some ⟨g', 0, none⟩) (pre.length + 1) cap')).heap[g]? = some (.cells (u8s (cblkB bs y)).toArray 5 (0, 0)) := fun g y hg => by
   have hlt := (Array.getElem?_eq_some_iff.1 hg).1
   have hA2 := (Below.heap_alloc W2 (.cells #[.slice (some ⟨W.heap.size, 0, none⟩) 64 64] 26) g hlt).trans hg
   refine (Below.heap_setCell _ _ _ g ?_).trans ((hgrow.block g zOm (cells_not_row hA2 zDc hrowA.out)).trans hA2)
   rintro rfl
   rw [show W2.heap[w.heap.size]? = _ from hv2] at hg
   simp at hg
  refine ⟨(hk1.trans hkC).from _, ⟨hb2'.trans hbC, hnb _ zOm zOm, hnb _ zOm zOm⟩, ⟨_, _, hvC, by rw [List.length_append]; exact hown'.kept (grownBy_setCell' w1 _ _) (.inr (hvB.not_row zDc hown').symm), by simp [hvl], ?_, ?_⟩, hB.trans (hb2'.trans hbC)⟩
  · intro u hu
    rcases List.mem_append.1 hu with h | h
    · exact hv1 u h
    · rw [List.mem_singleton.1 h]; rfl
  · intro j u y ha hb
    by_cases hj : j < pre.length
    · rw [List.getElem?_append_left zOm] at ha
      rw [List.getElem?_append_left hj] at hb
      obtain ⟨g, e1, e2⟩ := hvs2 j u y ha hb
      exact ⟨g, e1, hty g y e2⟩
    · have hj2 : j = pre.length := by
       have := (List.getElem?_eq_some_iff.1 hb).1
       simp at this
       omega
      subst hj2
      rw [List.getElem?_append_right zOm, hvl, Nat.sub_self] at ha
      rw [List.getElem?_append_right (Nat.le_refl _), Nat.sub_self] at hb
      cases ha
      cases hb
      exact ⟨_, rfl, hty _ _ hA⟩
 case done =>
  rintro D ys W hD rfl ⟨⟨v, vs, hv, hrow, hvl, hv1, hvs⟩, hB⟩ hK
  have hc := hv.cell
  have hKp : 1 ≤ piecesN L := by rw [piecesN]; omega
  obtain ⟨K1, hK1⟩ : ∃ K1, piecesN L = K1 + 1 := ⟨piecesN L - 1, by omega⟩
  have hle : (List.range (piecesN L)).length = K1 + 1 := by rw [List.length_range, hK1]
  rw [hle] at hrow hvl
  obtain ⟨g', cap', rfl⟩ := ownsRow_succ hrow
  gi_wp2
  refine ⟨by simp, .inl ⟨_, _, rfl, run_takeDeferred hK, ?_⟩⟩
  have hbl : cblksB bs = (List.range (piecesN L)).map (cblkB bs) := by rw [cblksB, if_neg h0, hLH.out]
  rw [hK1] at hbl hvs ⊢
  refine ⟨_, results_tmp2 rfl _ _ _, some ⟨g', 0, none⟩, cap', rfl, ?_, hB0.trans (hB.trans (belowK_b (w := WL) zOm W D _ _ hD hK rfl rfl))⟩
  refine ⟨vs, Sl.of_own (ownsRow_putObj hrow _ hK rfl), by rw [hbl, hvl, List.length_map, List.length_range], fun j u y ha hb => ?_⟩
  rw [hbl, List.getElem?_map] at hb
  obtain ⟨x, hx, rfl⟩ := Option.map_eq_some_iff.1 hb
  obtain ⟨g, rfl, e2⟩ := hvs j u x ha hx
  have hgD : g ≠ D := by
   rintro rfl
   rw [hK] at e2
   cases e2
  have e3 : (W.putObj D (.deferred none)).heap[g]? = some (.cells (u8s (cblkB bs x)).toArray 5 (0, 0)) := (World.putObj_heap_other hgD).trans e2
  exact Sl.ofArrN ⟨_, e3⟩ (cblkB_len _ _) zDc
 case stop =>
  rintro D c pre W _ _ h _
  exact h.elim
def nblk (L : Nat) : Nat := if L = 0 then 1 else piecesN L
theorem icut_nil (a : Option Addr) (c : Nat) (w : World) :
 Calls Tryz.prog 134 #[.slice a 0 c] w fun e w' => ∃ d c', e = .returned (.tuple #[.slice d 1 c', .int .i64 0]) ∧ Sls w' (.slice d 1 c') [List.replicate 64 0] ∧ Below w.heap.size w w' := by
 go_enter Tryz.func134, Tryz.ntmps134
 have hmk := show (Instr.makeSlice 26 (.int .i64 64) (.int .i64 64)).run Tryz.prog w = .ok (.slice (some ⟨w.heap.size, 0, none⟩) 64 64) (w.alloc (.cells (u8s (List.replicate 64 0)).toArray 5)) from make_u8c 64 zDc w
 have h0 : Sl (w.alloc (.cells (u8s (List.replicate 64 0)).toArray 5)) (.slice (some ⟨w.heap.size, 0, none⟩) 64 64) (u8s (List.replicate 64 0)) := Sl.ofArrN (Arr.new w _ _) (by simp) zDc
 obtain ⟨Z, hZ⟩ : ∃ Z, List.replicate 64 (0 : UInt8) = Z := ⟨_, rfl⟩
 rw [hZ] at hmk h0 ⊢
 have hb := below_alloc w (.cells (u8s Z).toArray 5)
 have hS := Sls.new1 h0 26
 rw [show (w.alloc (.cells (u8s Z).toArray 5)).heap.size = w.heap.size + 1 by simp] at hS
 replace hS := zH hS
 have hb2 := bel hb (below_alloc (w.alloc (.cells (u8s Z).toArray 5)) (.cells #[.slice (some ⟨w.heap.size, 0, none⟩) 64 64] 26))
 clear h0 hb hZ
 go_wp2_with fail
 go_ret2
 exact ⟨_, 1, rfl, hS.out, hb2⟩
theorem icut_all (a : Option Addr) (c : Nat) (bs : List UInt8) (hL : bs.length ≤ 2048) (w : World) (h : Sl w (.slice a bs.length c) (u8s bs)) :
 Calls Tryz.prog 134 #[.slice a bs.length c] w fun e w' => ∃ d c', e = .returned (.tuple #[.slice d (nblk bs.length) c', .int .i64 0]) ∧ Sls w' (.slice d (nblk bs.length) c') (cblksB bs) ∧ Below w.heap.size w w' := by
 by_cases h0 : bs = []
 · subst h0
   exact icut_nil a c w
 · rw [nblk, if_neg (fun h => h0 (List.length_eq_zero_iff.1 h))]
   exact icut_any a c bs h0 hL w h
end Go.Proofs.YtibdgkhkhmdihaaGreatDoor
