/- TopSigned: part 30 of its proof: lemmas and contracts, each with its conditions in its own statement; the last part holds the law itself. -/
import Derived.Laws.IdiomStrings
import Derived.Test.YtncnlfpiondpnaaGreatJt29

set_option maxHeartbeats 4000000
set_option maxRecDepth 100000
namespace Go.Proofs.YtncnlfpiondpnaaGreat
open Go.RowKit
def keyN (s : Nat) (name : List UInt8) : Nat := macN (nb 32 s) (name ++ [1])
theorem Sls.new3 {w : World} {v1 v2 v3 : Value} {b1 b2 b3 : List UInt8} (h1 : Sl w v1 (u8s b1)) (h2 : Sl w v2 (u8s b2)) (h3 : Sl w v3 (u8s b3)) (T : TypeId) : Sls (w.alloc (.cells #[v1, v2, v3] T)) (.slice (some ⟨w.heap.size, 0, none⟩) 3 3) [b1, b2, b3] := by
 refine ⟨[v1, v2, v3], ⟨_, 3, rfl, Nat.le_refl _, by decide, fun h => (by cases h), fun x hx => ?_⟩, rfl, ?_⟩
 · cases hx
   intro j u hu
   rw [Addr.add_lit, Nat.zero_add]
   exact (Arr.new w #[v1, v2, v3] T).cell hu
 · intro j a b' ha hb'
   match j with
   | 0 => simp only [List.getElem?_cons_zero, Option.some.injEq] at ha hb'; subst ha hb'; exact h1.alloc _
   | 1 => simp only [List.getElem?_cons_zero, List.getElem?_cons_succ, Option.some.injEq] at ha hb'; subst ha hb'; exact h2.alloc _
   | 2 => simp only [List.getElem?_cons_zero, List.getElem?_cons_succ, Option.some.injEq] at ha hb'; subst ha hb'; exact h3.alloc _
   | j + 3 => simp at ha
theorem own_range {w : World} {base : Nat} {e : TypeId} {v : Value} {n : Nat} {xs : List Value} (h : w.ownsRow base e 1 v n xs) (hn : 0 < n) : ∃ g cap, v = .slice (some ⟨g, 0, none⟩) n cap ∧ base ≤ g ∧ n ≤ cap ∧ cap ≤ maxLen ∧ w.rangeAt g 0 xs := by
 obtain ⟨h1, ⟨-, h2⟩ | ⟨g, cap, cur, rfl, hg, hh, h3, h4, h5, h6⟩⟩ := h
 · omega
 · refine ⟨g, cap, rfl, hg, h3, h4, fun j v hv => ?_⟩
   rw [cell_of_row w g _ _ _ _ hh]
   rw [← h6] at hv
   rw [List.getElem?_take] at hv
   split at hv
   · simpa using hv
   · cases hv
def ExJ (N : Nat) (ov lv iv : Value) (wr : World) : Prop :=
 (iv = .int .i64 1 ∧ ov = .slice none 0 0 ∧ lv = .slice none 0 0) ∨ (iv = .int .i64 2 ∧ ∃ g cap, ov = .slice (some ⟨g, 0, none⟩) 32 cap ∧ 32 ≤ cap ∧ cap ≤ maxLen ∧ wr.rangeAt g 0 (bytn 32 N))
theorem expand_any (s : Nat) (a : Option Addr) (cap : Nat) (info : List UInt8) (w : World) (hs : Sl w (.slice a info.length cap) (u8s info)) :
 Calls Tryz.prog 169 #[.agg (bytn 32 s).toArray, .slice a info.length cap, .int .i64 32] w fun e w' =>
  ∃ g, e = .returned (.tuple #[.slice (some ⟨g, 0, none⟩) 32 32, .int .i64 0]) ∧ w'.rangeAt g 0 (bytn 32 (keyN s info)) ∧ Below w.heap.size w w' := by
 obtain ⟨N, hN⟩ : ∃ N, keyN s info = N := ⟨_, rfl⟩
 have cm := zH (show ∀ w a2 d, Sl w (.slice a2 32 32) (u8s (nb 32 s)) → Sls w (.slice d 3 3) [[], info, [1]] → Calls Tryz.prog 170 #[.slice a2 32 32, .slice d 3 3] w fun e w' => e = .returned (.agg (bytn 32 N).toArray) ∧ Below w.heap.size w w' from fun w a2 d h1 h2 => by
  have q := macsum_any a2 d 32 3 (nb 32 s) [[], info, [1]] (by simp) w (by rw [nb_len]; exact h1) h2
  rw [nb_len, show ([[], info, [1]] : List (List UInt8)).flatten = info ++ [1] by simp] at q
  rw [← hN]
  exact q)
 rw [hN]
 obtain ⟨n0, hn0⟩ : ∃ n, info.length = n := ⟨_, rfl⟩
 rw [hn0] at hs ⊢
 replace hs := zH hs
 clear hN hn0
 go_enter Tryz.func169, Tryz.ntmps169
 go_upto_region 1 with fail
 refine wp_new1 (fun wA hsz k3 kb => ?_)
 replace k3 : Arr wA w.heap.size (bytn 32 s) := k3
 obtain ⟨g3, hg3⟩ : ∃ g, w.heap.size = g := ⟨_, rfl⟩
 rw [hg3] at k3 ⊢
 clear hsz hg3
 replace hs := zH (hs.out.below kb)
 have h0 : ExJ N (.slice none 0 0) (.slice none 0 0) (.int .i64 1) wA := .inl ⟨rfl, rfl, rfl⟩
 replace h0 := zH h0
 go_wp2_with fail
 go_loopw [8, 9, 10] (fun ov lv iv wr => ExJ N ov lv iv wr ∧ Arr wr g3 (bytn 32 s) ∧ Sl wr (.slice a n0 cap) (u8s info) ∧ Below w.heap.size w wr) (fun _ _ iv _ => (2 - intOf iv).toNat)
 case atStart => exact ⟨h0.out, k3, hs.out, kb⟩
 case round =>
 clear k3 hs kb h0
 obtain ⟨hJ, k3, hs, kb⟩ := hrel
 have hw0 := kb.size
 rcases hJ with ⟨rfl, rfl, rfl⟩ | ⟨rfl, g, cp, rfl, hc1, hc2, hrg⟩
 · rw [nb_u8s] at k3
   have h3 := Sl.ofArrN k3 (nb_len 32 s) zDc
   have hS : Sls ((wr.alloc (.cells #[.int .u8 1] 5)).alloc (.cells #[.slice none 0 0, .slice a n0 cap, .slice (some ⟨wr.heap.size, 0, none⟩) 1 1] 22)) (.slice (some ⟨wr.heap.size + 1, 0, none⟩) 3 3) [[], info, [1]] := by
    have q := Sls.new3 (b1 := []) (b3 := [1]) (Sl.nil _) (hs.alloc (.cells #[.int .u8 1] 5)) (Sl.new1 wr (.int .u8 1) 5) 22
    rw [show (wr.alloc (.cells #[.int .u8 1] 5)).heap.size = wr.heap.size + 1 by simp] at q
    exact q
   have hcc := zH (cm.out _ _ _ ((h3.alloc _).alloc _) hS)
   have hb0 : Below wr.heap.size wr ((wr.alloc (.cells #[.int .u8 1] 5)).alloc (.cells #[.slice none 0 0, .slice a n0 cap, .slice (some ⟨wr.heap.size, 0, none⟩) 1 1] 22)) := (below_alloc _ _).alloc (by simp) _
   replace hs := zH hs
   clear hS h3
   go_wp2_with fail
   refine hcc.out.mono ?_
   rintro e wB ⟨rfl, hb⟩
   have hb1 := bel hb0 hb
   rw [← nb_u8s] at k3
   replace k3 := k3.below hb1
   replace hs := zH (hs.out.below hb1)
   replace kb := bel kb hb1
   clear hb hb0 hb1 hcc cm
   go_upto_region 8 with (refine wpl_storeG rfl _ _ _ rfl _ (bytn 32 N) rfl rfl _ (Arr.new _ _ _) (by rw [bytn_len]; kernel_rfl) (by rw [bytn_len]; rfl) (bytn_one _ _) (fun wC k11 hg hsz => ?_))
   have hb := below_fresh hg
   replace k3 := k3.below hb
   replace hs := zH (hs.out.below hb)
   replace kb := bel kb hb
   have hsC : w.heap.size ≤ wC.heap.size := kb.size
   obtain ⟨g11, hg11⟩ : ∃ g, wB.heap.size = g := ⟨_, rfl⟩
   rw [hg11] at k11 ⊢
   clear hb hsz hg hg11
   obtain ⟨i, hi, hz0, hz1, hz2⟩ := info_parts info_u8
   have h11 : Hid (Sl wC (.slice (some ⟨g11, 0, none⟩) 32 32) (bytn 32 N)) := zH (by rw [nb_u8s] at k11 ⊢; exact Sl.ofArrN k11 (nb_len 32 N) zDc)
   have hone := zH (bytn_one 32 N)
   have hbl := zH (bytn_len 32 N)
   clear k11
   go_wp2_with (at_builtin; refine wpList_append_sl rfl _ _ 22 rfl wC.heap.size 5 Tryz.underlying22 hi hz0 hz1 hz2 rfl _ _ _ rfl (World.ownsRow_nil _ _ _ _) _ (bytn 32 N) rfl h11.out hone.out ?c2 ?c3 (Nat.le_refl _) (fun v' wD hown hg => ?_))
   case c2 => rw [hbl.out]; decide
   case c3 => rw [hbl.out]; decide
   rw [hbl.out] at hown
   obtain ⟨go, cpo, rfl, hgo, hco1, hco2, hro⟩ := own_range hown zDc
   have hbD : Below wC.heap.size wC wD := below_grown (Below.refl _ _) (World.ownsRow_nil _ _ 5 1) (Nat.le_refl _) hg
   replace k3 := k3.below hbD
   replace hs := hs.out.below hbD
   replace kb := bel kb hbD
   clear hown hg hbD h11
   go_wp2_with fail
   exact ⟨⟨.inr ⟨rfl, go, cpo, rfl, hco1, hco2, hro⟩, k3, hs, kb⟩, by simp [intOf]⟩
 · clear cm hs k3
   unfold maxLen at hc2
   replace hrg := zH hrg
   have hci : (32 : Int) ≤ (cp : Int) := by omega
   go_wp2_with fail
   go_ret2
   exact ⟨g, rfl, hrg.out, kb⟩
theorem conv_str (w : World) (str : ByteArray) (hl : str.size ≤ maxLen) : ∃ c w', (convert 9 22 (.string str)).run Tryz.prog w = .ok (.slice (some ⟨w.heap.size, 0, none⟩) str.size c) w' ∧
 Sl w' (.slice (some ⟨w.heap.size, 0, none⟩) str.size c) (u8s str.data.toList) ∧ Below w.heap.size w w' := by
 have hr := run_bytes_of_string (P := Tryz.prog) w 9 22 5 str Tryz.underlying9 Tryz.underlying22 Tryz.underlying5
 have h1 := grownCap_ge w str.size 0 5
 have h2 := grownCap_le_maxLen w str.size 0 5 hl
 obtain ⟨c, hc⟩ : ∃ c, grownCap w str.size 0 5 = c := ⟨_, rfl⟩
 rw [hc] at hr h1 h2
 have hsz : str.data.toList.length = str.size := by simp
 refine ⟨_, _, hr, ⟨_, c, by rw [u8s_len, hsz], by rw [u8s_len, hsz]; exact h1, h2, fun h => (by cases h), fun x hx => ?_⟩, (Below.refl _ _).drew.alloc (Nat.le_refl _) _⟩
 cases hx
 intro j u hu
 rw [Addr.add_lit, Nat.zero_add]
 have hj : j < str.size := by
  have := (List.getElem?_eq_some_iff.1 hu).1
  rwa [u8s_len, hsz] at this
 have e : (w.drew.alloc (.cells (bytesRow str c) 5 ((bytesRow str c).size, (bytesRow str c).size + 1))).heap[w.heap.size]? = some (.cells (bytesRow str c) 5 ((bytesRow str c).size, (bytesRow str c).size + 1)) := by
  show (w.heap.push _)[w.heap.size]? = _
  simp
 rw [cell_of_row _ _ _ _ _ _ e, ← hu]
 simp [bytesRow, u8s, Array.getElem?_append]
 intro h
 omega
theorem key_any (s : Nat) (str : ByteArray) (hsz : str.size ≤ maxLen) (w : World) :
 Calls Tryz.prog 114 #[.agg (bytn 32 s).toArray, .string str] w fun e w' => e = .returned (.agg (bytn 32 (keyN s str.data.toList)).toArray) ∧ Below w.heap.size w w' := by
 have ce := zH (expand_any s)
 obtain ⟨L, hL⟩ : ∃ L, str.data.toList = L := ⟨_, rfl⟩
 obtain ⟨n, hn⟩ : ∃ n, str.size = n := ⟨_, rfl⟩
 have hLn : Hid (L.length = n) := zH (by rw [← hL, ← hn]; simp)
 have cv := zH (fun w => conv_str w str hsz)
 rw [hL, hn] at cv
 rw [hL]
 clear hL hn hsz
 go_enter Tryz.func114, Tryz.ntmps114
 go_upto_region 1 with fail
 refine wp_new2 (fun wA hsz k2 k4 kb => ?_)
 replace k2 : Arr wA w.heap.size (bytn 32 s) := k2
 replace k4 : Arr wA (w.heap.size + 1) (bytn 32 0) := k4
 obtain ⟨c, wB, hr, hS, hb⟩ := cv.out wA
 have hcc := ce.out _ c L wB (by rw [hLn.out]; exact hS)
 rw [hLn.out] at hcc
 replace hcc := zH hcc
 obtain ⟨g4, hg4⟩ : ∃ g, w.heap.size + 1 = g := ⟨_, rfl⟩
 rw [hg4] at k4 ⊢
 have hw4 : w.heap.size ≤ g4 := by omega
 clear hS ce hsz hg4
 go_wp2_with (refine wpList_load_arr2 rfl _ _ rfl _ rfl zDk _ k2 (by rw [bytn_len]; kernel_rfl) ?_)
 replace k4 := k4.below hb
 replace kb := bel kb hb
 clear hr k2 hb cv
 refine hcc.out.mono ?_
 rintro e wC ⟨g, rfl, hrg, hb⟩
 replace k4 := k4.below hb
 replace kb := bel kb hb
 clear hcc hb
 have hat : ∀ w, (Instr.arrayAt 25 (.slice (some ⟨g, 0, none⟩) 32 32)).run Tryz.prog w = .ok (.pointer (some ⟨g, 0, none⟩)) w := fun w => run_arrayAt w 25 5 32 _ 32 32 Tryz.underlying25 zDc
 go_wp2_with (first | (refine wpList_load_mid2 rfl _ _ rfl _ _ rfl zKr _ hrg (by rw [bytn_len]; kernel_rfl) ?_) | (refine wpl_storeG rfl _ _ _ rfl g4 (bytn 32 (keyN s L)) rfl rfl _ k4 (by rw [bytn_len]; kernel_rfl) (by rw [bytn_len, bytn_len]) (bytn_one _ _) (fun w9 k4 hg hsz => ?_)))
 have qb := below_gr kb hg hw4 kb.size
 exact bodyPost_ret (results_arr2 Tryz.results114 _ _ _ rfl zKr _ k4 (by rw [bytn_len]; kernel_rfl)) rfl ⟨rfl, qb⟩
def SlA (w : World) (v : Value) (xs : List Value) : Prop := Sl w v xs
theorem SlA.below {w w' : World} {v : Value} {xs : List Value} (h : SlA w v xs) (hb : Below w.heap.size w w') : SlA w' v xs := Sl.below h hb
theorem SlA.lt {w : World} {v : Value} {xs : List Value} (_ : SlA w v xs) : 0 < 1 := by decide
def SlsA (w : World) (v : Value) (ls : List (List UInt8)) : Prop := Sls w v ls
theorem SlsA.below {w w' : World} {v : Value} {ls : List (List UInt8)} (h : SlsA w v ls) (hb : Below w.heap.size w w') : SlsA w' v ls := Sls.below h hb
theorem SlsA.lt {w : World} {v : Value} {ls : List (List UInt8)} (_ : SlsA w v ls) : 0 < 1 := by decide
def sgr (K : Nat) (L : List UInt8) : Nat := shab (sideL K ++ L) % qN
def sgR (K : Nat) (L : List UInt8) : Nat := encP (tmsP bP (sgr K L) 256)
def sgk (K : Nat) (L : List UInt8) : Nat := shab (nb 32 (sgR K L) ++ (nb 32 (pubN K) ++ L)) % qN
def sgS (K : Nat) (L : List UInt8) : Nat := (sgr K L + sgk K L * secN K % qN) % qN
theorem qN_lt32 : qN < 256 ^ 32 := by decide
theorem step_append_new {P : Program} {w : World} {ops : Array Oper} {o : Oper} {a : Act} {K : Act → World → Prop} {Q : Exit → Act → World → Prop} {E : Prop} (hgd : o.guard = none) (s x : Operand) (t : TypeId)
 (ho : o.op = .call { callee := .builtin .append, args := #[s, x], argTypes := #[t, t] })
 (e : TypeId) {i : TypeInfo} {z : Value} {bytes : Nat} (ht : P.underlying t = some (.slice e)) (hi : P.info? e = some i) (hz : i.zero = some z)
 (hsize : i.size = 1) (hby : i.bytes = bytes) (hzs : z.cells.size = 1) {d : Option Addr} {n cap : Nat} {xs : List Value} (hse : a.eval s = .slice d n cap) (hs : Sl w (.slice d n cap) xs) {vx : Value} {news : List Value} (hx : a.eval x = vx) (hsl : Sl w vx news)
 (hcap : cap < xs.length + news.length) (h1 : ∀ u ∈ news, u.oneCell' = true) (h63 : n + news.length ≤ maxLen) (hbytes : (n + news.length) * bytes ≤ 140737488355328)
 (h : ∀ v' w', w'.ownsRow w.heap.size e 1 v' (n + news.length) (xs ++ news) → Below w.heap.size w w' → K (a.put o.dst v') w') : if Region.wanted o (yielded ops a.tmps) = true then Oper.wp P o a w K Q else E := by
 rw [if_pos (by simp [Region.wanted, hgd])]
 obtain ⟨v', w', hr, h2, h3⟩ := run_append_new (P := P) t o.type e ht hi hz hsize hby hzs hs hsl hcap h1 h63 hbytes
 unfold Oper.wp execOp
 simp only [ho, resolve, invoke, builtin, Sem.run_bind, Sem.run_pure, Result.andThen_ok, List.map_toArray, List.map_cons, List.map_nil, hse, hx, hr]
 exact h v' w' h2 h3
theorem Sl.rng {w : World} {g n c : Nat} {xs : List Value} (h : Sl w (.slice (some ⟨g, 0, none⟩) n c) xs) : w.rangeAt g 0 xs := by
 obtain ⟨a, cap, he, h2, h3, h4, h5⟩ := h
 cases he
 intro j v hv
 have := h5 _ rfl j v hv
 rwa [Addr.add_lit] at this
theorem sgL_u8s (R s : Nat) : u8s (nb 32 R) ++ u8s (nb 32 s) = sgL R s := by rw [← byts_nb, ← byts_nb]; rfl
theorem sgL_one (R s : Nat) : ∀ v ∈ sgL R s, v.oneCell' = true := by
 intro v hv
 rcases List.mem_append.1 hv with h | h
 · exact byts_one _ v h
 · exact byts_one _ v h
theorem csign_any (K : Nat) (d : Option Addr) (n c : Nat) (ls : List (List UInt8)) (hl : ls.length ≤ 100000) (w : World) (hls : Sls w (.slice d n c) ls) :
 Calls Tryz.prog 8 #[.agg (byts K).toArray, .slice d n c] w fun e w' => e = .returned (.agg (sgL (sgR K ls.flatten) (sgS K ls.flatten)).toArray) ∧ Below w.heap.size w w' := by
 have cX := zH (fun w => csecret_any K w)
 have cP := zH (fun w => cpublic_any K w)
 have lS := secN_lt K
 have c1 := zH (fun w' d' (h : Sls w' (.slice d' 1 1) [sideL K]) (h2 : Sls w' (.slice d n c) ls) => show Calls Tryz.prog 34 #[.slice d n c, .slice d' 1 1] w' fun e w'' => e = .returned (.agg (byts (sgr K ls.flatten)).toArray) ∧ Below w'.heap.size w' w'' from csum2_any w' d' d 1 n c [sideL K] ls h h2 (by simp) hl)
 have c2 := zH (fun w' d' (h : Sls w' (.slice d' 2 2) [nb 32 (sgR K ls.flatten), nb 32 (pubN K)]) (h2 : Sls w' (.slice d n c) ls) => show Calls Tryz.prog 34 #[.slice d n c, .slice d' 2 2] w' fun e w'' => e = .returned (.agg (byts (sgk K ls.flatten)).toArray) ∧ Below w'.heap.size w' w'' from csum2_any w' d' d 2 n c [nb 32 (sgR K ls.flatten), nb 32 (pubN K)] ls h h2 (by simp) hl)
 have lr : sgr K ls.flatten < 256 ^ 32 := Nat.lt_trans (Nat.mod_lt _ zDc) qN_lt32
 have lk : sgk K ls.flatten < 256 ^ 32 := Nat.lt_trans (Nat.mod_lt _ zDc) qN_lt32
 have c0 := zH (fun w => pbase_any w)
 have c3 := zH (fun w => ptimes_any bP (sgr K ls.flatten) bP_ok lr w)
 have c4 := zH (fun w => show Calls Tryz.prog 37 #[.agg (tmsP bP (sgr K ls.flatten) 256).cs.toArray] w fun e w' => e = .returned (.agg (byts (sgR K ls.flatten)).toArray) ∧ Below w.heap.size w w' from pbytes_any (tmsP bP (sgr K ls.flatten) 256) (tmsP_ok _ _ _) w)
 have c5 := zH (fun w => scMul_any (sgk K ls.flatten) (secN K) lk lS w)
 have c6 := zH (fun w => show Calls Tryz.prog 38 #[.agg (byts (sgr K ls.flatten)).toArray, .agg (byts (sgk K ls.flatten * secN K % qN)).toArray] w fun e w' => e = .returned (.agg (byts (sgS K ls.flatten)).toArray) ∧ Below w.heap.size w w' from scAdd_any (sgr K ls.flatten) (sgk K ls.flatten * secN K % qN) lr (Nat.lt_trans (Nat.mod_lt _ zDc) qN_lt32) w)
 obtain ⟨m1, e1⟩ : ∃ x, sgk K ls.flatten * secN K % qN = x := ⟨_, rfl⟩
 obtain ⟨T, e2⟩ : ∃ x, tmsP bP (sgr K ls.flatten) 256 = x := ⟨_, rfl⟩
 obtain ⟨b0, e3⟩ : ∃ x, bP = x := ⟨_, rfl⟩
 rw [e1] at c5 c6
 rw [e2] at c3 c4
 rw [e3] at c0 c3
 obtain ⟨r, e4⟩ : ∃ x, sgr K ls.flatten = x := ⟨_, rfl⟩
 obtain ⟨R, e5⟩ : ∃ x, sgR K ls.flatten = x := ⟨_, rfl⟩
 obtain ⟨k, e6⟩ : ∃ x, sgk K ls.flatten = x := ⟨_, rfl⟩
 obtain ⟨s, e7⟩ : ∃ x, sgS K ls.flatten = x := ⟨_, rfl⟩
 obtain ⟨a, e8⟩ : ∃ x, secN K = x := ⟨_, rfl⟩
 obtain ⟨pk, e9⟩ : ∃ x, pubN K = x := ⟨_, rfl⟩
 obtain ⟨SD, e0⟩ : ∃ x, sideL K = x := ⟨_, rfl⟩
 rw [e4] at c1 c3 c6
 rw [e5, e9, e6] at c2
 rw [e5] at c4 ⊢
 rw [e6, e8] at c5
 rw [e7] at c6 ⊢
 rw [e9] at cP
 rw [e0] at c1
 simp only [e8, e0] at cX
 replace hls : SlsA w (.slice d n c) ls := hls
 clear e0 e1 e2 e3 e4 e5 e6 e7 e8 e9 lr lk lS hl
 go_enter Tryz.func8, Tryz.ntmps8
 go_upto_region 1 with fail
 refine wp_new2 (fun W hsz k2 k4 kb => ?_)
 replace k4 : Arr W (w.heap.size + 1) (sgL 0 0) := k4
 replace hls := zH hls
 clear hsz
 go_wp2_with (refine zLd ?_)
 refine (cX.out _).mono ?_
 rintro e w1 ⟨g, rfl, hsl, hb⟩
 have k6 : SlA w1 (.slice (some ⟨g, 32, none⟩) 32 32) (u8s SD) := hsl
 replace k2 := k2.below hb
 replace k4 := k4.below hb
 replace kb := bel kb hb
 clear hb hsl cX
 go_upto_region 2 with (first | (refine zLd ?_) | (refine zSt ?_))
 have hg_k5_k2 := k2.lt
 have hg_k5_k4 := k4.lt
 have hg_k5_k6 := k6.lt
 refine code_new (fun w_1 k5 hnew => ?_)
 have k2 := k2.below hnew
 have k4 := k4.below hnew
 have k6 := k6.below hnew
 have kb := bel kb hnew
 clear hnew
 generalize (w1).heap.size = g_k5 at k5 hg_k5_k2 hg_k5_k4 hg_k5_k6 ⊢
 go_wp2_with (first | (refine zLd ?_) | (refine zSt ?_))
 refine (cP.out _).mono ?_
 rintro e w_2 ⟨rfl, hb_2⟩
 have k2 := k2.below hb_2
 have k4 := k4.below hb_2
 have k6 := k6.below hb_2
 have k5 := k5.below hb_2
 have kb := bel kb hb_2
 clear hb_2
 go_upto_region 3 with (first | (refine zLd ?_) | (refine zSt ?_))
 have hg_k7_k2 := k2.lt
 have hg_k7_k4 := k4.lt
 have hg_k7_k6 := k6.lt
 have hg_k7_k5 := k5.lt
 refine code_new (fun w_3 k7 hnew => ?_)
 have k2 := k2.below hnew
 have k4 := k4.below hnew
 have k6 := k6.below hnew
 have k5 := k5.below hnew
 have kb := bel kb hnew
 clear hnew
 generalize (w_2).heap.size = g_k7 at k7 hg_k7_k2 hg_k7_k4 hg_k7_k6 hg_k7_k5 ⊢
 have kb6 := below_alloc (w_3) (.cells #[.slice (some ⟨g, 32, none⟩) 32 32] 22)
 have h6 := zH (Sls.new1 (show Sl (w_3) (.slice (some ⟨g, 32, none⟩) 32 32) (u8s SD) from k6) 22)
 have kl6 := hls.out.below (bel kb kb6)
 go_wp2_with fail
 refine (c1.out _ _ h6.out kl6).mono ?_
 rintro e w7 ⟨rfl, hb⟩
 clear kl6 h6
 replace hb := bel kb6 hb
 replace k2 := k2.below hb
 replace k4 := k4.below hb
 replace k5 := k5.below hb
 replace k7 := k7.below hb
 replace kb := bel kb hb
 clear hb kb6 c1 k6 cP
 go_upto_region 4 with (first | (refine zLd ?_) | (refine zSt ?_))
 have hg_k8_k2 := k2.lt
 have hg_k8_k4 := k4.lt
 have hg_k8_k5 := k5.lt
 have hg_k8_k7 := k7.lt
 refine code_new (fun w_4 k8 hnew => ?_)
 have k2 := k2.below hnew
 have k4 := k4.below hnew
 have k5 := k5.below hnew
 have k7 := k7.below hnew
 have kb := bel kb hnew
 clear hnew
 generalize (w7).heap.size = g_k8 at k8 hg_k8_k2 hg_k8_k4 hg_k8_k5 hg_k8_k7 ⊢
 go_upto_region 4 with (first | (refine zLd ?_) | (refine zSt ?_))
 refine Tx.start (fun w' => Below (w_4).heap.size (w_4) w') 5 6 rfl zKr ?_
 have hS_5 : Below (w_4).heap.size (w_4) (World.drew w_4) := (Below.refl _ _).drew
 refine Tx.seg (A := ?_) 5 2 zKr (by exact hS_5) [1] zKr ?_ ?_
 rotate_left
 · intro w' hB
   have e0 := k2.below hB
   have e1 := k4.below hB
   have e2 := k5.below hB
   have e3 := k7.below hB
   have e4 := k8.below hB
   exact zRd
 refine Tx.poolB 1 31 [(0, 23), (2, 25), (3, 26), (4, 9)] [(false, []), (false, [(0, 23)]), (false, [(2, 25)]), (false, [])] [(0, Ph.is (.agg b0.cs.toArray)), (2, Ph.is (.agg T.cs.toArray)), (3, Ph.is (.agg (byts R).toArray)), (4, Ph.arr (w_4).heap.size (byts 0))] zKr zKr (by first | assumption | exact (Below.refl _ _).drew) ?_ ?_
 · refine ⟨⟨_, rfl, ?_⟩, ⟨_, rfl, ?_⟩, ⟨_, rfl, ?_⟩, ⟨_, rfl, ?_⟩, trivial⟩
   · intro vs w1 hS hE hD K hK
     clear hD
     simp only [fillL, Act.put, zSa, zSz, zSs] at hK ⊢
     go_simp
     refine (c0.out _).mono ?_
     rintro e w2 ⟨rfl, hb2⟩
     exact hK _ _ rfl hb2 nofun
   · intro vs w1 hS hE hD K hK
     obtain ⟨q0, -⟩ := hD
     simp only [fillL, Act.put, zSa, zSz, zSs] at hK ⊢
     rw [show vs 0 = _ from q0] at hK ⊢
     clear q0
     go_simp
     refine (c3.out _).mono ?_
     rintro e w2 ⟨rfl, hb2⟩
     exact hK _ _ rfl hb2 nofun
   · intro vs w1 hS hE hD K hK
     obtain ⟨q2, -⟩ := hD
     simp only [fillL, Act.put, zSa, zSz, zSs] at hK ⊢
     rw [show vs 2 = _ from q2] at hK ⊢
     clear q2
     go_simp
     refine (c4.out _).mono ?_
     rintro e w2 ⟨rfl, hb2⟩
     exact hK _ _ rfl hb2 nofun
   · intro vs w1 hS hE hD K hK
     clear hD
     simp only [fillL, Act.put, zSa, zSz, zSs] at hK ⊢
     go_simp
     exact hK _ _ ⟨_, rfl, Nat.le_trans zLe hE.size, Arr.new _ _ _⟩ (below_alloc _ _) (fun _ => ⟨_, rfl, Nat.le_refl _⟩)
 intro vs w_p4_9080 hS_p4_9080 hE_p4_9080 hP hD
 obtain ⟨q0, q2, q3, q4, -⟩ := hP
 simp only [fillL, Act.put, zSa, zSz, zSs]
 rw [show vs 0 = _ from q0]
 clear q0
 rw [show vs 2 = _ from q2]
 clear q2
 rw [show vs 3 = _ from q3]
 clear q3
 obtain ⟨g4, e4, hg4, ha4⟩ := q4
 rw [e4]
 clear e4 hD vs
 have lt_k9_k2 := Nat.lt_of_lt_of_le k2.lt hg4
 have lt_k9_k4 := Nat.lt_of_lt_of_le k4.lt hg4
 have lt_k9_k5 := Nat.lt_of_lt_of_le k5.lt hg4
 have lt_k9_k7 := Nat.lt_of_lt_of_le k7.lt hg4
 have lt_k9_k8 := Nat.lt_of_lt_of_le k8.lt hg4
 have k2 := k2.below hS_p4_9080
 have k4 := k4.below hS_p4_9080
 have k5 := k5.below hS_p4_9080
 have k7 := k7.below hS_p4_9080
 have k8 := k8.below hS_p4_9080
 have kb := bel kb hS_p4_9080
 refine Tx.bar 63 rfl zDk (fun K hK => ?_)
 refine step_store_arr rfl _ _ _ rfl _ _ rfl rfl _ zAm zLn zLm zOn ?_
 refine hK (fun _ => True) 9999 _ _ ?_
 clear hK K
 try simp only [Act.put]
 try simp only [zSa, zSz, zSs]
 refine Tx.done zKr ?_
 refine then_row ha4 (fun w_6 ha4 hoth hbel => ?_)
 have k2 := hoth _ _ zOm k2
 have k4 := hoth _ _ zOm k4
 have k5 := hoth _ _ zOm k5
 have k7 := hoth _ _ zOm k7
 have k8 := hoth _ _ zOm k8
 have kb := hbel _ _ zOm kb
 clear hoth hbel
 have k9 := ha4
 clear ha4
 generalize g4 = g_k9 at *
 clear c0 c3 c4
 have sR := zH (show Sl w_6 (.slice (some ⟨g_k9, 0, none⟩) 32 32) (u8s (nb 32 R)) from Sl.ofArrN (by rw [← byts_nb]; exact k9) (nb_len _ _) zDc)
 have sK := zH (show Sl w_6 (.slice (some ⟨g_k7, 0, none⟩) 32 32) (u8s (nb 32 pk)) from Sl.ofArrN (by rw [← byts_nb]; exact k7) (nb_len _ _) zDc)
 have kl2 := zH (hls.out.below kb)
 have cS := zH (fun d' (w' : World) (hb : Below (w_6).heap.size w_6 w') (h : Sls w' (.slice d' 2 2) [nb 32 R, nb 32 pk]) => c2.out w' d' h (kl2.out.below hb))
 go_upto_region 5 with fail
 refine Tx.start (fun w' => Below (w_6).heap.size (w_6) w') 6 7 rfl zKr ?_
 have hS_7 : Below (w_6).heap.size (w_6) (World.drew w_6) := (Below.refl _ _).drew
 refine Tx.seg2 (A := ?_) 4 7 zKr (by exact hS_7) [0, 1, 2] zKr ?_ ?_
 rotate_left
 · intro w' hB
   exact zRd
 refine Tx.poolB 1 63 [(3, 30), (4, 31), (5, 10)] [(false, []), (false, [(3, 30)]), (false, [])] [(3, Ph.sls 2 [nb 32 R, nb 32 pk]), (4, Ph.is (.agg (byts k).toArray)), (5, Ph.arr (w_6).heap.size (byts 0))] zKr zKr (by first | assumption | exact (Below.refl _ _).drew) ?_ ?_
 · refine ⟨⟨_, rfl, ?_⟩, ⟨_, rfl, ?_⟩, ⟨_, rfl, ?_⟩, trivial⟩
   · intro vs w1 hS hE hD K hK
     clear hD
     simp only [fillL, Act.put, zSa, zSz, zSs] at hK ⊢
     go_simp
     exact hK _ _ ⟨_, rfl, Sls.new2 (sR.out.below hS) (sK.out.below hS) _⟩ (below_alloc _ _) nofun
   · intro vs w1 hS hE hD K hK
     obtain ⟨q3, -⟩ := hD
     simp only [fillL, Act.put, zSa, zSz, zSs] at hK ⊢
     obtain ⟨d3, e3, hs3⟩ := q3
     rw [e3] at hK ⊢
     rw [show vs _ = _ from e3] at hs3
     clear e3
     go_simp
     refine (cS.out _ _ hS hs3).mono ?_
     rintro e w2 ⟨rfl, hb2⟩
     exact hK _ _ rfl hb2 nofun
   · intro vs w1 hS hE hD K hK
     clear hD
     simp only [fillL, Act.put, zSa, zSz, zSs] at hK ⊢
     go_simp
     exact hK _ _ ⟨_, rfl, Nat.le_trans zLe hE.size, Arr.new _ _ _⟩ (below_alloc _ _) (fun _ => ⟨_, rfl, Nat.le_refl _⟩)
 intro vs w_p5 hS_p5 hE_p5 hP hD
 obtain ⟨q3, q4, q5, -⟩ := hP
 simp only [fillL, Act.put, zSa, zSz, zSs]
 obtain ⟨d3, e3, hs3⟩ := q3
 rw [e3]
 rw [show vs _ = _ from e3] at hs3
 clear e3
 rw [show vs 4 = _ from q4]
 clear q4
 obtain ⟨g5, e5, hg5, ha5⟩ := q5
 rw [e5]
 clear e5 hD vs
 have lt_2 := Nat.lt_of_lt_of_le k2.lt hg5
 have lt_4 := Nat.lt_of_lt_of_le k4.lt hg5
 have lt_5 := Nat.lt_of_lt_of_le k5.lt hg5
 have lt_8 := Nat.lt_of_lt_of_le k8.lt hg5
 have lt_9 := Nat.lt_of_lt_of_le k9.lt hg5
 clear hs3
 have k2 := k2.below hS_p5
 have k4 := k4.below hS_p5
 have k5 := k5.below hS_p5
 have k8 := k8.below hS_p5
 have k9 := k9.below hS_p5
 have kb := bel kb hS_p5
 refine Tx.bar 127 rfl zDk (fun K hK => ?_)
 refine step_store_arr rfl _ _ _ rfl _ _ rfl rfl _ zAm zLn zLm zOn ?_
 refine hK (fun _ => True) 9999 _ _ ?_
 clear hK K
 try simp only [Act.put]
 try simp only [zSa, zSz, zSs]
 refine Tx.done zKr ?_
 first | refine then_row ha5 (fun w_8 ha5 hoth hbel => ?_) | refine inb_row ha5 (fun w_8 ha5 hoth hbel => ?_)
 have k2 := hoth _ _ zOm k2
 have k4 := hoth _ _ zOm k4
 have k5 := hoth _ _ zOm k5
 have k8 := hoth _ _ zOm k8
 have k9 := hoth _ _ zOm k9
 have kb := hbel _ _ zOm kb
 clear hoth hbel
 have k10 := ha5
 clear ha5
 generalize g5 = g_k10 at *
 clear cS sR sK
 go_upto_region 6 with (first | (refine zLd ?_) | (refine zSt ?_))
 refine Tx.start (fun w' => Below (w_8).heap.size (w_8) w') 6 7 rfl zKr ?_
 have hS_9 : Below (w_8).heap.size (w_8) (World.drew w_8) := (Below.refl _ _).drew
 refine Tx.seg (A := ?_) 4 7 zKr (by exact hS_9) [0, 1, 2] zKr ?_ ?_
 rotate_left
 · intro w' hB
   have e0 := k2.below hB
   have e1 := k4.below hB
   have e2 := k5.below hB
   have e3 := k8.below hB
   have e4 := k9.below hB
   have e5 := k10.below hB
   exact zRd
 refine Tx.poolB 1 63 [(3, 35), (4, 36), (5, 11)] [(false, []), (false, [(3, 35)]), (false, [])] [(3, Ph.is (.agg (byts m1).toArray)), (4, Ph.is (.agg (byts s).toArray)), (5, Ph.arr (w_8).heap.size (byts 0))] zKr zKr (by first | assumption | exact (Below.refl _ _).drew) ?_ ?_
 · refine ⟨⟨_, rfl, ?_⟩, ⟨_, rfl, ?_⟩, ⟨_, rfl, ?_⟩, trivial⟩
   · intro vs w1 hS hE hD K hK
     clear hD
     simp only [fillL, Act.put, zSa, zSz, zSs] at hK ⊢
     go_simp
     refine (c5.out _).mono ?_
     rintro e w2 ⟨rfl, hb2⟩
     exact hK _ _ rfl hb2 nofun
   · intro vs w1 hS hE hD K hK
     obtain ⟨q3, -⟩ := hD
     simp only [fillL, Act.put, zSa, zSz, zSs] at hK ⊢
     rw [show vs 3 = _ from q3] at hK ⊢
     clear q3
     go_simp
     refine (c6.out _).mono ?_
     rintro e w2 ⟨rfl, hb2⟩
     exact hK _ _ rfl hb2 nofun
   · intro vs w1 hS hE hD K hK
     clear hD
     simp only [fillL, Act.put, zSa, zSz, zSs] at hK ⊢
     go_simp
     exact hK _ _ ⟨_, rfl, Nat.le_trans zLe hE.size, Arr.new _ _ _⟩ (below_alloc _ _) (fun _ => ⟨_, rfl, Nat.le_refl _⟩)
 intro vs w_p6_1266 hS_p6_1266 hE_p6_1266 hP hD
 obtain ⟨q3, q4, q5, -⟩ := hP
 simp only [fillL, Act.put, zSa, zSz, zSs]
 rw [show vs 3 = _ from q3]
 clear q3
 rw [show vs 4 = _ from q4]
 clear q4
 obtain ⟨g5, e5, hg5, ha5⟩ := q5
 rw [e5]
 clear e5 hD vs
 have lt_k11_k2 := Nat.lt_of_lt_of_le k2.lt hg5
 have lt_k11_k4 := Nat.lt_of_lt_of_le k4.lt hg5
 have lt_k11_k5 := Nat.lt_of_lt_of_le k5.lt hg5
 have lt_k11_k8 := Nat.lt_of_lt_of_le k8.lt hg5
 have lt_k11_k9 := Nat.lt_of_lt_of_le k9.lt hg5
 have lt_k11_k10 := Nat.lt_of_lt_of_le k10.lt hg5
 have k2 := k2.below hS_p6_1266
 have k4 := k4.below hS_p6_1266
 have k5 := k5.below hS_p6_1266
 have k8 := k8.below hS_p6_1266
 have k9 := k9.below hS_p6_1266
 have k10 := k10.below hS_p6_1266
 have kb := bel kb hS_p6_1266
 refine Tx.bar 127 rfl zDk (fun K hK => ?_)
 refine step_store_arr rfl _ _ _ rfl _ _ rfl rfl _ zAm zLn zLm zOn ?_
 refine hK (fun _ => True) 9999 _ _ ?_
 clear hK K
 try simp only [Act.put]
 try simp only [zSa, zSz, zSs]
 refine Tx.done zKr ?_
 refine then_row ha5 (fun w_10 ha5 hoth hbel => ?_)
 have k2 := hoth _ _ zOm k2
 have k4 := hoth _ _ zOm k4
 have k5 := hoth _ _ zOm k5
 have k8 := hoth _ _ zOm k8
 have k9 := hoth _ _ zOm k9
 have k10 := hoth _ _ zOm k10
 have kb := hbel _ _ zOm kb
 clear hoth hbel
 have k11 := ha5
 clear ha5
 generalize g5 = g_k11 at *
 clear c5 c6
 have sR := zH (show Sl w_10 (.slice (some ⟨g_k9, 0, none⟩) 32 32) (u8s (nb 32 R)) from Sl.ofArrN (by rw [← byts_nb]; exact k9) (nb_len _ _) zDc)
 have sS := zH (show Sl w_10 (.slice (some ⟨g_k11, 0, none⟩) 32 32) (u8s (nb 32 s)) from Sl.ofArrN (by rw [← byts_nb]; exact k11) (nb_len _ _) zDc)
 obtain ⟨i, hi, hz0, hz1, hz2⟩ := info_parts info_u8
 have hat2 : ∀ w o c, (Instr.arrayAt 34 (.slice (some ⟨o, 0, none⟩) 64 c)).run Tryz.prog w = .ok (.pointer (some ⟨o, 0, none⟩)) w := fun w o c => run_arrayAt w 34 5 64 _ 64 c Tryz.underlying34 zDc
 clear k9 k11 k2 k5 k8 k10
 go_upto_region 7 with fail
 refine Tx.start (fun w' => Below (w_10).heap.size (w_10) w') 5 6 rfl zKr ?_
 have hS_11 : Below (w_10).heap.size (w_10) (World.drew w_10) := (Below.refl _ _).drew
 refine Tx.seg (A := ?_) 4 3 zKr (by exact hS_11) [0, 1] zKr ?_ ?_
 rotate_left
 · intro w' hB
   exact zRd
 refine Tx.eff 2 7 rfl zDk (fun K hK => ?_)
 refine step_append_new rfl _ _ 22 rfl 5 Tryz.underlying22 hi hz0 hz1 hz2 rfl rfl (sR.out.below (hS_11)) rfl (sS.out.below (hS_11)) ?c1 (u8s_one _) ?c2 ?c3 ?_
 case c1 => rw [u8s_len, u8s_len, nb_len, nb_len]; decide
 case c2 => rw [u8s_len, nb_len]; decide
 case c3 => rw [u8s_len, nb_len]; decide
 intro v3 w12 hown hb12
 rw [u8s_len, nb_len, sgL_u8s] at hown
 obtain ⟨g12, c12, rfl, -⟩ := own_range hown zDc
 have hsl := Sl.of_own hown
 have hS_12 : Below (w_10).heap.size w_10 w12 := ext_trans hS_11 (Nat.le_refl _) hb12
 refine hK (fun w' => Below w12.heap.size w12 w') _ _ hS_12 (fun _ h => bel hS_12 h) ?_
 clear hK K
 replace k4 := k4.below hS_12
 try simp only [Act.put, zSa, zSz, zSs]
 refine Tx.seg (A := ?_) 1 31 zKr (by exact (Below.refl _ _)) [3, 4] zKr ?_ ?_
 rotate_left
 · intro w' hB
   have y12 := (hsl.below hB).rng
   exact zRm
 refine Tx.bar 63 rfl zDk (fun K hK => ?_)
 refine step_store_arr rfl _ _ _ rfl _ _ rfl rfl _ zAm zLn zLm zOn ?_
 refine hK (fun _ => True) 9999 _ _ ?_
 clear hK K
 try simp only [Act.put]
 try simp only [zSa, zSz, zSs]
 refine Tx.done zKr ?_
 replace kb := bel kb hS_12
 refine then_row k4 (fun w_12 k4 hoth hbel => ?_)
 have kb := hbel _ _ zOm kb
 clear hoth hbel
 go_wp2_with fail
 exact bodyPost_ret (results_arr2 Tryz.results8 _ _ _ rfl zKr _ (by first | assumption | exact Arr.setRow zAm _) zLn) rfl ⟨rfl, kb⟩
theorem cmay_any (i : Int) (w : World) : Calls Tryz.prog 61 #[.int .i64 i] w fun e w' => e = .returned (.bool (decide (0 ≤ i) && decide (i ≤ 2147483647))) ∧ Below w.heap.size w w' := by
 obtain ⟨V, hV⟩ : ∃ V, (decide (0 ≤ i) && decide (i ≤ 2147483647)) = V := ⟨_, rfl⟩
 rw [hV]
 replace hV := zH hV
 by_cases h : 0 ≤ i
 · have d0 : decide (0 ≤ i) = true := decide_eq_true h
   by_cases h2 : i ≤ 2147483647
   · have hv : Hid (V = true) := zH (by rw [← hV.out, d0, decide_eq_true h2]; rfl)
     go_enter Tryz.func61, Tryz.ntmps61
     go_wp2_with fail
     go_ret
     exact ⟨by rw [hv.out]; rfl, Below.refl _ _⟩
   · have hv : Hid (V = false) := zH (by rw [← hV.out, d0, decide_eq_false h2]; rfl)
     go_enter Tryz.func61, Tryz.ntmps61
     go_wp2_with fail
     go_ret
     exact ⟨by rw [hv.out]; rfl, Below.refl _ _⟩
 · have hv : Hid (V = false) := zH (by rw [← hV.out, decide_eq_false h]; rfl)
   go_enter Tryz.func61, Tryz.ntmps61
   go_wp2_with fail
   go_ret
   exact ⟨by rw [hv.out]; rfl, Below.refl _ _⟩
theorem cbody_any (str : ByteArray) (hsz : str.size ≤ 1000) (i : Int) (w : World) :
 Calls Tryz.prog 63 #[.string str, .int .i64 i] w fun e w' => ∃ g c, e = .returned (.slice (some ⟨g, 0, none⟩) (str.size + 8) c) ∧ Sl w' (.slice (some ⟨g, 0, none⟩) (str.size + 8) c) (u8s (str.data.toList ++ be8s [i])) ∧ Below w.heap.size w w' := by
 have cv := zH (fun w => conv_str w str (by unfold maxLen; omega))
 have hL : Hid (str.data.toList.length = str.size) := zH (by simp)
 obtain ⟨L, hLe⟩ : ∃ L, str.data.toList = L := ⟨_, rfl⟩
 obtain ⟨n, hn⟩ : ∃ n, str.size = n := ⟨_, rfl⟩
 rw [hLe, hn] at cv hL
 rw [hLe, hn]
 rw [hn] at hsz
 clear hLe hn
 go_enter Tryz.func63, Tryz.ntmps63
 obtain ⟨c, wB, hr, hS, hb⟩ := cv.out w
 have hS2 := zH hS
 clear hS cv
 go_wp2_with fail
 refine (packInt_any _ _ L [i] _ (hS2.out.alloc _) (Sl.new1 wB (.int .i64 i) 3) (by rw [hL.out]; simp; omega)).mono ?_
 rintro e w1 ⟨v, rfl, hown, hb1⟩
 have kb := bel (bel hb (below_alloc wB _)) hb1
 have hlen : (L ++ be8s [i]).length = n + 8 := by rw [List.length_append, hL.out]; rfl
 rw [hlen] at hown
 obtain ⟨g, cap, rfl, -, -, -, -⟩ := own_range hown zOm
 have hsl := zH (Sl.of_own hown)
 clear hown hlen hb1 hr
 go_wp2_with fail
 go_ret
 exact ⟨g, cap, rfl, hsl.out, kb⟩
def mayI (i : Int) : Bool := decide (0 ≤ i) && decide (i ≤ 2147483647)
def pcct : List UInt8 := [80, 67, 67, 84]
def crtL (i : Int) (k R s : Nat) : List Value := .int .i64 i :: (byts k ++ sgL R s)
end Go.Proofs.YtncnlfpiondpnaaGreat
