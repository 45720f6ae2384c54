/- PortcullisWrong: part 23 of its proof: lemmas and contracts, each with its conditions in its own statement; the last part holds the law itself. -/
import Derived.Test.YtibdgkhkhmdihaaGreatDoorJe22
import Derived.Lib.SlBytesConst

set_option maxHeartbeats 4000000
set_option maxRecDepth 100000
namespace Go.Proofs.YtibdgkhkhmdihaaGreatDoor
open Go.RowKit
theorem own_ne {W : World} {b1 b2 n1 n2 s1 s2 : Nat} {t e : TypeId} (hte : t ≠ e) {x u : Value} {xs us : List Value} (hx : W.ownsRow b1 t s1 x n1 xs) (hu : W.ownsRow b2 e s2 u n2 us) : x.ownBlock = none ∨ x.ownBlock ≠ u.ownBlock := by
 rcases hx.2 with ⟨rfl, _⟩ | ⟨g, cap, cur, rfl, _, hg, _⟩
 · exact .inl rfl
 · exact .inr (fun e' => cells_not_row hg hte hu e')
def encB (K : Nat) (v : Int) (bs : List UInt8) : List (List UInt8) := (List.range (nblk bs.length)).map (fun (i : Nat) => isealB K v i (cblkB bs i))
theorem cblksB_get (bs : List UInt8) : (cblksB bs).length = nblk bs.length ∧ ∀ (i : Nat) (l : List UInt8), (cblksB bs)[i]? = some l → l = cblkB bs i ∧ l.length = 64 := by
 by_cases h0 : bs = []
 · subst h0
   refine ⟨rfl, fun i l h => ?_⟩
   match i, h with
   | 0, h =>
    cases h
    exact ⟨rfl, rfl⟩
   | i + 1, h => simp [cblksB] at h
 rw [cblksB, if_neg h0, nblk, if_neg (fun h => h0 (List.length_eq_zero_iff.1 h))]
 refine ⟨by simp, fun i l h => ?_⟩
 rw [List.getElem?_map] at h
 obtain ⟨x, hx, rfl⟩ := Option.map_eq_some_iff.1 h
 obtain ⟨h1, h2⟩ := List.getElem?_eq_some_iff.1 hx
 rw [List.getElem_range] at h2
 subst h2
 exact ⟨rfl, cblkB_len _ _⟩
theorem imake_any (K : Nat) (v : Int) (a : Option Addr) (c : Nat) (bs : List UInt8) (hL : bs.length ≤ 2048) (hv : 0 ≤ v) (hv2 : v ≤ 2147483647) (w : World) (h : Sl w (.slice a bs.length c) (u8s bs)) :
 Calls Tryz.prog 80 #[.agg (bytn 32 K).toArray, .int .i64 v, .slice a bs.length c] w fun e w' => ∃ d c', e = .returned (.tuple #[.slice d (nblk bs.length) c', .int .i64 0]) ∧ Sls w' (.slice d (nblk bs.length) c') (encB K v bs) ∧ Below w.heap.size w w' := by
 have cC := zH (fun w h => icut_all a c bs hL w h)
 obtain ⟨hls, hlg⟩ := cblksB_get bs
 have hn32 : nblk bs.length ≤ 32 := by rw [nblk, piecesN]; split <;> omega
 have hn1 : 1 ≤ nblk bs.length := by rw [nblk, piecesN]; split <;> omega
 have hmay : ∀ i : Nat, i < 32 → mayB2 v (i : Int) = true := fun i hi => by simp [mayB2, hv, hv2]; omega
 have cS := zH (fun (i : Nat) (hi : i < 32) a c (l : List UInt8) (hl : l.length = 64) w h => iseal_own K v (i : Int) a c l hl (hmay i hi) w h)
 have hE : Hid (encB K v bs = (List.range (nblk bs.length)).map (fun (i : Nat) => isealB K v i (cblkB bs i))) := zH rfl
 obtain ⟨E, hEe⟩ : ∃ E, encB K v bs = E := ⟨_, rfl⟩
 rw [hEe] at hE ⊢
 obtain ⟨n, hn⟩ : ∃ n, nblk bs.length = n := ⟨_, rfl⟩
 rw [hn] at cC hls hn32 hn1 hE ⊢
 obtain ⟨L, hLe⟩ : ∃ L, bs.length = L := ⟨_, rfl⟩
 rw [hLe] at cC h ⊢
 replace h := zH h
 replace hlg := zH hlg
 replace hls := zH hls
 obtain ⟨ls, hlse⟩ : ∃ ls, cblksB bs = ls := ⟨_, rfl⟩
 rw [hlse] at cC hlg hls
 obtain ⟨i0, hi, hz0, hz1, hz2⟩ := info_parts info_sl
 clear hmay hv hv2 hLe hn hEe hlse hL
 go_enter Tryz.func80, Tryz.ntmps80
 go_upto_region 1 with fail
 refine wp_new1 (fun W hsz k3 kb => ?_)
 replace k3 : Arr W w.heap.size (bytn 32 K) := k3
 clear hsz
 go_wp2_with fail
 refine (cC.out _ (h.out.below kb)).mono ?_
 rintro e w1 ⟨d, c', rfl, hS, hb⟩
 replace k3 := k3.below hb
 replace kb := bel kb hb
 obtain ⟨bb, oo, x0, cx0, rfl, -, -⟩ := hS.at (j := 0) (by rw [hls.out]; omega)
 clear hb cC h
 replace hS := zH hS
 replace k3 := zH k3
 have hNw : w.heap.size < w1.heap.size := k3.out.lt
 go_wp2_with fail
 go_loopw [10, 25] (fun ov iv wr => ∃ (i : Nat) (us : List Value), i ≤ n ∧ iv = .int .i64 (i : Int) ∧ wr.ownsRow w1.heap.size 26 1 ov i us ∧ us.length = i ∧ (∀ x ∈ us, x.oneCell' = true) ∧
  (∀ (j : Nat) (x : Value), us[j]? = some x → wr.ownsRow w.heap.size 5 1 x 80 (u8s (isealB K v j (cblkB bs j)))) ∧ Below w1.heap.size w1 wr) (fun _ iv _ => n - (intOf iv).toNat)
 case atStart => exact ⟨0, [], by omega, rfl, World.ownsRow_nil _ _ _ _, rfl, (fun x hx => by cases hx), (fun j x hj => by cases hj), Below.refl _ _⟩
 case round =>
 obtain ⟨i, us, hin, rfl, hown, hul, hu1, hux, hB⟩ := hrel
 by_cases hlt : i < n
 · have i0' : (0 : Int) ≤ (i : Int) := by omega
   have i1' : (i : Int) < (n : Int) := by omega
   obtain ⟨b', o', x', cx, hE2, hcell, hLs⟩ := (hS.out.below hB).at (j := i) (by rw [hls.out]; exact hlt)
   cases hE2
   have hq := hlg.out i _ (List.getElem?_eq_getElem (by rw [hls.out]; exact hlt))
   obtain ⟨l, hl⟩ : ∃ l, ls[i]'(by rw [hls.out]; exact hlt) = l := ⟨_, rfl⟩
   rw [hl] at hcell hLs hq
   obtain ⟨rfl, hq2⟩ := hq
   rw [hq2] at hcell hLs
   replace hLs := zH hLs
   have k3r := k3.out.below hB
   have cSi := zH (cS.out i zOm x' cx _ hq2 wr hLs.out)
   obtain ⟨Y, hY⟩ : ∃ Y, isealB K v (i : Int) (cblkB bs i) = Y := ⟨_, rfl⟩
   rw [hY] at cSi
   replace hY := zH hY
   have hlH := zH hlt
   clear hl hq2 hlt
   go_wp2_with (refine zLd ?_)
   refine cSi.out.mono ?_
   rintro e w2 ⟨x, rfl, hx, hb⟩
   obtain ⟨gx, cxx, rfl, -⟩ := own_range hx zDc
   have hwr := hB.size
   have hown2 := own_below hown hb
   have hux2 : ∀ (j : Nat) (x : Value), us[j]? = some x → w2.ownsRow w.heap.size 5 1 x 80 (u8s (isealB K v j (cblkB bs j))) := fun j y hj => own_below (hux j y hj) hb
   have hB2 := bel hB hb
   clear hown hux hB hcell hLs k3r cSi hb
   have q1 : i + 1 ≤ maxLen := by unfold maxLen; omega
   have q2 : (i + 1) * 24 ≤ 140737488355328 := by omega
   have hownA := zH (hown2.alloc (.cells #[.slice (some ⟨gx, 0, none⟩) 80 cxx] 26))
   have hal : (w2.alloc (.cells #[.slice (some ⟨gx, 0, none⟩) 80 cxx] 26)).heap.size = w2.heap.size + 1 := by simp
   have q3 : w1.heap.size ≤ (w2.alloc (.cells #[.slice (some ⟨gx, 0, none⟩) 80 cxx] 26)).heap.size := by have := hB2.size; omega
   have hxH := zH (own_mono hx (Nat.le_trans (Nat.le_of_lt hNw) hwr))
   have hBH := zH (hB2.alloc hB2.size (.cells #[.slice (some ⟨gx, 0, none⟩) 80 cxx] 26))
   replace q1 := zH q1
   replace q2 := zH q2
   replace q3 := zH q3
   clear hal hown2 hx hwr hB2
   go_wp2_with (at_builtin; refine wpList_append_sl rfl _ _ 38 rfl w1.heap.size 26 Tryz.underlying38 hi hz0 hz1 hz2 rfl _ i us rfl hownA.out _ [.slice (some ⟨gx, 0, none⟩) 80 cxx] rfl (Sl.new1 w2 _ _) (fun y hy => by rw [List.mem_singleton.1 hy]; rfl) q1.out q2.out q3.out ?_)
   intro ov' w3 hown3 hg3
   have hB3 := hBH.out.grown hg3 q3.out (own_block hownA.out)
   have hux3 : ∀ (j : Nat) (y : Value), (us ++ [.slice (some ⟨gx, 0, none⟩) 80 cxx])[j]? = some y → w3.ownsRow w.heap.size 5 1 y 80 (u8s (isealB K v j (cblkB bs j))) := fun j y hj => by
    by_cases hji : j < i
    · rw [List.getElem?_append_left zOm] at hj
      have h4 := (hux2 j y hj).alloc (.cells #[.slice (some ⟨gx, 0, none⟩) 80 cxx] 26)
      exact h4.kept hg3 (own_ne zDc h4 hownA.out)
    · have hjl : j = i := by
       have := (List.getElem?_eq_some_iff.1 hj).1
       simp at this
       omega
      subst hjl
      rw [List.getElem?_append_right zOm, hul, Nat.sub_self] at hj
      cases hj
      have h4 := hxH.out.alloc (.cells #[.slice (some ⟨gx, 0, none⟩) 80 cxx] 26)
      have h5 := h4.kept hg3 (own_ne zDc h4 hownA.out)
      rwa [← hY.out] at h5
   replace hown3 := zH hown3
   replace hB3 := zH hB3
   replace hux3 := zH hux3
   clear hux2 hg3 hownA hxH hBH q1 q2 q3
   go_wp2_with fail
   exact ⟨⟨i + 1, _, hlH.out, by simp, hown3.out, by simp [hul], (fun y hy => by
    rcases List.mem_append.1 hy with h | h
    · exact hu1 y h
    · rw [List.mem_singleton.1 h]; rfl), hux3.out, hB3.out⟩, by have := hlH.out; simp [intOf]; omega⟩
 · have hie : i = n := by omega
   subst hie
   have i1' : ¬ (i : Int) < (i : Int) := by omega
   obtain ⟨i', hi'⟩ : ∃ i', i = i' + 1 := ⟨i - 1, by omega⟩
   obtain ⟨go, co, hov⟩ : ∃ g c, _ = Value.slice (some ⟨g, 0, none⟩) i c := by
    have q := own_range hown zOm
    obtain ⟨g, c, e, -⟩ := q
    exact ⟨g, c, e⟩
   subst hov
   have hfin : Hid (Sls wr (.slice (some ⟨go, 0, none⟩) i co) E) := zH (by
    refine ⟨us, Sl.of_own hown, by rw [hE.out, hul]; simp, fun j y bsj ha hb => ?_⟩
    rw [hE.out, List.getElem?_map] at hb
    obtain ⟨x, hx, rfl⟩ := Option.map_eq_some_iff.1 hb
    obtain ⟨h1, h2⟩ := List.getElem?_eq_some_iff.1 hx
    rw [List.getElem_range] at h2
    subst h2
    exact Sl.of_own (hux j y ha))
   have hBf := zH (bel kb hB)
   clear hux hown hB hi'
   go_wp2_with fail
   go_ret2
   exact ⟨some ⟨go, 0, none⟩, co, rfl, hfin.out, hBf.out⟩
theorem extract_any (a d : Option Addr) (ca cd : Nat) (salt key : List UInt8) (w : World) (hs : Sl w (.slice a salt.length ca) (u8s salt)) (hk : Sl w (.slice d key.length cd) (u8s key)) :
 Calls Tryz.prog 199 #[.slice a salt.length ca, .slice d key.length cd] w fun e w' => e = .returned (.agg (bytn 32 (macN salt key)).toArray) ∧ Below w.heap.size w w' := by
 obtain ⟨N, hN⟩ : ∃ N, macN salt key = N := ⟨_, rfl⟩
 have cS := zH (fun (w : World) g (h1 : Sl w (.slice a salt.length ca) (u8s salt)) (h : Sls w (.slice (some ⟨g, 0, none⟩) 1 1) [key]) => show Calls Tryz.prog 246 #[.slice a salt.length ca, .slice (some ⟨g, 0, none⟩) 1 1] w fun e w' => e = .returned (.agg (bytn 32 N).toArray) ∧ Below w.heap.size w w' from by
  have q := macsum_any a (some ⟨g, 0, none⟩) ca 1 salt [key] (by simp) w h1 h
  rw [show [key].flatten = key by simp, hN] at q
  exact q)
 rw [hN]
 obtain ⟨n1, hn1⟩ : ∃ n, salt.length = n := ⟨_, rfl⟩
 obtain ⟨n2, hn2⟩ : ∃ n, key.length = n := ⟨_, rfl⟩
 rw [hn1] at cS hs
 rw [hn2] at hk
 rw [hn1, hn2]
 replace hs := zH hs
 replace hk := zH hk
 clear hN hn1 hn2
 go_enter Tryz.func199, Tryz.ntmps199
 go_upto_region 1 with fail
 refine wp_new1 (fun W hsz k2 kb => ?_)
 replace k2 : Arr W w.heap.size (bytn 32 0) := k2
 clear hsz
 have kb2 := below_alloc W (.cells #[.slice d n2 cd] 26)
 have h1 := zH (Sls.new1 (hk.out.below kb) 26)
 have h0 := zH ((hs.out.below kb).alloc (.cells #[.slice d n2 cd] 26))
 go_wp2_with fail
 refine (cS.out _ _ h0.out h1.out).mono ?_
 rintro e w1 ⟨rfl, hb⟩
 replace hb := bel kb2 hb
 replace k2 := k2.below hb
 replace kb := bel kb hb
 clear hb kb2 h1 h0 cS
 go_wp2_with (refine zSt ?_)
 exact bodyPost_ret (results_arr2 Tryz.results199 _ _ _ rfl zKr _ (by first | assumption | exact Arr.setRow zAm _) zLn) rfl ⟨rfl, below_setRow kb (Nat.le_refl _) _⟩
def wrapL : List UInt8 := [119, 114, 97, 112]
def wkN (e z : Nat) : Nat := keyN (macN (nb 32 e) (nb 32 z)) wrapL
theorem wkey_any (e z : Nat) (w : World) :
 Calls Tryz.prog 142 #[.agg (bytn 32 e).toArray, .agg (bytn 32 z).toArray] w fun r w' => r = .returned (.agg (bytn 32 (wkN e z)).toArray) ∧ Below w.heap.size w w' := by
 obtain ⟨M, hM⟩ : ∃ M, macN (nb 32 e) (nb 32 z) = M := ⟨_, rfl⟩
 obtain ⟨N, hN⟩ : ∃ N, wkN e z = N := ⟨_, rfl⟩
 have cK := zH (fun w => show Calls Tryz.prog 198 #[.agg (bytn 32 M).toArray, .string ⟨#[119, 114, 97, 112]⟩] w fun r w' => r = .returned (.agg (bytn 32 N).toArray) ∧ Below w.heap.size w w' from by rw [← hN, wkN, hM]; exact key_any M ⟨#[119, 114, 97, 112]⟩ zDc w)
 have cE := zH (fun (w : World) g g2 (h1 : Sl w (.slice (some ⟨g, 0, none⟩) 32 32) (u8s (nb 32 e))) (h2 : Sl w (.slice (some ⟨g2, 0, none⟩) 32 32) (u8s (nb 32 z))) => show Calls Tryz.prog 199 #[.slice (some ⟨g, 0, none⟩) 32 32, .slice (some ⟨g2, 0, none⟩) 32 32] w fun r w' => r = .returned (.agg (bytn 32 M).toArray) ∧ Below w.heap.size w w' from by
  have q := extract_any (some ⟨g, 0, none⟩) (some ⟨g2, 0, none⟩) 32 32 (nb 32 e) (nb 32 z) w (by rw [nb_len]; exact h1) (by rw [nb_len]; exact h2)
  rw [nb_len, nb_len, hM] at q
  exact q)
 rw [hN]
 clear hM hN
 go_enter Tryz.func142, Tryz.ntmps142
 go_upto_region 1 with fail
 refine wp_new3 (fun W hsz k2 k3 k4 kb => ?_)
 have h2 := zH (show Sl W (.slice (some ⟨w.heap.size, 0, none⟩) 32 32) (u8s (nb 32 e)) from Sl.ofArrN (by rw [← nb_u8s]; exact k2) (nb_len _ _) zDc)
 have h3 := zH (show Sl W (.slice (some ⟨w.heap.size + 1, 0, none⟩) 32 32) (u8s (nb 32 z)) from Sl.ofArrN (by rw [← nb_u8s]; exact k3) (nb_len _ _) zDc)
 have k4 : Arr W (w.heap.size + 1 + 1) (bytn 32 0) := k4
 clear hsz
 refine Tx.start (fun w' => Below (W).heap.size (W) w') 4 5 rfl zKr ?_
 have hS_1 : Below (W).heap.size (W) (World.drew W) := (Below.refl _ _).drew
 refine Tx.seg (A := ?_) 3 3 zKr (by exact hS_1) [0, 1] zKr ?_ ?_
 rotate_left
 · intro w' hB
   exact zRd
 refine Tx.eff 2 7 rfl zDk (fun K hK => ?_)
 go_simp
 refine (cE.out _ _ _ (h2.out.below hS_1) (h3.out.below hS_1)).mono ?_
 rintro e w_2 ⟨rfl, hb_2⟩
 have hS_2 := ext_trans hS_1 (Nat.le_refl _) hb_2
 refine hK (fun w' => Below (W).heap.size (W) w') _ _ hS_2 (fun _ h => h) ?_
 clear hK K hb_2 hS_1
 try simp only [Act.put, zSa, zSz, zSs]
 refine Tx.eff 3 15 rfl zDk (fun K hK => ?_)
 go_simp
 refine (cK.out _).mono ?_
 rintro e w_3 ⟨rfl, hb_3⟩
 have hS_3 := ext_trans hS_2 (Nat.le_refl _) hb_3
 refine hK (fun w' => Below (W).heap.size (W) w') _ _ hS_3 (fun _ h => h) ?_
 clear hK K hb_3 hS_2
 try simp only [Act.put, zSa, zSz, zSs]
 clear h2 h3
 have k4 := k4.below hS_3
 have kb := bel kb hS_3
 refine Tx.bar 31 rfl zDk (fun K hK => ?_)
 refine step_store_arr rfl _ _ _ rfl _ _ rfl rfl _ zAm zLn zLm zOn ?_
 refine hK (fun _ => True) 9999 _ _ ?_
 clear hK K
 try simp only [Act.put]
 try simp only [zSa, zSz, zSs]
 refine Tx.done zKr ?_
 refine then_row k4 (fun w_4 k4 hoth hbel => ?_)
 have kb := hbel _ _ zOm kb
 clear hoth hbel
 go_wp2_with fail
 exact bodyPost_ret (results_arr2 Tryz.results142 _ _ _ rfl zKr _ k4 (by rw [bytn_len]; kernel_rfl)) rfl ⟨rfl, kb⟩
theorem lmul_lt (k u : Nat) : lmulN k u < 256 ^ 32 := p_lt32 _
theorem lmul_r {k u r : Nat} (hr : Hid (lmulN k u = r)) (hk : k < 256 ^ 32) (hu : u < 256 ^ 32) (w : World) :
 Calls Tryz.prog 143 #[.agg (byts k).toArray, .agg (byts u).toArray] w fun e w' => e = .returned (.agg (byts r).toArray) ∧ Below w.heap.size w w' := by
 rw [← hr.out]; exact lmul_any k u hk hu w
theorem lmul9_r {k r : Nat} (hr : Hid (lmulN k 9 = r)) (hk : k < 256 ^ 32) (w : World) :
 Calls Tryz.prog 143 #[.agg (byts k).toArray, .agg #[.int .u8 9, .int .u8 0, .int .u8 0, .int .u8 0, .int .u8 0, .int .u8 0, .int .u8 0, .int .u8 0, .int .u8 0, .int .u8 0, .int .u8 0, .int .u8 0, .int .u8 0, .int .u8 0, .int .u8 0, .int .u8 0, .int .u8 0, .int .u8 0, .int .u8 0, .int .u8 0, .int .u8 0, .int .u8 0, .int .u8 0, .int .u8 0, .int .u8 0, .int .u8 0, .int .u8 0, .int .u8 0, .int .u8 0, .int .u8 0, .int .u8 0, .int .u8 0]] w fun e w' => e = .returned (.agg (byts r).toArray) ∧ Below w.heap.size w w' := by
 have := lmul_any k 9 hk zDc w
 rw [byts_lit 9 zDc, hr.out] at this
 exact this
theorem lpublic_r {k r : Nat} (hr : Hid (lmulN k 9 = r)) (hk : k < 256 ^ 32) (w : World) :
 Calls Tryz.prog 83 #[.agg (byts k).toArray] w fun e w' => e = .returned (.agg (byts r).toArray) ∧ Below w.heap.size w w' := by
 have c1 := zH (fun w => lmul9_r hr hk w)
 go_enter Tryz.func83, Tryz.ntmps83
 go_upto_region 1 with fail
 refine wp_new2 (fun W hsz k1 k2 kb => ?_)
 have k2 : Arr W (w.heap.size + 1) (byts 0) := k2
 clear hsz
 go_upto_region 1 with (first | (refine zLd ?_) | (refine zSt ?_))
 go_wp2_with (first | (refine zLd ?_) | (refine zSt ?_))
 refine (c1.out _).mono ?_
 rintro e w_1 ⟨rfl, hb_1⟩
 have k2 := k2.below hb_1
 have kb := bel kb hb_1
 clear hb_1
 go_wp2_with (first | (refine zLd ?_) | (refine zSt ?_))
 exact bodyPost_ret (results_arr2 Tryz.results83 _ _ _ rfl zKr _ (by first | assumption | exact Arr.setRow zAm _) zLn) rfl ⟨rfl, below_setRow kb zOm _⟩
theorem lshared_r {k u r : Nat} (hr : Hid (lmulN k u = r)) (hk : k < 256 ^ 32) (hu : u < 256 ^ 32) {e0 : Int} (he : e0 = if r = 0 then 21 else 0) (w : World) :
 Calls Tryz.prog 140 #[.agg (byts k).toArray, .agg (byts u).toArray] w fun e w' => e = .returned (.tuple #[.agg (byts r).toArray, .int .i64 e0]) ∧ Below w.heap.size w w' := by
 have c1 := zH (fun w => lmul_r hr hk hu w)
 have lr : r < 256 ^ 32 := hr.out ▸ lmul_lt k u
 have b0 := zH byts_0
 by_cases hz : r = 0
 · have q := eq_num0 (b := true) (decide_eq_true hz) lr
   rw [if_pos hz] at he
   subst he
   have hr0 := zH hz
   clear hz hr
   go_enter Tryz.func140, Tryz.ntmps140
   go_upto_region 1 with fail
   refine wp_new3 (fun W hsz k2 k3 k4 kb => ?_)
   have k4 : Arr W (w.heap.size + 1 + 1) (byts 0) := k4
   clear hsz
   go_upto_region 1 with (first | (refine zLd ?_) | (refine zSt ?_))
   go_wp2_with (first | (refine zLd ?_) | (refine zSt ?_))
   refine (c1.out _).mono ?_
   rintro e w_2 ⟨rfl, hb_2⟩
   have k2 := k2.below hb_2
   have k3 := k3.below hb_2
   have k4 := k4.below hb_2
   have kb := bel kb hb_2
   clear hb_2
   go_upto_region 2 with (first | (refine zLd ?_) | (refine zSt ?_))
   have hg_k6_k2 := k2.lt
   have hg_k6_k3 := k3.lt
   have hg_k6_k4 := k4.lt
   refine code_new (fun w_3 k6 hnew => ?_)
   have k2 := k2.below hnew
   have k3 := k3.below hnew
   have k4 := k4.below hnew
   have kb := bel kb hnew
   clear hnew
   generalize (w_2).heap.size = g_k6 at k6 hg_k6_k2 hg_k6_k3 hg_k6_k4 ⊢
   go_wp2_with (first | (refine zLd ?_) | (refine wpList_store_arr rfl _ _ _ rfl _ (byts 0) rfl (by rw [b0.out]; rfl) _ k4 (by rw [byts_len]; kernel_rfl) rfl (byts_one _) ?_))
   exact bodyPost_ret (results_arr_tmp Tryz.results140 _ _ _ _ rfl Tryz.underlying34 rfl _ (k4.setRow _) (by rw [byts_len]; kernel_rfl) _ rfl) rfl ⟨by rw [hr0.out]; rfl, below_setRow kb zOm _⟩
 · have q := eq_num0 (b := false) (decide_eq_false hz) lr
   rw [if_neg hz] at he
   subst he
   replace hz := zH hz
   clear hr
   go_enter Tryz.func140, Tryz.ntmps140
   go_upto_region 1 with fail
   refine wp_new3 (fun W hsz k2 k3 k4 kb => ?_)
   have k4 : Arr W (w.heap.size + 1 + 1) (byts 0) := k4
   clear hsz
   go_upto_region 1 with (first | (refine zLd ?_) | (refine zSt ?_))
   go_wp2_with (first | (refine zLd ?_) | (refine zSt ?_))
   refine (c1.out _).mono ?_
   rintro e w_4 ⟨rfl, hb_4⟩
   have k2 := k2.below hb_4
   have k3 := k3.below hb_4
   have k4 := k4.below hb_4
   have kb := bel kb hb_4
   clear hb_4
   go_upto_region 2 with (first | (refine zLd ?_) | (refine zSt ?_))
   have hg_k6_k2 := k2.lt
   have hg_k6_k3 := k3.lt
   have hg_k6_k4 := k4.lt
   refine code_new (fun w_5 k6 hnew => ?_)
   have k2 := k2.below hnew
   have k3 := k3.below hnew
   have k4 := k4.below hnew
   have kb := bel kb hnew
   clear hnew
   generalize (w_4).heap.size = g_k6 at k6 hg_k6_k2 hg_k6_k3 hg_k6_k4 ⊢
   go_wp2_with (first | (refine zLd ?_) | (refine zSt ?_))
   exact bodyPost_ret (results_arr_tmp Tryz.results140 _ _ _ _ rfl Tryz.underlying34 rfl _ (k4.setRow _) (by rw [byts_len]; kernel_rfl) _ rfl) rfl ⟨rfl, below_setRow kb zOm _⟩
theorem byts_bytn (R : Nat) : byts R = bytn 32 R := by rw [byts_nb, nb_u8s]
def wrapB (T D X : Nat) : List UInt8 := nb 32 (lmulN D 9) ++ sealS (wkN (lmulN D 9) (lmulN D T)) 0 (nb 32 X) (nb 32 T)
theorem wrapB_len (T D X : Nat) : (wrapB T D X).length = 80 := by rw [wrapB, List.length_append, sealS_len, nb_len, nb_len]
theorem wrap_any (T D X : Nat) (hT : T < 256 ^ 32) (hD : D < 256 ^ 32) (hz : lmulN D T ≠ 0) (w : World) :
 Calls Tryz.prog 82 #[.agg (byts T).toArray, .agg (byts D).toArray, .agg (byts X).toArray] w fun e w' => ∃ g c, e = .returned (.tuple #[.slice (some ⟨g, 0, none⟩) 80 c, .int .i64 0]) ∧ Sl w' (.slice (some ⟨g, 0, none⟩) 80 c) (u8s (wrapB T D X)) ∧ Below w.heap.size w w' := by
 have hB : Hid (wrapB T D X = nb 32 (lmulN D 9) ++ sealS (wkN (lmulN D 9) (lmulN D T)) 0 (nb 32 X) (nb 32 T)) := zH rfl
 obtain ⟨G, hG⟩ : ∃ G, wrapB T D X = G := ⟨_, rfl⟩
 rw [hG] at hB ⊢
 obtain ⟨p, hp⟩ : ∃ r, lmulN D 9 = r := ⟨_, rfl⟩
 obtain ⟨s, hs⟩ : ∃ r, lmulN D T = r := ⟨_, rfl⟩
 have c1 := zH (fun w => lpublic_r (zH hp) hD w)
 have c2 := zH (fun w => lshared_r (zH hs) hD hT (e0 := 0) (by rw [if_neg (by rw [← hs]; exact hz)]) w)
 have c3 := zH (fun w => show Calls Tryz.prog 142 #[.agg (byts p).toArray, .agg (byts s).toArray] w fun r w' => r = .returned (.agg (bytn 32 (wkN p s)).toArray) ∧ Below w.heap.size w w' from by rw [byts_bytn, byts_bytn]; exact wkey_any p s w)
 rw [hp, hs] at hB
 obtain ⟨K, hK⟩ : ∃ r, wkN p s = r := ⟨_, rfl⟩
 rw [hK] at c3 hB
 obtain ⟨Z, hZ⟩ : ∃ r, sealS K 0 (nb 32 X) (nb 32 T) = r := ⟨_, rfl⟩
 have hZl : Hid (Z.length = 48) := zH (by rw [← hZ, sealS_len, nb_len])
 have c4 := zH (fun w' g1 g2 (h1 : Sl w' (.slice (some ⟨g1, 0, none⟩) 32 32) (u8s (nb 32 X))) (h2 : Sl w' (.slice (some ⟨g2, 0, none⟩) 32 32) (u8s (nb 32 T))) => show Calls Tryz.prog 141 #[.agg (bytn 32 K).toArray, .agg (bytn 12 0).toArray, .slice (some ⟨g1, 0, none⟩) 32 32, .slice (some ⟨g2, 0, none⟩) 32 32] w' (fun e w'' => ∃ g c, e = .returned (.slice (some ⟨g, 0, none⟩) 48 c) ∧ Sl w'' (.slice (some ⟨g, 0, none⟩) 48 c) (u8s Z) ∧ Below w'.heap.size w' w'') from by
  have q := aseals_any K 0 (some ⟨g1, 0, none⟩) (some ⟨g2, 0, none⟩) 32 32 (nb 32 X) (nb 32 T) (by rw [nb_len]; decide) (by rw [nb_len]; decide) w' (by rw [nb_len]; exact h1) (by rw [nb_len]; exact h2)
  rw [nb_len, nb_len] at q
  unfold SRet at q
  rw [hZ, hZl.out] at q
  exact q)
 rw [hZ] at hB
 clear hG hp hs hK hZ hz hT hD
 go_enter Tryz.func82, Tryz.ntmps82
 go_upto_region 1 with fail
 refine wp_new3 (fun W hsz k3 k4 k5 kb => ?_)
 clear hsz
 go_wp2_with (refine zLd ?_)
 refine (c1.out _).mono ?_
 rintro e w_5 ⟨rfl, hb_5⟩
 have k3 := k3.below hb_5
 have k4 := k4.below hb_5
 have k5 := k5.below hb_5
 have kb := bel kb hb_5
 clear hb_5
 go_upto_region 2 with (first | (refine zLd ?_) | (refine zSt ?_))
 have hg_k8_k3 := k3.lt
 have hg_k8_k4 := k4.lt
 have hg_k8_k5 := k5.lt
 refine code_new (fun w_6 k8 hnew => ?_)
 have k3 := k3.below hnew
 have k4 := k4.below hnew
 have k5 := k5.below hnew
 have kb := bel kb hnew
 clear hnew
 generalize (w_5).heap.size = g_k8 at k8 hg_k8_k3 hg_k8_k4 hg_k8_k5 ⊢
 go_wp2_with (refine zLd ?_)
 refine (c2.out _).mono ?_
 rintro e w_7 ⟨rfl, hb_7⟩
 have k3 := k3.below hb_7
 have k4 := k4.below hb_7
 have k5 := k5.below hb_7
 have k8 := k8.below hb_7
 have kb := bel kb hb_7
 clear hb_7
 go_upto_region 3 with (first | (refine zLd ?_) | (refine zSt ?_))
 have hg_k9_k3 := k3.lt
 have hg_k9_k4 := k4.lt
 have hg_k9_k5 := k5.lt
 have hg_k9_k8 := k8.lt
 refine code_new (fun w_8 k9 hnew => ?_)
 have k3 := k3.below hnew
 have k4 := k4.below hnew
 have k5 := k5.below hnew
 have k8 := k8.below hnew
 have kb := bel kb hnew
 clear hnew
 generalize (w_7).heap.size = g_k9 at k9 hg_k9_k3 hg_k9_k4 hg_k9_k5 hg_k9_k8 ⊢
 go_upto_region 5 with fail
 have sX := zH (show Sl w_8 (.slice (some ⟨w.heap.size + 1 + 1, 0, none⟩) 32 32) (u8s (nb 32 X)) from Sl.ofArrN (by rw [← byts_nb]; exact k5) (nb_len _ _) zDc)
 have sT := zH (show Sl w_8 (.slice (some ⟨w.heap.size, 0, none⟩) 32 32) (u8s (nb 32 T)) from Sl.ofArrN (by rw [← byts_nb]; exact k3) (nb_len _ _) zDc)
 have sE := zH (show Sl w_8 (.slice (some ⟨g_k8, 0, none⟩) 32 32) (u8s (nb 32 p)) from Sl.ofArrN (by rw [← byts_nb]; exact k8) (nb_len _ _) zDc)
 obtain ⟨i, hi, hz0, hz1, hz2⟩ := info_parts info_u8
 refine Tx.start (fun w' => Below (w_8).heap.size (w_8) w') 9999 11 rfl zKr ?_
 have hS_9 : Below (w_8).heap.size (w_8) (World.drew w_8) := (Below.refl _ _).drew
 refine Tx.seg (A := ?_) 5 119 zKr (by exact hS_9) [0, 1, 2, 4, 5, 6] zKr ?_ ?_
 rotate_left
 · intro w' hB
   have y8 := k8.below hB
   have y9 := k9.below hB
   iterate 6 (first | (refine rd_skip rfl rfl ?_; simp only [Act.put, zSa, zSz, zSs]) | (refine rd_load_arr rfl rfl _ _ rfl _ rfl zDk _ zAm zLn ?_; simp only [Act.put, zSa, zSz, zSs]) | (refine rd_builta rfl rfl _ _ rfl (bytn 12 0).toArray zKr ?_; simp only [Act.put, zSa, zSz, zSs]) | (refine rd_take (v := ?_) rfl rfl ?_ ?_; rotate_left; (focus (go_simp; try (with_reducible rfl))); simp only [Act.put, zSa, zSz, zSs]))
   exact rd_nil
 refine Tx.eff 3 127 rfl zDk (fun K hK => ?_)
 go_simp
 refine (c3.out _).mono ?_
 rintro e w_10 ⟨rfl, hb_10⟩
 have hS_10 := ext_trans hS_9 (Nat.le_refl _) hb_10
 refine hK (fun w' => Below (w_8).heap.size (w_8) w') _ _ hS_10 (fun _ h => h) ?_
 clear hK K hb_10 hS_9
 try simp only [Act.put, zSa, zSz, zSs]
 refine Tx.eff 7 255 rfl zDk (fun K hK => ?_)
 go_simp
 refine (c4.out _ _ _ (sX.out.below hS_10) (sT.out.below hS_10)).mono ?_
 rintro e w_11 ⟨g, c, rfl, hz, hb_11⟩
 have hS_11 := ext_trans hS_10 (Nat.le_refl _) hb_11
 refine hK (fun w' => Below (w_8).heap.size (w_8) w') _ _ hS_11 (fun _ h => h) ?_
 clear hK K hS_10
 try simp only [Act.put, zSa, zSz, zSs]
 refine Tx.eff 8 511 rfl zDk (fun K hK => ?_)
 refine step_append_new rfl _ _ 26 rfl 5 Tryz.underlying26 hi hz0 hz1 hz2 rfl rfl (sE.out.below (hS_11)) rfl hz ?c1 (u8s_one _) ?c2 ?c3 ?_
 case c1 => rw [u8s_len, u8s_len, nb_len, hZl.out]; decide
 case c2 => rw [u8s_len, hZl.out]; decide
 case c3 => rw [u8s_len, hZl.out]; decide
 intro v3 w12 hown hb12
 rw [u8s_len, hZl.out, ← u8s_append, ← hB.out] at hown
 obtain ⟨g12, c12, rfl, -⟩ := own_range hown zDc
 have hsl := Sl.of_own hown
 have hS_12 := ext_trans hS_11 (Nat.le_refl _) hb12
 refine hK (fun w' => Below (w_8).heap.size (w_8) w') _ _ hS_12 (fun _ h => h) ?_
 clear hK K
 try simp only [Act.put, zSa, zSz, zSs]
 refine Tx.seg (A := ?_) 0 2047 zKr (by exact hS_12) [9, 10] zKr ?_ ?_
 rotate_left
 · intro w' hB
   exact zRd
 refine Tx.done zKr ?_
 have kb := bel kb hS_12
 go_wp2_with fail
 go_ret2
 exact ⟨g12, c12, rfl, hsl, kb⟩
theorem cmay_any (i : Int) (w : World) : Calls Tryz.prog 136 #[.int .i64 i] w fun e w' => e = .returned (.bool (decide (0 ≤ i) && decide (i ≤ 2147483647))) ∧ Below w.heap.size w w' := by
 obtain ⟨V, hV⟩ : ∃ V, (decide (0 ≤ i) && decide (i ≤ 2147483647)) = V := ⟨_, rfl⟩
 rw [hV]
 replace hV := zH hV
 by_cases h : 0 ≤ i
 · have d0 : decide (0 ≤ i) = true := decide_eq_true h
   by_cases h2 : i ≤ 2147483647
   · have hv : Hid (V = true) := zH (by rw [← hV.out, d0, decide_eq_true h2]; rfl)
     go_enter Tryz.func136, Tryz.ntmps136
     go_wp2_with fail
     go_ret
     exact ⟨by rw [hv.out]; rfl, Below.refl _ _⟩
   · have hv : Hid (V = false) := zH (by rw [← hV.out, d0, decide_eq_false h2]; rfl)
     go_enter Tryz.func136, Tryz.ntmps136
     go_wp2_with fail
     go_ret
     exact ⟨by rw [hv.out]; rfl, Below.refl _ _⟩
 · have hv : Hid (V = false) := zH (by rw [← hV.out, decide_eq_false h]; rfl)
   go_enter Tryz.func136, Tryz.ntmps136
   go_wp2_with fail
   go_ret
   exact ⟨by rw [hv.out]; rfl, Below.refl _ _⟩
theorem cbody_any (str : ByteArray) (hsz : str.size ≤ 1000) (i : Int) (w : World) :
 Calls Tryz.prog 139 #[.string str, .int .i64 i] w fun e w' => ∃ g c, e = .returned (.slice (some ⟨g, 0, none⟩) (str.size + 8) c) ∧ Sl w' (.slice (some ⟨g, 0, none⟩) (str.size + 8) c) (u8s (str.data.toList ++ be8s [i])) ∧ Below w.heap.size w w' := by
 have cv := zH (fun w => conv_str w str (by unfold maxLen; omega))
 have hL : Hid (str.data.toList.length = str.size) := zH (by simp)
 obtain ⟨L, hLe⟩ : ∃ L, str.data.toList = L := ⟨_, rfl⟩
 obtain ⟨n, hn⟩ : ∃ n, str.size = n := ⟨_, rfl⟩
 rw [hLe, hn] at cv hL
 rw [hLe, hn]
 rw [hn] at hsz
 clear hLe hn
 go_enter Tryz.func139, Tryz.ntmps139
 obtain ⟨c, wB, hr, hS, hb⟩ := cv.out w
 have hS2 := zH hS
 clear hS cv
 go_wp2_with fail
 refine (packInt_any _ _ L [i] _ (hS2.out.alloc _) (Sl.new1 wB (.int .i64 i) 3) (by rw [hL.out]; simp; omega)).mono ?_
 rintro e w1 ⟨v, rfl, hown, hb1⟩
 have kb := bel (bel hb (below_alloc wB _)) hb1
 have hlen : (L ++ be8s [i]).length = n + 8 := by rw [List.length_append, hL.out]; rfl
 rw [hlen] at hown
 obtain ⟨g, cap, rfl, -, -, -, -⟩ := own_range hown zOm
 have hsl := zH (Sl.of_own hown)
 clear hown hlen hb1 hr
 go_wp2_with fail
 go_ret
 exact ⟨g, cap, rfl, hsl.out, kb⟩
def mayI (i : Int) : Bool := decide (0 ≤ i) && decide (i ≤ 2147483647)
def pcct : List UInt8 := [80, 67, 67, 84]
def crtL (i : Int) (k R s : Nat) : List Value := .int .i64 i :: (byts k ++ sgL R s)
theorem cvmay_any (K : Nat) (hK : K < 256 ^ 32) (w : World) :
 Calls Tryz.prog 137 #[.agg (byts K).toArray] w fun e w' => e = .returned (.bool (readP K).2) ∧ Below w.heap.size w w' := by
 have cR := zH (fun w => pread_any K hK w)
 obtain ⟨P, hP⟩ : ∃ P, (readP K).1 = P := ⟨_, rfl⟩
 obtain ⟨o, ho⟩ : ∃ o, (readP K).2 = o := ⟨_, rfl⟩
 rw [hP, ho] at cR
 rw [ho]
 clear hP ho hK
 go_enter Tryz.func137, Tryz.ntmps137
 go_upto_region 1 with fail
 refine wp_new1 (fun W hsz k1 kb => ?_)
 clear hsz
 go_wp2_with (refine zLd ?_)
 refine (cR.out _).mono ?_
 rintro e w_1 ⟨rfl, hb_1⟩
 have k1 := k1.below hb_1
 have kb := bel kb hb_1
 clear hb_1
 go_upto_region 2 with (first | (refine zLd ?_) | (refine zSt ?_))
 have hg_k3_k1 := k1.lt
 refine code_new (fun w_2 k3 hnew => ?_)
 have k1 := k1.below hnew
 have kb := bel kb hnew
 clear hnew
 generalize (w_1).heap.size = g_k3 at k3 hg_k3_k1 ⊢
 go_wp2_with fail
 go_ret
 exact ⟨rfl, kb⟩
theorem crtL_len (i : Int) (k R s : Nat) : (crtL i k R s).length = 97 := by simp [crtL, byts_len, sgL_len]
theorem crtL_one (i : Int) (k R s : Nat) : ∀ v ∈ crtL i k R s, v.oneCell' = true := by
 intro v hv
 rcases List.mem_cons.1 hv with rfl | h
 · rfl
 · rcases List.mem_append.1 h with h | h
   · exact byts_one _ v h
   · exact sgL_one _ _ v h
def crtG (K : Nat) (i : Int) (k : Nat) : List Value := crtL i k (sgR K (pcct ++ (be8s [i] ++ nb 32 k))) (sgS K (pcct ++ (be8s [i] ++ nb 32 k)))
def crtV (K : Nat) (i : Int) (k : Nat) : List Value := if mayI i = true then (if (readP k).2 = true then crtG K i k else crtL 0 0 0 0) else crtL 0 0 0 0
def crtE (i : Int) (k : Nat) : Int := if mayI i = true then (if (readP k).2 = true then 0 else 21) else 1
theorem ctsign_any (K k : Nat) (i : Int) (hk : k < 256 ^ 32) (w : World) :
 Calls Tryz.prog 81 #[.agg (byts K).toArray, .int .i64 i, .agg (byts k).toArray] w fun e w' => e = .returned (.tuple #[.agg (crtV K i k).toArray, .int .i64 (crtE i k)]) ∧ Below w.heap.size w w' := by
 have cM := zH (fun w => show Calls Tryz.prog 136 #[.int .i64 i] w fun e w' => e = .returned (.bool (mayI i)) ∧ Below w.heap.size w w' from cmay_any i w)
 have cV := zH (fun w => cvmay_any k hk w)
 have cB := zH (fun w => show Calls Tryz.prog 139 #[.string ⟨#[80, 67, 67, 84]⟩, .int .i64 i] w fun e w' => ∃ g c, e = .returned (.slice (some ⟨g, 0, none⟩) 12 c) ∧ Sl w' (.slice (some ⟨g, 0, none⟩) 12 c) (u8s (pcct ++ be8s [i])) ∧ Below w.heap.size w w' from cbody_any ⟨#[80, 67, 67, 84]⟩ zDc i w)
 obtain ⟨B, hB⟩ : ∃ B, pcct ++ be8s [i] = B := ⟨_, rfl⟩
 have hfl : [B, nb 32 k].flatten = pcct ++ (be8s [i] ++ nb 32 k) := by rw [← hB]; simp
 rw [hB] at cB
 obtain ⟨R, hR⟩ : ∃ R, sgR K (pcct ++ (be8s [i] ++ nb 32 k)) = R := ⟨_, rfl⟩
 obtain ⟨s, hs⟩ : ∃ s, sgS K (pcct ++ (be8s [i] ++ nb 32 k)) = s := ⟨_, rfl⟩
 have cS := zH (fun w' d' (h : Sls w' (.slice d' 2 2) [B, nb 32 k]) => show Calls Tryz.prog 138 #[.agg (byts K).toArray, .slice d' 2 2] w' fun e w'' => e = .returned (.agg (sgL R s).toArray) ∧ Below w'.heap.size w' w'' from by
  have q := csign_any K d' 2 2 [B, nb 32 k] (by simp) w' h
  rw [hfl, hR, hs] at q
  exact q)
 obtain ⟨X, hX⟩ : ∃ X, crtV K i k = X := ⟨_, rfl⟩
 obtain ⟨E, hE⟩ : ∃ E, crtE i k = E := ⟨_, rfl⟩
 rw [hX, hE]
 unfold crtV crtG at hX
 unfold crtE at hE
 rw [hR, hs] at hX
 obtain ⟨m, hm⟩ : ∃ m, mayI i = m := ⟨_, rfl⟩
 obtain ⟨o, ho⟩ : ∃ o, (readP k).2 = o := ⟨_, rfl⟩
 rw [hm] at cM hX hE
 rw [ho] at cV hX hE
 clear hB hfl hR hs hm ho hk
 replace hX := zH hX
 replace hE := zH hE
 go_enter Tryz.func81, Tryz.ntmps81
 go_upto_region 1 with fail
 refine wp_new3 (fun W hsz k3 k5 k6 kb => ?_)
 replace k6 : Arr W (w.heap.size + 1 + 1) (crtL 0 0 0 0) := k6
 clear hsz
 go_wp2_with fail
 refine (cM.out _).mono ?_
 rintro e w_3 ⟨rfl, hb_3⟩
 have k3 := k3.below hb_3
 have k5 := k5.below hb_3
 have k6 := k6.below hb_3
 have kb := bel kb hb_3
 clear hb_3
 cases m
 · go_wp2_with (first | (refine wpList_builta rfl _ _ rfl (crtL 0 0 0 0).toArray zKr ?_) | (refine zSt ?_))
   exact bodyPost_ret (results_arr_tmp Tryz.results81 _ _ _ _ rfl Tryz.underlying138 rfl _ (k6.setRow _) (by rw [crtL_len]; kernel_rfl) _ rfl) rfl ⟨by rw [← hX.out, ← hE.out]; rfl, below_setRow kb zOm _⟩
 go_wp2_with (refine zLd ?_)
 refine (cV.out _).mono ?_
 rintro e w_4 ⟨rfl, hb_4⟩
 have k3 := k3.below hb_4
 have k5 := k5.below hb_4
 have k6 := k6.below hb_4
 have kb := bel kb hb_4
 clear hb_4
 cases o
 · go_wp2_with (first | (refine wpList_builta rfl _ _ rfl (crtL 0 0 0 0).toArray zKr ?_) | (refine zSt ?_))
   exact bodyPost_ret (results_arr_tmp Tryz.results81 _ _ _ _ rfl Tryz.underlying138 rfl _ (k6.setRow _) (by rw [crtL_len]; kernel_rfl) _ rfl) rfl ⟨by rw [← hX.out, ← hE.out]; rfl, below_setRow kb zOm _⟩
 go_upto_region 5 with fail
 have hk5 := zH (show Sl w_4 (.slice (some ⟨w.heap.size + 1, 0, none⟩) 32 32) (u8s (nb 32 k)) from Sl.ofArrN (by rw [← byts_nb]; exact k5) (nb_len _ _) zDc)
 refine Tx.start (fun w' => Below (w_4).heap.size (w_4) w') 9 11 rfl zKr ?_
 have hS_5 : Below (w_4).heap.size (w_4) (World.drew w_4) := (Below.refl _ _).drew
 refine Tx.seg (A := ?_) 6 47 zKr (by exact hS_5) [0, 1, 2, 3, 5] zKr ?_ ?_
 rotate_left
 · intro w' hB
   have y5 := k5.below hB
   have y3 := k3.below hB
   exact zRd
 refine Tx.eff 4 63 rfl zDk (fun K hK => ?_)
 go_simp
 refine (cB.out _).mono ?_
 rintro e w_6 ⟨g, c, rfl, hsl, hb_6⟩
 have hS_6 := ext_trans hS_5 (Nat.le_refl _) hb_6
 refine hK (fun w' => Below (w_4).heap.size (w_4) w') _ _ hS_6 (fun _ h => h) ?_
 clear hK K hS_5
 try simp only [Act.put, zSa, zSz, zSs]
 refine Tx.eff 6 127 rfl zDk (fun K hK => ?_)
 go_simp
 refine hK (fun w' => Below (w_4).heap.size (w_4) w') _ _ (ext_trans hS_6 (Nat.le_refl _) (below_alloc _ _)) (fun _ h => h) ?_
 clear hK K
 try simp only [Act.put, zSa, zSz, zSs]
 refine Tx.newF (F := fun w' => Sls w' (.slice (some ⟨(w_6).heap.size, 0, none⟩) 2 2) [B, nb 32 k]) (w0 := w_6) (Sls.new2 hsl (hk5.out.below hS_6) _) (fun w1 h => h.below (Below.refl _ _).drew) (by first | exact .inl rfl | exact .inr rfl) (fun w_7 h10 hb_7 => ?_)
 have hS_7 : Below (w_4).heap.size (w_4) w_7 := by first | exact hb_7 | exact ext_trans hS_6 (Nat.le_refl _) hb_7
 clear hS_6
 refine Tx.eff 7 255 rfl zDk (fun K hK => ?_)
 go_simp
 refine (cS.out _ _ h10).mono ?_
 rintro e w_8 ⟨rfl, hb_8⟩
 have hS_8 := ext_trans hS_7 (Nat.le_refl _) hb_8
 refine hK (fun w' => Below (w_4).heap.size (w_4) w') _ _ hS_8 (fun _ h => h) ?_
 clear hK K hb_8 hS_7
 try simp only [Act.put, zSa, zSz, zSs]
 refine Tx.seg (A := ?_) 2 511 zKr (by exact hS_8) [8] zKr ?_ ?_
 rotate_left
 · intro w' hB
   iterate 1 (first | (refine rd_skip rfl rfl ?_; simp only [Act.put, zSa, zSz, zSs]) | (refine rd_load_arr rfl rfl _ _ rfl _ rfl zDk _ zAm zLn ?_; simp only [Act.put, zSa, zSz, zSs]) | (refine rd_builta rfl rfl _ _ rfl (crtL i k R s).toArray zKr ?_; simp only [Act.put, zSa, zSz, zSs]) | (refine rd_take (v := ?_) rfl rfl ?_ ?_; rotate_left; (focus (go_simp; try (with_reducible rfl))); simp only [Act.put, zSa, zSz, zSs]))
   exact rd_nil
 have k6 := k6.below hS_8
 have kb := bel kb hS_8
 refine Tx.bar 1023 rfl zDk (fun K hK => ?_)
 refine step_store_arr rfl _ _ _ rfl _ _ rfl rfl _ zAm zLn zLm zOn ?_
 refine hK (fun _ => True) 9999 _ _ ?_
 clear hK K
 try simp only [Act.put]
 try simp only [zSa, zSz, zSs]
 refine Tx.seg (A := ?_) 0 2047 zKr (by exact trivial) [10] zKr ?_ ?_
 rotate_left
 · intro w' hB
   exact zRd
 refine Tx.done zKr ?_
 refine then_row k6 (fun w_9 k6 hoth hbel => ?_)
 have kb := hbel _ _ zOm kb
 clear hoth hbel
 go_wp2_with fail
 exact bodyPost_ret (results_arr_tmp Tryz.results81 _ _ _ _ rfl Tryz.underlying138 rfl _ k6 (by rw [crtL_len]; kernel_rfl) _ rfl) rfl ⟨by rw [← hX.out, ← hE.out]; rfl, kb⟩
def mnfL (v b : Int) (root : Nat) (wv : Value) (i : Int) (k R1 s1 R s : Nat) : List Value := .int .i64 v :: .int .i64 b :: (bytn 32 root ++ (wv :: (crtL i k R1 s1 ++ sgL R s)))
theorem mnfL_len (v b : Int) (root : Nat) (wv : Value) (i : Int) (k R1 s1 R s : Nat) : (mnfL v b root wv i k R1 s1 R s).length = 196 := by simp [mnfL, bytn_len, crtL_len, sgL_len]
theorem mnfL_one (v b : Int) (root : Nat) (wv : Value) (i : Int) (k R1 s1 R s : Nat) (hw : wv.oneCell' = true) : ∀ u ∈ mnfL v b root wv i k R1 s1 R s, u.oneCell' = true := by
 intro u hu
 rcases List.mem_cons.1 hu with rfl | hu
 · rfl
 rcases List.mem_cons.1 hu with rfl | hu
 · rfl
 rcases List.mem_append.1 hu with h | hu
 · exact bytn_one _ _ u h
 rcases List.mem_cons.1 hu with rfl | hu
 · exact hw
 rcases List.mem_append.1 hu with h | h
 · exact crtL_one _ _ _ _ u h
 · exact sgL_one _ _ u h
theorem get_mid {A B C : List Value} {o : Nat} (ho : A.length = o) (j : Nat) (hj : j < B.length) : (A ++ (B ++ C))[o + j]? = B[j]? := by
 rw [List.getElem?_append_right zOm, show o + j - A.length = j by omega, List.getElem?_append_left hj]
theorem Sl.ofRng {w : World} {g o n : Nat} {L : List UInt8} (h : w.rangeAt g o (u8s L)) (hl : L.length = n) (hn : n ≤ 1000) : Sl w (.slice (some ⟨g, o, none⟩) n n) (u8s L) := by
 refine ⟨some ⟨g, o, none⟩, n, by rw [u8s_len, hl], by rw [u8s_len, hl]; exact Nat.le_refl _, by unfold maxLen; omega, fun h => (by cases h), fun x hx j u hu => ?_⟩
 cases hx
 rw [Addr.add_lit]
 exact h j u hu
theorem Sl.ofMid {w : World} {g o n : Nat} {xs : List Value} (h : Arr w g xs) (A C : List Value) (L : List UInt8) (hx : xs = A ++ (u8s L ++ C)) (ho : A.length = o) (hl : L.length = n) (hn : n ≤ 1000) : Sl w (.slice (some ⟨g, o, none⟩) n n) (u8s L) :=
 Sl.ofRng (h.range (fun j hj => by rw [hx]; exact get_mid ho j hj)) hl hn
section
variable {w : World} {g : Nat} {v b : Int} {root : Nat} {wv : Value} {i : Int} {k R1 s1 R s : Nat}
theorem mnf_root (h : Arr w g (mnfL v b root wv i k R1 s1 R s)) : Sl w (.slice (some ⟨g, 2, none⟩) 32 32) (u8s (nb 32 root)) :=
 Sl.ofMid h [.int .i64 v, .int .i64 b] _ (nb 32 root) (by rw [mnfL, nb_u8s]; rfl) rfl (nb_len _ _) zDc
theorem mnf_key (h : Arr w g (mnfL v b root wv i k R1 s1 R s)) : Sl w (.slice (some ⟨g, 36, none⟩) 32 32) (u8s (nb 32 k)) :=
 Sl.ofMid h (.int .i64 v :: .int .i64 b :: (bytn 32 root ++ [wv, .int .i64 i])) (sgL R1 s1 ++ sgL R s) (nb 32 k) (by rw [mnfL, crtL, byts_nb]; simp) (by simp [bytn_len]) (nb_len _ _) zDc
theorem mnf_csig (h : Arr w g (mnfL v b root wv i k R1 s1 R s)) : Sl w (.slice (some ⟨g, 68, none⟩) 64 64) (u8s (nb 32 R1 ++ nb 32 s1)) :=
 Sl.ofMid h (.int .i64 v :: .int .i64 b :: (bytn 32 root ++ (wv :: .int .i64 i :: byts k))) (sgL R s) (nb 32 R1 ++ nb 32 s1) (by rw [mnfL, crtL, u8s_append, sgL_u8s]; simp) (by simp [bytn_len, byts_len]) (by simp [nb_len]) zDc
theorem mnf_sig (h : Arr w g (mnfL v b root wv i k R1 s1 R s)) : Sl w (.slice (some ⟨g, 132, none⟩) 64 64) (u8s (nb 32 R ++ nb 32 s)) :=
 Sl.ofMid h (.int .i64 v :: .int .i64 b :: (bytn 32 root ++ (wv :: crtL i k R1 s1))) [] (nb 32 R ++ nb 32 s) (by rw [mnfL, u8s_append, sgL_u8s]; simp) (by simp [bytn_len, crtL_len]) (by simp [nb_len]) zDc
theorem mnf_wv (h : Arr w g (mnfL v b root wv i k R1 s1 R s)) : w.cell? ⟨g, 34, none⟩ = some wv :=
 h.cell (by have q := get_mid (A := .int .i64 v :: .int .i64 b :: bytn 32 root) (B := [wv]) (C := crtL i k R1 s1 ++ sgL R s) (o := 34) (by simp [bytn_len]) 0 (by simp); simpa [mnfL] using q)
theorem mnf_id (h : Arr w g (mnfL v b root wv i k R1 s1 R s)) : w.cell? ⟨g, 35, none⟩ = some (.int .i64 i) :=
 h.cell (by have q := get_mid (A := .int .i64 v :: .int .i64 b :: (bytn 32 root ++ [wv])) (B := [.int .i64 i]) (C := byts k ++ sgL R1 s1 ++ sgL R s) (o := 35) (by simp [bytn_len]) 0 (by simp); simpa [mnfL, crtL] using q)
end
theorem mmay_ok (v b : Int) (root : Nat) (a : Option Addr) (c : Nat) (i : Int) (k R1 s1 R s : Nat) (hv : 0 ≤ v) (hv2 : v ≤ 2147483647) (hb : 1 ≤ b) (hb2 : b ≤ 32) (hi : mayI i = true) (w : World) :
 Calls Tryz.prog 203 #[.agg (mnfL v b root (.slice a 80 c) i k R1 s1 R s).toArray] w fun e w' => e = .returned (.bool true) ∧ Below w.heap.size w w' := by
 have cM := zH (fun w => show Calls Tryz.prog 136 #[.int .i64 i] w fun e w' => e = .returned (.bool true) ∧ Below w.heap.size w w' from by rw [← hi]; exact cmay_any i w)
 clear hi
 go_enter Tryz.func203, Tryz.ntmps203
 go_upto_region 1 with fail
 refine wp_new1 (fun W hsz k1 kb => ?_)
 replace k1 : Arr W w.heap.size (mnfL v b root (.slice a 80 c) i k R1 s1 R s) := k1
 clear hsz
 have y0 := k1.cell (j := 0) (u := .int .i64 v) rfl
 have y1 := k1.cell (j := 1) (u := .int .i64 b) rfl
 have y34 := mnf_wv k1
 have y35 := mnf_id k1
 clear k1
 go_wp2_with fail
 refine (cM.out _).mono ?_
 rintro e w1 ⟨rfl, hb⟩
 replace kb := bel kb hb
 clear hb y0 y1 y34 y35
 go_wp2_with fail
 go_ret
 exact ⟨rfl, kb⟩
def pcm1 : List UInt8 := [80, 67, 77, 49]
def mbodyB (v b : Int) (root : Nat) (wl : List UInt8) (i : Int) (k R1 s1 : Nat) : List UInt8 := pcm1 ++ be8s [v, b] ++ nb 32 root ++ wl ++ be8s [i] ++ nb 32 k ++ (nb 32 R1 ++ nb 32 s1)
theorem mbody_ok (v b : Int) (root : Nat) (a : Option Addr) (c : Nat) (wl : List UInt8) (hwl : wl.length = 80) (i : Int) (k R1 s1 R s : Nat) (hv : 0 ≤ v) (hv2 : v ≤ 2147483647) (hb : 1 ≤ b) (hb2 : b ≤ 32) (hi : mayI i = true) (w : World) (hw : Sl w (.slice a 80 c) (u8s wl)) :
 Calls Tryz.prog 144 #[.agg (mnfL v b root (.slice a 80 c) i k R1 s1 R s).toArray] w fun e w' =>
  ∃ u, e = .returned (.tuple #[u, .int .i64 0]) ∧ w'.ownsRow w.heap.size 5 1 u 236 (u8s (mbodyB v b root wl i k R1 s1)) ∧ Below w.heap.size w w' := by
 have cM := zH (fun w => mmay_ok v b root a c i k R1 s1 R s hv hv2 hb hb2 hi w)
 have cI1 := zH (fun w' vb vn (h1 : Sl w' vb (u8s pcm1)) (h2 : Sl w' vn [.int .i64 v, .int .i64 b]) => packInt_any vb vn pcm1 [v, b] w' h1 h2 (by simp [pcm1]))
 have hlen := mnfL_len v b root (.slice a 80 c) i k R1 s1 R s
 replace hw := zH hw
 clear hv hv2 hb hb2 hi
 go_enter Tryz.func144, Tryz.ntmps144
 go_upto_region 1 with fail
 refine wp_new1 (fun W hsz k1 kb => ?_)
 replace k1 : Arr W w.heap.size (mnfL v b root (.slice a 80 c) i k R1 s1 R s) := k1
 clear hsz
 go_wp2_with (refine wpList_load_arr2 rfl _ _ rfl _ rfl zDk _ k1 (by rw [hlen]; kernel_rfl) ?_)
 refine (cM.out _).mono ?_
 rintro e w_1 ⟨rfl, hb_1⟩
 have k1 := k1.below hb_1
 have kb := bel kb hb_1
 clear hb_1
 go_upto_region 3 with fail
 have kb4 := below_alloc (w_1) (.cells #[.int .u8 80, .int .u8 67, .int .u8 77, .int .u8 49] 5 (4, 5))
 have y0 := (k1.below kb4).cell (j := 0) (u := .int .i64 v) rfl
 have y1 := (k1.below kb4).cell (j := 1) (u := .int .i64 b) rfl
 have hcv := fun (w : World) (C : Array Value) (n c : Nat) => Lib.run_convert_bytes_const (P := Tryz.prog) w 26 5 C n c Tryz.underlying26 Tryz.underlying5
 have h1 := zH (show Sl ((w_1).alloc (.cells #[.int .u8 80, .int .u8 67, .int .u8 77, .int .u8 49] 5 (4, 5))) (.slice (some ⟨(w_1).heap.size, 0, none⟩) 4 4) (u8s pcm1) from Sl.newMk _ _ _ _ _ rfl 4 rfl zDc)
 have h2 := zH (Sl.newMk ((w_1).alloc (.cells #[.int .u8 80, .int .u8 67, .int .u8 77, .int .u8 49] 5 (4, 5))) #[.int .i64 v, .int .i64 b] 3 (0, 0) ((w_1).heap.size + 1) (by simp) 2 rfl zDc)
 have kb5 := bel kb4 (below_alloc ((w_1).alloc (.cells #[.int .u8 80, .int .u8 67, .int .u8 77, .int .u8 49] 5 (4, 5))) (.cells #[.int .i64 v, .int .i64 b] 3))
 go_wp2_with fail
 refine (cI1.out _ _ _ (h1.out.alloc _) h2.out).mono ?_
 rintro e w2 ⟨u4, rfl, ho4, hb2⟩
 rw [show (pcm1 ++ be8s [v, b]).length = 20 by rw [List.length_append, be8s_len]; rfl] at ho4
 replace ho4 := own_mono ho4 kb5.size
 have hbW := ext_trans kb5 (Nat.le_refl _) hb2
 have lt1 := k1.lt
 clear hb2 kb5 kb4 y0 y1 h1 h2 cI1 hcv hlen cM
 obtain ⟨w1, hw1⟩ : ∃ x, w_1 = x := ⟨_, rfl⟩
 rw [hw1] at ho4 hbW k1 kb lt1
 clear hw1
 obtain ⟨T1, hT1⟩ : ∃ T, pcm1 ++ be8s [v, b] = T := ⟨_, rfl⟩
 rw [hT1] at ho4
 obtain ⟨ii, hii, hz0, hz1, hz2⟩ := info_parts info_u8
 go_upto_region 4 with fail
 refine Tx.start (fun w' => Below w1.heap.size w1 w') 9999 8 rfl zKr ?_
 have hS_x := hbW.drew
 refine Tx.seg (A := ?_) 3 55 zKr (by exact hS_x) [0, 1, 2, 4, 5] zKr ?_ ?_
 rotate_left
 · intro w' hB
   have y34 := mnf_wv (k1.below hB)
   exact zRd
 refine Tx.eff 3 63 rfl zDk (fun K hK => ?_)
 refine step_append_sl rfl _ _ 26 rfl w1.heap.size 5 Tryz.underlying26 hii hz0 hz1 hz2 rfl u4 20 (u8s T1) rfl (own_below ho4 (Below.refl _ _).drew) _ (u8s (nb 32 root)) rfl (mnf_root (k1.below hS_x)) (u8s_one _) ?c1 ?c2 hS_x.size ?_
 case c1 => rw [u8s_len, nb_len]; decide
 case c2 => rw [u8s_len, nb_len]; decide
 intro u5 wa ho5 hga
 have hS_a := hS_x.grown hga hS_x.size (own_block ho4)
 rw [u8s_len, nb_len, ← u8s_append] at ho5
 clear hga ho4
 refine hK (fun w' => Below (w1).heap.size (w1) w') _ _ hS_a (fun _ h => h) ?_
 clear hK K
 try simp only [Act.put, zSa, zSz, zSs]
 refine Tx.eff 6 127 rfl zDk (fun K hK => ?_)
 refine step_append_sl rfl _ _ 26 rfl w1.heap.size 5 Tryz.underlying26 hii hz0 hz1 hz2 rfl u5 52 _ rfl ho5 _ (u8s wl) rfl (hw.out.below (bel kb hS_a)) (u8s_one _) ?c1 ?c2 hS_a.size ?_
 case c1 => rw [u8s_len, hwl]; decide
 case c2 => rw [u8s_len, hwl]; decide
 intro u6 wb ho6 hgb
 have hS_b := hS_a.grown hgb hS_a.size (own_block ho5)
 rw [u8s_len, hwl, ← u8s_append] at ho6
 clear hgb ho5 hS_a hS_x hbW
 refine hK (fun w' => Below (w1).heap.size (w1) w') _ _ hS_b (fun _ h => h) ?_
 clear hK K
 try simp only [Act.put, zSa, zSz, zSs]
 refine Tx.seg (A := ?_) 0 255 zKr (by exact hS_b) [7] zKr ?_ ?_
 rotate_left
 · intro w' hB
   exact zRd
 refine Tx.done zKr ?_
 obtain ⟨T3, hT3⟩ : ∃ T, T1 ++ nb 32 root ++ wl = T := ⟨_, rfl⟩
 rw [hT3] at ho6
 have hT3l : Hid (T3.length = 132) := zH (by rw [← hT3, ← hT1]; simp [pcm1, be8s_len, nb_len, hwl])
 go_upto_region 5 with fail
 refine Tx.start (fun w' => Below w1.heap.size w1 w') 9999 11 rfl zKr ?_
 have hS_y := hS_b.drew
 refine Tx.seg (A := ?_) 4 463 zKr (by exact hS_y) [0, 1, 2, 3, 6, 7, 8] zKr ?_ ?_
 rotate_left
 · intro w' hB
   have y35 := mnf_id (k1.below hB)
   exact zRd
 refine Tx.eff 4 479 rfl zDk (fun K hK => ?_)
 go_simp
 refine hK (fun w' => Below (w1).heap.size (w1) w') _ _ (ext_trans hS_y (Nat.le_refl _) (below_alloc _ _)) (fun _ h => h) ?_
 clear hK K
 try simp only [Act.put, zSa, zSz, zSs]
 refine Tx.newF (F := fun w' => Sl w' (.slice (some ⟨(wb.drew).heap.size, 0, none⟩) 1 1) [.int .i64 i]) (w0 := wb.drew) (Sl.new1 _ _ _) (fun w1 h => h.below (Below.refl _ _).drew) (by first | exact .inl rfl | exact .inr rfl) (fun w_2 h4 hb_2 => ?_)
 have hS_2 : Below (w1).heap.size (w1) w_2 := by first | exact hb_2 | exact ext_trans hS_y (Nat.le_refl _) hb_2
 clear hS_y
 have hM := (hS_2).size
 have cI2 := zH (fun w' vb vn (h1 : Sl w' vb (u8s T3)) (h2 : Sl w' vn [.int .i64 i]) => packInt_any vb vn T3 [i] w' h1 h2 (by rw [hT3l.out]; simp))
 refine Tx.eff 5 511 rfl zDk (fun K hK => ?_)
 go_simp
 refine (cI2.out _ _ _ ((Sl.of_own (own_below ho6 (Below.refl _ _).drew)).below hb_2) h4).mono ?_
 rintro e w_3 ⟨u7, rfl, ho7, hb_3⟩
 have hS_3 := ext_trans hS_2 (Nat.le_refl _) hb_3
 refine hK (fun w' => Below (w1).heap.size (w1) w') _ _ hS_3 (fun _ h => h) ?_
 clear hK K hS_2
 try simp only [Act.put, zSa, zSz, zSs]
 replace ho7 := own_mono ho7 hM
 rw [show (T3 ++ be8s [i]).length = 140 by rw [List.length_append, be8s_len, hT3l.out]; rfl] at ho7
 refine Tx.eff 9 1023 rfl zDk (fun K hK => ?_)
 refine step_append_sl rfl _ _ 26 rfl w1.heap.size 5 Tryz.underlying26 hii hz0 hz1 hz2 rfl u7 140 _ rfl ho7 _ (u8s (nb 32 k)) rfl (mnf_key (k1.below hS_3)) (u8s_one _) ?c1 ?c2 (hS_3).size ?_
 case c1 => rw [u8s_len, nb_len]; decide
 case c2 => rw [u8s_len, nb_len]; decide
 intro u8 wc ho8 hgc
 have hS_c := (hS_3).grown hgc (hS_3).size (own_block ho7)
 rw [u8s_len, nb_len, ← u8s_append] at ho8
 clear hgc ho7
 refine hK (fun w' => Below (w1).heap.size (w1) w') _ _ hS_c (fun _ h => h) ?_
 clear hK K
 try simp only [Act.put, zSa, zSz, zSs]
 refine Tx.seg (A := ?_) 0 2047 zKr (by exact hS_c) [10] zKr ?_ ?_
 rotate_left
 · intro w' hB
   exact zRd
 refine Tx.done zKr ?_
 clear ho6 h4 hM cI2 hS_b
 go_wp2_with (at_builtin; refine wpList_append_sl rfl _ _ 26 rfl w1.heap.size 5 Tryz.underlying26 hii hz0 hz1 hz2 rfl u8 172 _ rfl ho8 _ (u8s (nb 32 R1 ++ nb 32 s1)) rfl (mnf_csig (k1.below hS_c)) (u8s_one _) ?c1 ?c2 hS_c.size ?_)
 case c1 => simp only [u8s_len, List.length_append, nb_len]; decide
 case c2 => simp only [u8s_len, List.length_append, nb_len]; decide
 intro u9 wd ho9 hgd
 have hS_d := hS_c.grown hgd hS_c.size (own_block ho8)
 rw [u8s_len, List.length_append, nb_len, nb_len, ← u8s_append] at ho9
 go_wp2_with fail
 go_ret2
 refine ⟨u9, rfl, ?_, bel kb hS_d⟩
 have hfin : T3 ++ (be8s [i] ++ nb 32 k) ++ (nb 32 R1 ++ nb 32 s1) = mbodyB v b root wl i k R1 s1 := by rw [← hT3, ← hT1, mbodyB]; simp only [List.append_assoc]
 rw [hfin] at ho9
 exact own_mono ho9 kb.size
theorem arr_gr {w w' : World} {g g' : Nat} {xs : List Value} (h : Arr w g xs) (hg : w.grownBy w' (some g')) (hr : g' ≠ g) : Arr w' g xs := by
 have := h.lt
 obtain ⟨T, h⟩ := h
 exact ⟨T, by rw [hg.block g this (fun e => hr (by cases e; rfl))]; exact h⟩
section
variable (v b : Int) (root : Nat) (wv : Value) (i : Int) (k R1 s1 R s : Nat)
theorem mnf_set34 (u : Value) : (mnfL v b root wv i k R1 s1 R s).set 34 u = mnfL v b root u i k R1 s1 R s := by
 have h : ∀ x : Value, mnfL v b root x i k R1 s1 R s = (.int .i64 v :: .int .i64 b :: bytn 32 root) ++ (x :: (crtL i k R1 s1 ++ sgL R s)) := fun x => by simp [mnfL]
 rw [h wv, h u, List.set_append_right (h := by simp [bytn_len])]
 simp [bytn_len]
theorem mnf_put132 (R' s' : Nat) : putAt 132 (sgL R' s') (mnfL v b root wv i k R1 s1 R s) = mnfL v b root wv i k R1 s1 R' s' := by
 have h : ∀ R s, mnfL v b root wv i k R1 s1 R s = (.int .i64 v :: .int .i64 b :: (bytn 32 root ++ (wv :: crtL i k R1 s1))) ++ sgL R s := fun R s => by simp [mnfL]
 have hl : (Value.int .i64 v :: .int .i64 b :: (bytn 32 root ++ (wv :: crtL i k R1 s1))).length = 132 := by simp [bytn_len, crtL_len]
 rw [h R s, h R' s', putAt, ← hl, List.take_left, hl, List.drop_eq_nil_of_le (by simp [sgL_len, bytn_len, crtL_len]), List.append_nil]
end
theorem mpack_ok (v b : Int) (root : Nat) (a : Option Addr) (c : Nat) (wl : List UInt8) (hwl : wl.length = 80) (i : Int) (k R1 s1 R s : Nat) (hv : 0 ≤ v) (hv2 : v ≤ 2147483647) (hb : 1 ≤ b) (hb2 : b ≤ 32) (hi : mayI i = true) (w : World) (hw : Sl w (.slice a 80 c) (u8s wl)) :
 Calls Tryz.prog 86 #[.agg (mnfL v b root (.slice a 80 c) i k R1 s1 R s).toArray] w fun e w' =>
  ∃ u, e = .returned (.tuple #[u, .int .i64 0]) ∧ w'.ownsRow w.heap.size 5 1 u 300 (u8s (mbodyB v b root wl i k R1 s1 ++ (nb 32 R ++ nb 32 s))) ∧ Below w.heap.size w w' := by
 have cB := zH (fun w hw => mbody_ok v b root a c wl hwl i k R1 s1 R s hv hv2 hb hb2 hi w hw)
 have hlen := mnfL_len v b root (.slice a 80 c) i k R1 s1 R s
 obtain ⟨B, hB⟩ : ∃ B, mbodyB v b root wl i k R1 s1 = B := ⟨_, rfl⟩
 rw [hB] at cB ⊢
 replace hw := zH hw
 clear hv hv2 hb hb2 hi hB
 obtain ⟨ii, hii, hz0, hz1, hz2⟩ := info_parts info_u8
 go_enter Tryz.func86, Tryz.ntmps86
 go_upto_region 1 with fail
 refine wp_new1 (fun W hsz k1 kb => ?_)
 replace k1 : Arr W w.heap.size (mnfL v b root (.slice a 80 c) i k R1 s1 R s) := k1
 clear hsz
 go_wp2_with (refine wpList_load_arr2 rfl _ _ rfl _ rfl zDk _ k1 (by rw [hlen]; kernel_rfl) ?_)
 refine (cB.out _ (hw.out.below kb)).mono ?_
 rintro e w2 ⟨u, rfl, ho, hb⟩
 replace k1 := k1.below hb
 clear cB
 go_wp2_with (at_builtin; refine wpList_append_sl rfl _ _ 26 rfl W.heap.size 5 Tryz.underlying26 hii hz0 hz1 hz2 rfl u 236 _ rfl ho _ (u8s (nb 32 R ++ nb 32 s)) rfl (mnf_sig k1) (u8s_one _) ?c1 ?c2 hb.size ?_)
 case c1 => simp only [u8s_len, List.length_append, nb_len]; decide
 case c2 => simp only [u8s_len, List.length_append, nb_len]; decide
 intro u9 wd ho9 hgd
 have hS_d := hb.grown hgd hb.size (own_block ho)
 rw [u8s_len, List.length_append, nb_len, nb_len, ← u8s_append] at ho9
 go_wp2_with fail
 go_ret2
 exact ⟨u9, rfl, own_mono ho9 kb.size, bel kb hS_d⟩
theorem msign_ok (K : Nat) (v b : Int) (root : Nat) (a : Option Addr) (c : Nat) (wl : List UInt8) (hwl : wl.length = 80) (i : Int) (k R1 s1 R s : Nat) (hv : 0 ≤ v) (hv2 : v ≤ 2147483647) (hb : 1 ≤ b) (hb2 : b ≤ 32) (hi : mayI i = true) (w : World) (hw : Sl w (.slice a 80 c) (u8s wl)) :
 Calls Tryz.prog 84 #[.agg (byts K).toArray, .agg (mnfL v b root (.slice a 80 c) i k R1 s1 R s).toArray] w fun e w' =>
  ∃ g c', e = .returned (.tuple #[.agg (mnfL v b root (.slice (some ⟨g, 0, none⟩) 80 c') i k R1 s1 (sgR K (mbodyB v b root wl i k R1 s1)) (sgS K (mbodyB v b root wl i k R1 s1))).toArray, .int .i64 0]) ∧ w'.ownsRow w.heap.size 5 1 (.slice (some ⟨g, 0, none⟩) 80 c') 80 (u8s wl) ∧ Below w.heap.size w w' := by
 have cB := zH (fun w hw => mbody_ok v b root a c wl hwl i k R1 s1 R s hv hv2 hb hb2 hi w hw)
 have hlen := mnfL_len v b root (.slice a 80 c) i k R1 s1 R s
 obtain ⟨B, hB⟩ : ∃ B, mbodyB v b root wl i k R1 s1 = B := ⟨_, rfl⟩
 rw [hB] at cB ⊢
 have cS := zH (fun w' d' (h : Sls w' (.slice d' 1 1) [B]) => show Calls Tryz.prog 138 #[.agg (byts K).toArray, .slice d' 1 1] w' fun e w'' => e = .returned (.agg (sgL (sgR K B) (sgS K B)).toArray) ∧ Below w'.heap.size w' w'' from by
  have q := csign_any K d' 1 1 [B] (by simp) w' h
  rw [show [B].flatten = B by simp] at q
  exact q)
 obtain ⟨R', hR'⟩ : ∃ x, sgR K B = x := ⟨_, rfl⟩
 obtain ⟨s', hs'⟩ : ∃ x, sgS K B = x := ⟨_, rfl⟩
 rw [hR', hs'] at cS ⊢
 replace hw := zH hw
 clear hv hv2 hb hb2 hi hB hR' hs'
 obtain ⟨ii, hii, hz0, hz1, hz2⟩ := info_parts info_u8
 go_enter Tryz.func84, Tryz.ntmps84
 go_upto_region 1 with fail
 refine wp_new3 (fun W hsz k2 k3 k4 kb => ?_)
 replace k3 : Arr W (w.heap.size + 1) (mnfL v b root (.slice a 80 c) i k R1 s1 R s) := k3
 replace k4 : Arr W (w.heap.size + 1 + 1) (mnfL 0 0 0 (.slice none 0 0) 0 0 0 0 0 0) := k4
 clear hsz
 go_wp2_with (refine wpList_load_arr2 rfl _ _ rfl _ rfl zDk _ k3 (by rw [hlen]; kernel_rfl) ?_)
 refine (cB.out _ (hw.out.below kb)).mono ?_
 rintro e w2 ⟨u, rfl, ho, hb⟩
 obtain ⟨gu, cu, rfl, -⟩ := own_range ho zDc
 have lt4 := k4.lt
 replace k2 := k2.below hb
 replace k3 := k3.below hb
 replace k4 := k4.below hb
 have kb2 := bel kb hb
 clear cB
 have y34 := mnf_wv k3
 go_wp2_with (at_builtin; refine wpList_append_sl rfl _ _ 26 rfl w2.heap.size 5 Tryz.underlying26 hii hz0 hz1 hz2 rfl (.slice none 0 0) 0 [] rfl (World.ownsRow_nil _ _ _ _) _ (u8s wl) rfl (hw.out.below kb2) (u8s_one _) ?c1 ?c2 (Nat.le_refl _) ?_)
 case c1 => rw [u8s_len, hwl]; decide
 case c2 => rw [u8s_len, hwl]; decide
 intro u2 w3 ho2 hg2
 have hb2 : Below w2.heap.size w2 w3 := (Below.refl _ _).grown hg2 (Nat.le_refl _) (fun k hk => by cases hk)
 rw [u8s_len, hwl] at ho2
 replace k2 := k2.below hb2
 replace k3 := k3.below hb2
 replace k4 := k4.below hb2
 replace ho := own_below ho hb2
 replace kb2 := bel kb2 hb2
 obtain ⟨g, c', rfl, hgb, -⟩ := own_range ho2 zDc
 have hw2 : w.heap.size + 1 + 1 < w2.heap.size := Nat.lt_of_lt_of_le lt4 hb.size
 have hww : W.heap.size ≤ w2.heap.size := hb.size
 clear hg2 hb2 y34 hw
 replace hb := zH hb
 go_upto_region 5 with (refine wpl_cellG rfl _ _ _ rfl _ 34 (.slice (some ⟨g, 0, none⟩) 80 c') rfl rfl _ k3 zDk (by rw [hlen]; decide) rfl (fun w4 k3' hg4 hsz4 => ?_))
 rw [mnf_set34] at k3'
 replace k2 := arr_gr k2 hg4 zOm
 replace k4 := arr_gr k4 hg4 zOm
 replace ho := own_grown ho hg4 zOm
 replace ho2 := own_grown ho2 hg4 zOm
 have kb4 := below_of_gr kb2 hg4 zOm kb2.size
 replace hw2 := zH hw2
 clear hg4 k3 kb2 hsz4 hww hgb
 have kb6 := below_alloc w4 (.cells #[.slice (some ⟨gu, 0, none⟩) 236 cu] 26)
 have h6 := zH (Sls.new1 (Sl.of_own ho) 26)
 replace ho2 := zH ho2
 clear ho
 go_wp2_with (refine zLd ?_)
 refine (cS.out _ _ h6.out).mono ?_
 rintro e w5 ⟨rfl, hb⟩
 replace hb := bel kb6 hb
 replace k2 := k2.below hb
 replace k3' := k3'.below hb
 replace k4 := k4.below hb
 replace kb4 := bel kb4 hb
 replace ho2 := zH (own_below ho2.out hb)
 clear hb kb6 h6 cS
 have hlen4 := mnfL_len v b root (.slice (some ⟨g, 0, none⟩) 80 c') i k R1 s1 R s
 go_upto_region 6 with (refine wpl_storeMG rfl _ _ _ rfl (w.heap.size + 1) 132 (sgL R' s') rfl rfl _ k3' (by rw [sgL_len]; kernel_rfl) (by rw [sgL_len, hlen4]; decide) (sgL_one _ _) (fun w6 k3'' hg6 => ?_))
 rw [mnf_put132] at k3''
 replace k4 := arr_gr k4 hg6 zOm
 have kb6 := below_of_gr kb4 hg6 zOm kb4.size
 replace ho2 := zH (own_grown ho2.out hg6 (by have := hw2.out; omega))
 clear hg6 kb4 k3' k2
 go_wp2_with (first | (refine wpList_load_arr2 rfl _ _ rfl _ rfl zDk _ k3'' (by rw [mnfL_len]; kernel_rfl) ?_) | (refine wpl_storeG rfl _ _ _ rfl _ (mnfL v b root (.slice (some ⟨g, 0, none⟩) 80 c') i k R1 s1 R' s') rfl rfl _ k4 (by rw [mnfL_len]; kernel_rfl) (by rw [mnfL_len, mnfL_len]) (mnfL_one _ _ _ _ _ _ _ _ _ _ rfl) (fun w7 k4' hg7 hsz7 => ?_)))
 replace ho2 := own_grown ho2.out hg7 (by have := hw2.out; omega)
 have kb7 := below_of_gr kb6 hg7 zOm kb6.size
 exact bodyPost_ret (results_arr_tmp Tryz.results84 _ _ _ _ rfl Tryz.underlying143 rfl _ k4' (by rw [mnfL_len]; kernel_rfl) _ rfl) rfl ⟨g, c', rfl, own_mono ho2 (by have := hw2.out; omega), kb7⟩
end Go.Proofs.YtibdgkhkhmdihaaGreatDoor
