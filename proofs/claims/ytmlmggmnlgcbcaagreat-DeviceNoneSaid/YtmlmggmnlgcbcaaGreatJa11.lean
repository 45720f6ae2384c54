import Derived.Test.YtmlmggmnlgcbcaaGreatJa08
import Derived.Laws.IdiomStrings
import Derived.Test.YtmlmggmnlgcbcaaGreatJa10
import Derived.Lib.SlBytesConst
import Derived.Test.YtmlmggmnlgcbcaaGreatJa06
import Derived.Test.YtmlmggmnlgcbcaaGreatJa01
import Derived.ScopeJumps

namespace Go.Proofs.YtmlmggmnlgcbcaaGreat
open Go.RowKit
/-- The key of a name, as a number. -/
def keyN (s : Nat) (name : List UInt8) : Nat := macN (nb 32 s) (name ++ [1])
theorem Sls.new3 {w : World} {v1 v2 v3 : Value} {b1 b2 b3 : List UInt8} (h1 : Sl w v1 (u8s b1)) (h2 : Sl w v2 (u8s b2)) (h3 : Sl w v3 (u8s b3)) (T : TypeId) : Sls (w.alloc (.cells #[v1, v2, v3] T)) (.slice (some ⟨w.heap.size, 0, none⟩) 3 3) [b1, b2, b3] := by
  refine ⟨[v1, v2, v3], ⟨_, 3, rfl, Nat.le_refl _, by decide, fun h => (by cases h), fun x hx => ?_⟩, rfl, ?_⟩
  · cases hx
    intro j u hu
    rw [Addr.add_lit, Nat.zero_add]
    exact (Arr.new w #[v1, v2, v3] T).cell hu
  · intro j a b' ha hb'
    match j with
    | 0 => simp only [List.getElem?_cons_zero, Option.some.injEq] at ha hb'; subst ha hb'; exact h1.alloc _
    | 1 => simp only [List.getElem?_cons_zero, List.getElem?_cons_succ, Option.some.injEq] at ha hb'; subst ha hb'; exact h2.alloc _
    | 2 => simp only [List.getElem?_cons_zero, List.getElem?_cons_succ, Option.some.injEq] at ha hb'; subst ha hb'; exact h3.alloc _
    | j + 3 => simp at ha
theorem own_range {w : World} {base : Nat} {e : TypeId} {v : Value} {n : Nat} {xs : List Value} (h : w.ownsRow base e 1 v n xs) (hn : 0 < n) : ∃ g cap, v = .slice (some ⟨g, 0, none⟩) n cap ∧ base ≤ g ∧ n ≤ cap ∧ cap ≤ maxLen ∧ w.rangeAt g 0 xs := by
  obtain ⟨h1, ⟨-, h2⟩ | ⟨g, cap, cur, rfl, hg, hh, h3, h4, h5, h6⟩⟩ := h
  · omega
  · refine ⟨g, cap, rfl, hg, h3, h4, fun j v hv => ?_⟩
    rw [cell_of_row w g _ _ _ _ hh]
    rw [← h6] at hv
    rw [List.getElem?_take] at hv
    split at hv
    · simpa using hv
    · cases hv
/-- What holds at a round's beginning. -/
def ExJ (N : Nat) (ov lv iv : Value) (wr : World) : Prop :=
  (iv = .int .i64 1 ∧ ov = .slice none 0 0 ∧ lv = .slice none 0 0) ∨ (iv = .int .i64 2 ∧ ∃ g cap, ov = .slice (some ⟨g, 0, none⟩) 32 cap ∧ 32 ≤ cap ∧ cap ≤ maxLen ∧ wr.rangeAt g 0 (bytn 32 N))
set_option maxHeartbeats 4000000 in
set_option maxRecDepth 100000 in
theorem expand_any (s : Nat) (a : Option Addr) (cap : Nat) (info : List UInt8) (w : World) (hs : Sl w (.slice a info.length cap) (u8s info)) :
    Calls Tryz.prog 178 #[.agg (bytn 32 s).toArray, .slice a info.length cap, .int .i64 32] w fun e w' =>
      ∃ g, e = .returned (.tuple #[.slice (some ⟨g, 0, none⟩) 32 32, .int .i64 0]) ∧ w'.rangeAt g 0 (bytn 32 (keyN s info)) ∧ Below w.heap.size w w' := by
  obtain ⟨N, hN⟩ : ∃ N, keyN s info = N := ⟨_, rfl⟩
  have cm := Lib.hid (show ∀ w a2 d, Sl w (.slice a2 32 32) (u8s (nb 32 s)) → Sls w (.slice d 3 3) [[], info, [1]] → Calls Tryz.prog 157 #[.slice a2 32 32, .slice d 3 3] w fun e w' => e = .returned (.agg (bytn 32 N).toArray) ∧ Below w.heap.size w w' from fun w a2 d h1 h2 => by
    have q := macsum_any a2 d 32 3 (nb 32 s) [[], info, [1]] (by simp) w (by rw [nb_len]; exact h1) h2
    rw [nb_len, show ([[], info, [1]] : List (List UInt8)).flatten = info ++ [1] by simp] at q
    rw [← hN]
    exact q)
  rw [hN]
  obtain ⟨n0, hn0⟩ : ∃ n, info.length = n := ⟨_, rfl⟩
  rw [hn0] at hs ⊢
  replace hs := Lib.hid hs
  clear hN hn0
  go_enter Tryz.func178, Tryz.ntmps178
  go_upto_region 1 with fail
  refine wp_new1 (fun wA hsz k3 kb => ?_)
  replace k3 : Arr wA w.heap.size (bytn 32 s) := k3
  obtain ⟨g3, hg3⟩ : ∃ g, w.heap.size = g := ⟨_, rfl⟩
  rw [hg3] at k3 ⊢
  clear hsz hg3
  replace hs := Lib.hid (hs.out.below kb)
  have h0 : ExJ N (.slice none 0 0) (.slice none 0 0) (.int .i64 1) wA := .inl ⟨rfl, rfl, rfl⟩
  replace h0 := Lib.hid h0
  go_wp2_with fail
  go_loopw [8, 9, 10] (fun ov lv iv wr => ExJ N ov lv iv wr ∧ Arr wr g3 (bytn 32 s) ∧ Sl wr (.slice a n0 cap) (u8s info) ∧ Below w.heap.size w wr) (fun _ _ iv _ => (2 - intOf iv).toNat)
  case atStart => exact ⟨h0.out, k3, hs.out, kb⟩
  case round =>
  clear k3 hs kb h0
  obtain ⟨hJ, k3, hs, kb⟩ := hrel
  have hw0 := kb.size
  rcases hJ with ⟨rfl, rfl, rfl⟩ | ⟨rfl, g, cp, rfl, hc1, hc2, hrg⟩
  · rw [nb_u8s] at k3
    have h3 := Sl.ofArrN k3 (nb_len 32 s) (by decide)
    have hS : Sls ((wr.alloc (.cells #[.int .u8 1] 5)).alloc (.cells #[.slice none 0 0, .slice a n0 cap, .slice (some ⟨wr.heap.size, 0, none⟩) 1 1] 26)) (.slice (some ⟨wr.heap.size + 1, 0, none⟩) 3 3) [[], info, [1]] := by
      have q := Sls.new3 (b1 := []) (b3 := [1]) (Sl.nil _) (hs.alloc (.cells #[.int .u8 1] 5)) (Sl.new1 wr (.int .u8 1) 5) 26
      rw [show (wr.alloc (.cells #[.int .u8 1] 5)).heap.size = wr.heap.size + 1 by simp] at q
      exact q
    have hcc := Lib.hid (cm.out _ _ _ ((h3.alloc _).alloc _) hS)
    have hb0 : Below wr.heap.size wr ((wr.alloc (.cells #[.int .u8 1] 5)).alloc (.cells #[.slice none 0 0, .slice a n0 cap, .slice (some ⟨wr.heap.size, 0, none⟩) 1 1] 26)) := (below_alloc _ _).alloc (by simp) _
    replace hs := Lib.hid hs
    clear hS h3
    go_wp2_with fail
    refine hcc.out.mono ?_
    rintro e wB ⟨rfl, hb⟩
    have hb1 := bel hb0 hb
    rw [← nb_u8s] at k3
    replace k3 := k3.below hb1
    replace hs := Lib.hid (hs.out.below hb1)
    replace kb := bel kb hb1
    clear hb hb0 hb1 hcc cm
    go_upto_region 8 with (refine wpl_storeG rfl _ _ _ rfl _ (bytn 32 N) rfl rfl _ (Arr.new _ _ _) (by rw [bytn_len]; kernel_rfl) (by rw [bytn_len]; rfl) (bytn_one _ _) (fun wC k11 hg hsz => ?_))
    have hb := below_fresh hg
    replace k3 := k3.below hb
    replace hs := Lib.hid (hs.out.below hb)
    replace kb := bel kb hb
    have hsC : w.heap.size ≤ wC.heap.size := kb.size
    obtain ⟨g11, hg11⟩ : ∃ g, wB.heap.size = g := ⟨_, rfl⟩
    rw [hg11] at k11 ⊢
    clear hb hsz hg hg11
    obtain ⟨i, hi, hz0, hz1, hz2⟩ := info_parts info_u8
    have h11 : Hid (Sl wC (.slice (some ⟨g11, 0, none⟩) 32 32) (bytn 32 N)) := Lib.hid (by rw [nb_u8s] at k11 ⊢; exact Sl.ofArrN k11 (nb_len 32 N) (by decide))
    have hone := Lib.hid (bytn_one 32 N)
    have hbl := Lib.hid (bytn_len 32 N)
    clear k11
    go_wp2_with (at_builtin; refine wpList_append_sl rfl _ _ 26 rfl wC.heap.size 5 Tryz.underlying26 hi hz0 hz1 hz2 rfl _ _ _ rfl (World.ownsRow_nil _ _ _ _) _ (bytn 32 N) rfl h11.out hone.out ?c2 ?c3 (Nat.le_refl _) (fun v' wD hown hg => ?_))
    case c2 => rw [hbl.out]; decide
    case c3 => rw [hbl.out]; decide
    rw [hbl.out] at hown
    obtain ⟨go, cpo, rfl, hgo, hco1, hco2, hro⟩ := own_range hown (by decide)
    have hbD : Below wC.heap.size wC wD := below_grown (Below.refl _ _) (World.ownsRow_nil _ _ 5 1) (Nat.le_refl _) hg
    replace k3 := k3.below hbD
    replace hs := hs.out.below hbD
    replace kb := bel kb hbD
    clear hown hg hbD h11
    go_wp2_with fail
    exact ⟨⟨.inr ⟨rfl, go, cpo, rfl, hco1, hco2, hro⟩, k3, hs, kb⟩, by simp [intOf]⟩
  · clear cm hs k3
    unfold maxLen at hc2
    replace hrg := Lib.hid hrg
    have hci : (32 : Int) ≤ (cp : Int) := by omega
    go_wp2_with fail
    go_ret2
    exact ⟨g, rfl, hrg.out, kb⟩
/-- '[]byte(s)' of a string. -/
theorem conv_str (w : World) (str : ByteArray) (hl : str.size ≤ maxLen) : ∃ c w', (convert 9 26 (.string str)).run Tryz.prog w = .ok (.slice (some ⟨w.heap.size, 0, none⟩) str.size c) w' ∧
    Sl w' (.slice (some ⟨w.heap.size, 0, none⟩) str.size c) (u8s str.data.toList) ∧ Below w.heap.size w w' := by
  have hr := run_bytes_of_string (P := Tryz.prog) w 9 26 5 str Tryz.underlying9 Tryz.underlying26 Tryz.underlying5
  have h1 := grownCap_ge w str.size 0 5
  have h2 := grownCap_le_maxLen w str.size 0 5 hl
  obtain ⟨c, hc⟩ : ∃ c, grownCap w str.size 0 5 = c := ⟨_, rfl⟩
  rw [hc] at hr h1 h2
  have hsz : str.data.toList.length = str.size := by simp
  refine ⟨_, _, hr, ⟨_, c, by rw [u8s_len, hsz], by rw [u8s_len, hsz]; exact h1, h2, fun h => (by cases h), fun x hx => ?_⟩, (Below.refl _ _).drew.alloc (Nat.le_refl _) _⟩
  cases hx
  intro j u hu
  rw [Addr.add_lit, Nat.zero_add]
  have hj : j < str.size := by
    have := (List.getElem?_eq_some_iff.1 hu).1
    rwa [u8s_len, hsz] at this
  have e : (w.drew.alloc (.cells (bytesRow str c) 5 ((bytesRow str c).size, (bytesRow str c).size + 1))).heap[w.heap.size]? = some (.cells (bytesRow str c) 5 ((bytesRow str c).size, (bytesRow str c).size + 1)) := by
    show (w.heap.push _)[w.heap.size]? = _
    simp
  rw [cell_of_row _ _ _ _ _ _ e, ← hu]
  simp [bytesRow, u8s, Array.getElem?_append]
  intro h
  omega
set_option maxHeartbeats 4000000 in
set_option maxRecDepth 100000 in
theorem key_any (s : Nat) (str : ByteArray) (hsz : str.size ≤ maxLen) (w : World) :
    Calls Tryz.prog 156 #[.agg (bytn 32 s).toArray, .string str] w fun e w' => e = .returned (.agg (bytn 32 (keyN s str.data.toList)).toArray) ∧ Below w.heap.size w w' := by
  have ce := Lib.hid (expand_any s)
  obtain ⟨L, hL⟩ : ∃ L, str.data.toList = L := ⟨_, rfl⟩
  obtain ⟨n, hn⟩ : ∃ n, str.size = n := ⟨_, rfl⟩
  have hLn : Hid (L.length = n) := Lib.hid (by rw [← hL, ← hn]; simp)
  have cv := Lib.hid (fun w => conv_str w str hsz)
  rw [hL, hn] at cv
  rw [hL]
  clear hL hn hsz
  go_enter Tryz.func156, Tryz.ntmps156
  go_upto_region 1 with fail
  refine wp_new2 (fun wA hsz k2 k4 kb => ?_)
  replace k2 : Arr wA w.heap.size (bytn 32 s) := k2
  replace k4 : Arr wA (w.heap.size + 1) (bytn 32 0) := k4
  obtain ⟨c, wB, hr, hS, hb⟩ := cv.out wA
  have hcc := ce.out _ c L wB (by rw [hLn.out]; exact hS)
  rw [hLn.out] at hcc
  replace hcc := Lib.hid hcc
  obtain ⟨g4, hg4⟩ : ∃ g, w.heap.size + 1 = g := ⟨_, rfl⟩
  rw [hg4] at k4 ⊢
  have hw4 : w.heap.size ≤ g4 := by omega
  clear hS ce hsz hg4
  go_wp2_with (refine wpList_load_arr2 rfl _ _ rfl _ rfl (by decide +kernel) _ k2 (by rw [bytn_len]; kernel_rfl) ?_)
  replace k4 := k4.below hb
  replace kb := bel kb hb
  clear hr k2 hb cv
  refine hcc.out.mono ?_
  rintro e wC ⟨g, rfl, hrg, hb⟩
  replace k4 := k4.below hb
  replace kb := bel kb hb
  clear hcc hb
  have hat : ∀ w, (Instr.arrayAt 23 (.slice (some ⟨g, 0, none⟩) 32 32)).run Tryz.prog w = .ok (.pointer (some ⟨g, 0, none⟩)) w := fun w => run_arrayAt w 23 5 32 _ 32 32 Tryz.underlying23 (by decide)
  go_wp2_with (first | (refine wpList_load_mid2 rfl _ _ rfl _ _ rfl (by kernel_rfl) _ hrg (by rw [bytn_len]; kernel_rfl) ?_) | (refine wpl_storeG rfl _ _ _ rfl g4 (bytn 32 (keyN s L)) rfl rfl _ k4 (by rw [bytn_len]; kernel_rfl) (by rw [bytn_len, bytn_len]) (bytn_one _ _) (fun w9 k4 hg hsz => ?_)))
  have qb := below_gr kb hg hw4 kb.size
  exact bodyPost_ret (results_arr2 Tryz.results156 _ _ _ rfl (by kernel_rfl) _ k4 (by rw [bytn_len]; kernel_rfl)) rfl ⟨rfl, qb⟩
end Go.Proofs.YtmlmggmnlgcbcaaGreat


namespace Go.Proofs.YtmlmggmnlgcbcaaGreat
open Go.RowKit
/-- An otp's cells. -/
def otv (x : Option Addr) (r s : Nat) (c m : Int) : List Value   := .pointer x :: (bytn 32 r ++ (bytn 32 s ++ [.int .i64 c, .int .i64 m]))
theorem otv_r {fv : Option Addr} {r s : Nat} {c m : Int} {j : Nat} (hj : j < (bytn 32 r).length) : (otv fv r s c m)[1 + j]? = (bytn 32 r)[j]? := by
  rw [otv, Nat.add_comm 1 j, List.getElem?_cons_succ, List.getElem?_append_left hj]
theorem otv_s {fv : Option Addr} {r s : Nat} {c m : Int} {j : Nat} (hj : j < (bytn 32 s).length) : (otv fv r s c m)[33 + j]? = (bytn 32 s)[j]? := by
  rw [otv, show 33 + j = (32 + j) + 1 by omega, List.getElem?_cons_succ, List.getElem?_append_right (by rw [bytn_len]; omega), bytn_len, show 32 + j - 32 = j by omega, List.getElem?_append_left hj]
theorem otv_c (fv : Option Addr) (r s : Nat) (c m : Int) : (otv fv r s c m)[65]? = some (.int .i64 c) ∧ (otv fv r s c m)[66]? = some (.int .i64 m) := by
  constructor
  · rw [otv, show (65 : Nat) = 64 + 1 from rfl, List.getElem?_cons_succ, List.getElem?_append_right (by rw [bytn_len]; omega), bytn_len, List.getElem?_append_right (by rw [bytn_len]; omega), bytn_len]; rfl
  · rw [otv, show (66 : Nat) = 65 + 1 from rfl, List.getElem?_cons_succ, List.getElem?_append_right (by rw [bytn_len]; omega), bytn_len, List.getElem?_append_right (by rw [bytn_len]; omega), bytn_len]; rfl
theorem otv_set (fv : Option Addr) (r s : Nat) (c m c' : Int) : (otv fv r s c m).set 65 (.int .i64 c') = otv fv r s c' m := by
  rw [otv, otv, show (65 : Nat) = 64 + 1 from rfl, List.set_cons_succ, List.set_append_right _ _ (by rw [bytn_len]; omega), bytn_len, List.set_append_right _ _ (by rw [bytn_len]; omega), bytn_len]; rfl
set_option maxHeartbeats 2000000 in
set_option maxRecDepth 100000 in
theorem onew_any (fv : Option Addr) (r s n : Nat) (h0 : 0 < n) (hn : n ≤ 1000000) (w : World) :
    Calls Tryz.prog 13 #[.pointer fv, .agg (bytn 32 r).toArray, .agg (bytn 32 s).toArray, .int .i64 (n : Int)] w fun e w' => ∃ q, e = .returned (.pointer (some ⟨q, 0, none⟩)) ∧ w.heap.size ≤ q ∧ Arr w' q (otv fv r s 0 (n : Int)) ∧ Below w.heap.size w w' := by
  have n0 : (0 : Int) < (n : Int) := by omega
  have n1 : (n : Int) ≤ 1000000 := by omega
  obtain ⟨X, hX⟩ : ∃ X, otv fv r s 0 (n : Int) = X := ⟨_, rfl⟩
  rw [hX]
  replace hX := Lib.hid hX
  go_enter Tryz.func13, Tryz.ntmps13
  go_upto_region 1 with fail
  refine wp_new2 (fun W hsz k5 k6 kb => ?_)
  replace k5 : Arr W w.heap.size (bytn 32 r) := k5
  replace k6 : Arr W (w.heap.size + 1) (bytn 32 s) := k6
  clear hsz
  go_wp2_with (first | (refine wpList_load_arr2 rfl _ _ rfl _ rfl (by decide +kernel) _ k5 (by rw [bytn_len]; kernel_rfl) ?_) | (refine wpList_load_arr2 rfl _ _ rfl _ rfl (by decide +kernel) _ k6 (by rw [bytn_len]; kernel_rfl) ?_) | (refine wpList_builta rfl _ _ rfl (otv fv r s 0 (n : Int)).toArray (by kernel_rfl) ?_; rw [hX.out]))
  go_ret
  exact ⟨_, rfl, kb.size, Arr.new _ _ _, bel kb (below_alloc _ _)⟩
set_option maxHeartbeats 1000000 in
set_option maxRecDepth 100000 in
theorem oroot_any (q : Nat) (fv : Option Addr) (r s : Nat) (c m : Int) (w : World) (k0 : Arr w q (otv fv r s c m)) :
    Calls Tryz.prog 34 #[.pointer (some ⟨q, 0, none⟩)] w fun e w' => e = .returned (.agg (bytn 32 r).toArray) ∧ Below w.heap.size w w' := by
  have hr : Hid (∀ w', Arr w' q (otv fv r s c m) → w'.rangeAt q 1 (bytn 32 r)) := Lib.hid (fun w' h => h.range (fun j hj => otv_r hj))
  go_enter Tryz.func34, Tryz.ntmps34
  go_upto_region 1 with fail
  refine wp_new1 (fun W hsz k2 kb => ?_)
  replace k2 : Arr W w.heap.size (bytn 32 0) := k2
  have hr1 := hr.out W (k0.below kb)
  clear hsz k0 hr
  go_wp2_with (first | (refine wpList_load_mid2 rfl _ _ rfl _ _ rfl (by kernel_rfl) _ hr1 (by rw [bytn_len]; kernel_rfl) ?_) | (refine wpl_storeG rfl _ _ _ rfl _ (bytn 32 r) rfl rfl _ k2 (by rw [bytn_len]; kernel_rfl) (by rw [bytn_len, bytn_len]) (bytn_one _ _) (fun w9 k2 hg hsz => ?_)))
  have qb := below_gr kb hg (Nat.le_refl _) kb.size
  exact bodyPost_ret (results_arr2 Tryz.results34 _ _ _ rfl (by kernel_rfl) _ k2 (by rw [bytn_len]; kernel_rfl)) rfl ⟨rfl, qb⟩
set_option maxHeartbeats 1000000 in
set_option maxRecDepth 100000 in
theorem osecret_any (q : Nat) (fv : Option Addr) (r s : Nat) (c m : Int) (w : World) (k0 : Arr w q (otv fv r s c m)) :
    Calls Tryz.prog 35 #[.pointer (some ⟨q, 0, none⟩)] w fun e w' => e = .returned (.agg (bytn 32 s).toArray) ∧ Below w.heap.size w w' := by
  have hr : Hid (∀ w', Arr w' q (otv fv r s c m) → w'.rangeAt q 33 (bytn 32 s)) := Lib.hid (fun w' h => h.range (fun j hj => otv_s hj))
  go_enter Tryz.func35, Tryz.ntmps35
  go_upto_region 1 with fail
  refine wp_new1 (fun W hsz k2 kb => ?_)
  replace k2 : Arr W w.heap.size (bytn 32 0) := k2
  have hr1 := hr.out W (k0.below kb)
  clear hsz k0 hr
  go_wp2_with (first | (refine wpList_load_mid2 rfl _ _ rfl _ _ rfl (by kernel_rfl) _ hr1 (by rw [bytn_len]; kernel_rfl) ?_) | (refine wpl_storeG rfl _ _ _ rfl _ (bytn 32 s) rfl rfl _ k2 (by rw [bytn_len]; kernel_rfl) (by rw [bytn_len, bytn_len]) (bytn_one _ _) (fun w9 k2 hg hsz => ?_)))
  have qb := below_gr kb hg (Nat.le_refl _) kb.size
  exact bodyPost_ret (results_arr2 Tryz.results35 _ _ _ rfl (by kernel_rfl) _ k2 (by rw [bytn_len]; kernel_rfl)) rfl ⟨rfl, qb⟩
set_option maxHeartbeats 1000000 in
theorem ocount_any (q : Nat) (fv : Option Addr) (r s : Nat) (c m : Int) (w : World) (k0 : Arr w q (otv fv r s c m)) :
    Calls Tryz.prog 20 #[.pointer (some ⟨q, 0, none⟩)] w fun e w' => e = .returned (.int .i64 c) ∧ w' = w := by
  have hc := k0.cell (otv_c fv r s c m).1
  clear k0
  go_enter Tryz.func20, Tryz.ntmps20
  go_wp2_with fail
  go_ret
  exact ⟨rfl, rfl⟩
set_option maxHeartbeats 1000000 in
theorem omost_any (q : Nat) (fv : Option Addr) (r s : Nat) (c m : Int) (w : World) (k0 : Arr w q (otv fv r s c m)) :
    Calls Tryz.prog 87 #[.pointer (some ⟨q, 0, none⟩)] w fun e w' => e = .returned (.int .i64 m) ∧ w' = w := by
  have hc := k0.cell (otv_c fv r s c m).2
  clear k0
  go_enter Tryz.func87, Tryz.ntmps87
  go_wp2_with fail
  go_ret
  exact ⟨rfl, rfl⟩
set_option maxHeartbeats 2000000 in
set_option maxRecDepth 100000 in
/-- The counter's step, where the power never fails. -/
theorem ostep_never (q p g r s c m : Nat) (F : Fl) (w : World) (k0 : Arr w q (otv (some ⟨p, 0, none⟩) r s c m)) (kf : FlAt w p g F) (hop : F.op = -1) (hd : F.dead = false) (hcm : c < m) (hm : m ≤ 1000000) (hqp : q ≠ p) (hqg : q ≠ g) :
    Calls Tryz.prog 89 #[.pointer (some ⟨q, 0, none⟩)] w fun e w' => e = .returned (.int .i64 0) ∧ Arr w' q (otv (some ⟨p, 0, none⟩) r s ((c + 1 : Nat) : Int) m) ∧ FlAt w' p g F ∧ Ch [p, q] w w' := by
  obtain ⟨e1, e2⟩ := otv_c (some ⟨p, 0, none⟩) r s c m
  have e0 : (otv (some ⟨p, 0, none⟩) r s c m)[0]? = some (.pointer (some ⟨p, 0, none⟩)) := rfl
  replace e0 := Lib.hid e0
  replace e1 := Lib.hid e1
  replace e2 := Lib.hid e2
  have hset := Lib.hid (otv_set (some ⟨p, 0, none⟩) r s (c : Int) m ((c + 1 : Nat) : Int))
  have hne : ((c : Int) == (m : Int)) = false := by simp; omega
  have hc1 : (c : Int) < 1000000 := by omega
  have hc0 : (0 : Int) ≤ (c : Int) := by omega
  clear hcm hm
  replace hop := Lib.hid hop
  replace hd := Lib.hid hd
  go_enter Tryz.func89, Tryz.ntmps89
  go_upto_region 1 with fail
  refine Tx.start (fun w' => Below (w).heap.size (w) w') 9999 10 rfl (by kernel_rfl) ?_
  have hS_1 : Below (w).heap.size (w) (World.drew w) := (Below.refl _ _).drew
  refine Tx.seg (A := ?_) 0 1023 (by kernel_rfl) (by exact hS_1) [0, 1, 2, 3, 4, 5, 6, 7, 8, 9] (by kernel_rfl) ?_ ?_
  rotate_left
  · intro w' hB
    have f1 := (k0.below hB).cell e1.out
    have f2 := (k0.below hB).cell e2.out
    iterate 10 (first | (refine rd_skip rfl rfl ?_; simp only [Act.put, List.setIfInBounds_toArray, List.set_cons_zero, List.set_cons_succ]) | (refine rd_load_arr rfl rfl _ _ rfl _ rfl (by decide +kernel) _ (by assumption) (by first | (rw [lims_len]; kernel_rfl) | (rw [el_rep]; kernel_rfl) | (rw [el_len]; kernel_rfl) | (rw [byts_len]; kernel_rfl) | (rw [us_len]; kernel_rfl) | (rw [bytn_len]; kernel_rfl) | (rw [ens_len, digs_len]; kernel_rfl) | kernel_rfl) ?_; simp only [Act.put, List.setIfInBounds_toArray, List.set_cons_zero, List.set_cons_succ]) | (refine rd_take (v := ?_) rfl rfl ?_ ?_; rotate_left; (focus (go_simp; try (with_reducible rfl))); simp only [Act.put, List.setIfInBounds_toArray, List.set_cons_zero, List.set_cons_succ]))
    exact rd_nil
  refine Tx.done (by kernel_rfl) ?_
  have hch := Ch.of_below (M := [p, q]) hS_1
  replace k0 := k0.below hS_1
  replace kf := kf.below hS_1
  clear hS_1 hne e2
  obtain ⟨wq, hwq⟩ : ∃ wq : World, w.drew = wq := ⟨_, rfl⟩
  rw [hwq] at k0 kf hch ⊢
  clear hwq
  have c1 := Lib.hid (fturn_never p g F wq kf hop.out hd.out)
  have h0 := k0.cell e0.out
  go_wp2_with fail
  refine c1.out.mono ?_
  rintro e w1 ⟨rfl, kf1, hc⟩
  replace k0 := k0.ch hc (by simp; exact hqp)
  replace hch := hch.trans (hc.mono (by simp))
  clear c1 hc h0 kf
  have h1 := k0.cell e1.out
  have h2 := k0.frozen 65
  go_wp2_with fail
  go_ret
  have k1 := k0.set 65 (.int .i64 ((c + 1 : Nat) : Int))
  rw [hset.out] at k1
  have hc2 : Ch [p, q] w1 (w1.setCell ⟨q, 65, none⟩ (.int .i64 ((c + 1 : Nat) : Int))) := Ch.of_gr (gr_cell _ q 65 _) (by simp)
  exact ⟨rfl, k1, kf1.ch (Ch.of_gr (M := [q]) (gr_cell _ q 65 _) (by simp)) (by simp; exact Ne.symm hqp) (by simp; exact Ne.symm hqg), hch.trans hc2⟩
end Go.Proofs.YtmlmggmnlgcbcaaGreat


namespace Go.Proofs.YtmlmggmnlgcbcaaGreat
open Go.RowKit
theorem Sl.newMk (w : World) (A : Array Value) (T : TypeId) (fr : Nat × Nat) (g : Nat) (hg : g = w.heap.size) (n : Nat) (hn : A.size = n) (hm : n ≤ maxLen) : Sl (w.alloc (.cells A T fr)) (.slice (some ⟨g, 0, none⟩) n n) A.toList := by
  have hl : A.toList.length = n := by rw [← hn]; simp
  refine ⟨some ⟨g, 0, none⟩, n, by rw [hl], by rw [hl]; exact Nat.le_refl _, hm, (fun h => by cases h), fun x hx j u hu => ?_⟩
  cases hx
  subst hg
  rw [Addr.add_lit, Nat.zero_add, World.cell?_alloc_mark]
  simpa using hu
theorem Arr.belowB {B : Nat} {w w' : World} {g : Nat} {xs : List Value} (h : Arr w g xs) (hb : Below B w w') (hg : g < B) : Arr w' g xs := by
  obtain ⟨T, h⟩ := h
  exact ⟨T, by rw [hb.block g hg]; exact h⟩
def pcb1 : List UInt8 := [80, 67, 66, 49]
def bankL : List UInt8 := [98, 97, 110, 107]
/-- A record's bytes ahead of the sum; a record. -/
def recM (n : Int) (x : List UInt8) : List UInt8 := pcb1 ++ be8s [n, (x.length : Int)] ++ x
def recL (s : Nat) (n : Int) (x : List UInt8) : List UInt8 := recM n x ++ nb 32 (macN (nb 32 (keyN s bankL)) (recM n x))
theorem recM_len (n : Int) (x : List UInt8) : (recM n x).length = 20 + x.length := by simp [recM, pcb1, be8s_len]; omega
theorem recL_len (s : Nat) (n : Int) (x : List UInt8) : (recL s n x).length = 52 + x.length := by rw [recL, List.length_append, recM_len, nb_len]; omega
set_option maxHeartbeats 4000000 in
set_option maxRecDepth 100000 in
theorem record_any (s n : Nat) (a : Option Addr) (c : Nat) (x : List UInt8) (hn : n ≤ 1000000000) (hx : x.length ≤ 4096) (w : World) (hs : Sl w (.slice a x.length c) (u8s x)) :
    Calls Tryz.prog 125 #[.agg (bytn 32 s).toArray, .int .i64 (n : Int), .slice a x.length c] w fun e w' =>
      ∃ v, e = .returned (.tuple #[v, .int .i64 0]) ∧ w'.ownsRow w.heap.size 5 1 v (recL s n x).length (u8s (recL s n x)) ∧ Below w.heap.size w w' := by
  obtain ⟨R, hR⟩ : ∃ R, recL s n x = R := ⟨_, rfl⟩
  rw [hR]
  obtain ⟨M, hM⟩ : ∃ M, recM n x = M := ⟨_, rfl⟩
  obtain ⟨K, hK⟩ : ∃ K, keyN s bankL = K := ⟨_, rfl⟩
  have hMl : Hid (M.length = 20 + x.length) := Lib.hid (by rw [← hM]; exact recM_len _ _)
  have hR2 : Hid (R = M ++ nb 32 (macN (nb 32 K) M)) := Lib.hid (by rw [← hR, recL, hK, hM])
  have hM2 : Hid (pcb1 ++ be8s [(n : Int), (x.length : Int)] ++ x = M) := Lib.hid hM
  have ck := Lib.hid (show ∀ w, Calls Tryz.prog 156 #[.agg (bytn 32 s).toArray, .string ⟨#[98, 97, 110, 107]⟩] w fun e w' => e = .returned (.agg (bytn 32 K).toArray) ∧ Below w.heap.size w w' from fun w => by
    rw [← hK]
    exact key_any s ⟨#[98, 97, 110, 107]⟩ (by decide) w)
  have hcv := fun (w : World) (C : Array Value) (n c : Nat) => Lib.run_convert_bytes_const (P := Tryz.prog) w 26 5 C n c Tryz.underlying26 Tryz.underlying5
  obtain ⟨L, hL⟩ : ∃ L, x.length = L := ⟨_, rfl⟩
  rw [hL] at hx hs hM2 hMl ⊢
  have n0 : (0 : Int) ≤ (n : Int) := by omega
  have n1 : (n : Int) ≤ 1000000000 := by omega
  have l1 : (L : Int) ≤ 4096 := by omega
  replace hs := Lib.hid hs
  replace hL := Lib.hid hL
  have hx2 := Lib.hid hx
  clear hR hM hK hn hx
  obtain ⟨i, hi, hz0, hz1, hz2⟩ := info_parts info_u8
  replace hi := Lib.hid hi
  replace hz0 := Lib.hid hz0
  replace hz1 := Lib.hid hz1
  replace hz2 := Lib.hid hz2
  go_enter Tryz.func125, Tryz.ntmps125
  go_upto_region 1 with fail
  refine wp_new1 (fun W hsz k3 kb => ?_)
  replace k3 : Arr W w.heap.size (bytn 32 s) := k3
  obtain ⟨g3, hg3⟩ : ∃ g, w.heap.size = g := ⟨_, rfl⟩
  rw [hg3] at k3 ⊢
  have hW0 : g3 + 1 ≤ W.heap.size := by omega
  replace hg3 := Lib.hid hg3
  clear hsz
  go_wp2_with fail
  have n1' : Sl (W.alloc (.cells #[.int .u8 80, .int .u8 67, .int .u8 66, .int .u8 49] 5 (4, 5))) (.slice (some ⟨W.heap.size, 0, none⟩) 4 4) (u8s pcb1) := Sl.newMk _ _ _ _ _ rfl _ rfl (by decide)
  have n2 := n1'.alloc (.cells #[.int .i64 (n : Int), .int .i64 (L : Int)] 3)
  have n3 : Sl ((W.alloc (.cells #[.int .u8 80, .int .u8 67, .int .u8 66, .int .u8 49] 5 (4, 5))).alloc (.cells #[.int .i64 (n : Int), .int .i64 (L : Int)] 3)) (.slice (some ⟨W.heap.size + 1, 0, none⟩) 2 2) (([(n : Int), (L : Int)] : List Int).map (.int .i64)) := Sl.newMk _ _ _ _ _ (by simp) _ rfl (by decide)
  refine (packInt_any _ _ pcb1 [(n : Int), (L : Int)] _ n2 n3 (by simp [pcb1])).mono ?_
  rintro e w2 ⟨v2, rfl, o2, hb2⟩
  have hb3 := bel ((below_alloc W (.cells #[.int .u8 80, .int .u8 67, .int .u8 66, .int .u8 49] 5 (4, 5))).alloc (by simp) (.cells #[.int .i64 (n : Int), .int .i64 (L : Int)] 3)) hb2
  have hbW := hb3
  replace k3 := k3.below hb3
  have hsW := hs.out.below kb
  have hs2 := Lib.hid (hsW.below hb3)
  replace kb := bel kb hb3
  have hsz2 : g3 + 1 ≤ w2.heap.size := by have := hb3.size; omega
  have o2' := own_mono (base' := g3 + 1) o2 (by simp; omega)
  clear n1' n2 n3 hb2 hb3 o2 hsW hbW
  obtain ⟨P, hP⟩ : ∃ P, pcb1 ++ be8s [(n : Int), (L : Int)] = P := ⟨_, rfl⟩
  rw [hP] at o2' hM2
  have hPl : Hid (P.length = 20) := Lib.hid (by rw [← hP]; simp [pcb1, be8s_len])
  clear hP
  go_upto_region 6 with (at_builtin; refine wpList_append_sl rfl _ _ 26 rfl (g3 + 1) 5 Tryz.underlying26 hi.out hz0.out hz1.out hz2.out rfl _ _ _ rfl o2' _ (u8s x) rfl hs2.out (u8s_one x) ?c2 ?c3 hsz2 (fun v8 w3 hown hg => ?_))
  case c2 => rw [hPl.out, u8s_len, hL.out]; have := hx2.out; unfold maxLen; omega
  case c3 => rw [hPl.out, u8s_len, hL.out]; have := hx2.out; omega
  have hb4 : Below (g3 + 1) w2 w3 := below_grown (Below.refl _ _) o2' hsz2 hg
  replace k3 := k3.belowB hb4 (Nat.lt_succ_self _)
  replace kb := kb.trans (hb4.mono (by have := hg3.out; omega))
  have hsz3 : g3 + 1 ≤ w3.heap.size := by have := hb4.size; omega
  rw [u8s_len, ← List.length_append, ← u8s_append, hM2.out] at hown
  obtain ⟨a8, c8, he8, -⟩ := Sl.of_own hown
  rw [u8s_len] at he8
  subst he8
  have o8 := Lib.hid hown
  clear hown hg hb4 o2' hs2 hsz2 hM2 hPl
  go_wp2_with (refine wpList_load_arr2 rfl _ _ rfl _ rfl (by decide +kernel) _ k3 (by rw [bytn_len]; kernel_rfl) ?_)
  refine (ck.out _).mono ?_
  rintro e w4 ⟨rfl, hb⟩
  replace kb := bel kb hb
  have hsz4 : g3 + 1 ≤ w4.heap.size := by have := hb.size; omega
  have o9 := Lib.hid (own_below o8.out hb)
  clear hb k3 o8 hsz3 ck
  go_upto_region 7 with (refine wpl_storeG rfl _ _ _ rfl _ (bytn 32 K) rfl rfl _ (Arr.new _ _ _) (by rw [bytn_len]; kernel_rfl) (by rw [bytn_len]; rfl) (bytn_one _ _) (fun w5 k9 hg hsz => ?_))
  have hb := below_fresh hg
  replace kb := bel kb hb
  have hsz5 : g3 + 1 ≤ w5.heap.size := by have := hb.size; omega
  have o10 := Lib.hid (own_below o9.out hb)
  obtain ⟨g9, hg9⟩ : ∃ g, w4.heap.size = g := ⟨_, rfl⟩
  rw [hg9] at k9 ⊢
  clear hb hsz hg hg9 o9 hsz4
  rw [nb_u8s] at k9
  have h9 := Sl.ofArrN k9 (nb_len 32 K) (by decide)
  have hS8 := Sl.of_own o10.out
  have hSs : Sls (w5.alloc (.cells #[.slice a8 M.length c8] 26)) (.slice (some ⟨w5.heap.size, 0, none⟩) 1 1) [M] := Sls.new1 hS8 _
  obtain ⟨N, hN⟩ : ∃ N, macN (nb 32 K) M = N := ⟨_, rfl⟩
  have cm := macsum_any (some ⟨g9, 0, none⟩) (some ⟨w5.heap.size, 0, none⟩) 32 1 (nb 32 K) [M] (by simp) _ (by rw [nb_len]; exact h9.alloc _) hSs
  rw [nb_len, show [M].flatten = M by simp, hN, show [M].length = 1 from rfl] at cm
  replace cm := Lib.hid cm
  have hR3 : Hid (R = M ++ nb 32 N) := Lib.hid (by rw [hR2.out, hN])
  clear hSs hS8 h9 k9 hN hR2
  go_wp2_with fail
  refine cm.out.mono ?_
  rintro e w6 ⟨rfl, hb0⟩
  have hb := bel (below_alloc w5 (.cells #[.slice a8 M.length c8] 26)) hb0
  replace kb := bel kb hb
  have hsz6 : g3 + 1 ≤ w6.heap.size := by have := hb.size; omega
  have o11 := Lib.hid (own_below o10.out hb)
  clear hb0 hb o10 cm hsz5
  go_upto_region 8 with (refine wpl_storeG rfl _ _ _ rfl _ (bytn 32 N) rfl rfl _ (Arr.new _ _ _) (by rw [bytn_len]; kernel_rfl) (by rw [bytn_len]; rfl) (bytn_one _ _) (fun w7 k10 hg hsz => ?_))
  have hb := below_fresh hg
  replace kb := bel kb hb
  have hsz7 : g3 + 1 ≤ w7.heap.size := by have := hb.size; omega
  have o12 := Lib.hid (own_below o11.out hb)
  obtain ⟨g10, hg10⟩ : ∃ g, w6.heap.size = g := ⟨_, rfl⟩
  rw [hg10] at k10 ⊢
  clear hb hsz hg hg10 o11 hsz6
  rw [nb_u8s] at k10
  have h10 := Lib.hid (Sl.ofArrN k10 (nb_len 32 N) (by decide))
  clear k10
  go_wp2_with (at_builtin; refine wpList_append_sl rfl _ _ 26 rfl (g3 + 1) 5 Tryz.underlying26 hi.out hz0.out hz1.out hz2.out rfl _ _ _ rfl o12.out _ (u8s (nb 32 N)) rfl h10.out (u8s_one _) ?c2 ?c3 hsz7 (fun v9 w8 hown hg => ?_))
  case c2 => rw [hMl.out, u8s_len, nb_len]; have := hx2.out; unfold maxLen; omega
  case c3 => rw [hMl.out, u8s_len, nb_len]; have := hx2.out; omega
  have hb4 : Below (g3 + 1) w7 w8 := below_grown (Below.refl _ _) o12.out hsz7 hg
  replace kb := kb.trans (hb4.mono (by have := hg3.out; omega))
  rw [u8s_len, ← List.length_append, ← u8s_append, ← hR3.out] at hown
  go_wp2_with fail
  go_ret2
  exact ⟨v9, rfl, own_mono hown (by have := hg3.out; omega), kb⟩
end Go.Proofs.YtmlmggmnlgcbcaaGreat


namespace Go.Proofs.YtmlmggmnlgcbcaaGreat
/-- The number of bytes, the highest first. -/
def rdn (bs : List UInt8) : Nat := bs.foldl (fun a b => a * 256 + b.toNat) 0
theorem rdn_snoc (bs : List UInt8) (c : UInt8) : rdn (bs ++ [c]) = rdn bs * 256 + c.toNat := by simp [rdn]
end Go.Proofs.YtmlmggmnlgcbcaaGreat


namespace Go.Proofs.YtmlmggmnlgcbcaaGreat
open Go.RowKit
/-- What a cursor in block g has left, in memory that is not block g. -/
def CBuf (w : World) (g : Nat) (v : Value) (rest : List UInt8) : Prop :=
  (v = .slice none 0 0 ∧ rest = []) ∨
  ∃ b o cap, v = .slice (some ⟨b, o, none⟩) rest.length cap ∧ rest.length ≤ cap ∧ cap ≤ maxLen ∧ b < g ∧ b < w.heap.size ∧ ∀ j u, (u8s rest)[j]? = some u → w.cell? ⟨b, o + j, none⟩ = some u
/-- The cursor in block g: what is left, and whether it is bad. -/
def Cur (w : World) (g : Nat) (rest : List UInt8) (bad : Bool) : Prop :=
  ∃ v, w.cell? ⟨g, 0, none⟩ = some v ∧ w.cell? ⟨g, 1, none⟩ = some (.bool bad) ∧ w.frozen? ⟨g, 0, none⟩ = false ∧ w.frozen? ⟨g, 1, none⟩ = false ∧ CBuf w g v rest
/-- Behind a call that writes to nothing of old but a block that is not the buffer's. -/
theorem CBuf.grown {w w' : World} {g k : Nat} {v : Value} {rest : List UInt8} (h : CBuf w g v rest) (hg : w.grownBy w' (some k)) (hk : k = g ∨ w.heap.size ≤ k) : CBuf w' g v rest := by
  rcases h with h | ⟨b, o, cap, rfl, h1, h2, h3, h4, h5⟩
  · exact .inl h
  · refine .inr ⟨b, o, cap, rfl, h1, h2, h3, Nat.lt_of_lt_of_le h4 hg.size, fun j u hu => ?_⟩
    exact hg.cell (h5 j u hu) (by simp only [ne_eq, Option.some.injEq]; omega)
theorem CBuf.below {w w' : World} {g : Nat} {v : Value} {rest : List UInt8} (h : CBuf w g v rest) (hg : Below w.heap.size w w') : CBuf w' g v rest := by
  rcases h with h | ⟨b, o, cap, rfl, h1, h2, h3, h4, h5⟩
  · exact .inl h
  · refine .inr ⟨b, o, cap, rfl, h1, h2, h3, Nat.lt_of_lt_of_le h4 hg.size, fun j u hu => ?_⟩
    rw [hg.cell (p := ⟨b, o + j, none⟩) h4]
    exact h5 j u hu
theorem Cur.lt {w : World} {g : Nat} {rest : List UInt8} {bad : Bool} (h : Cur w g rest bad) : g < w.heap.size := by
  obtain ⟨v, h1, _⟩ := h
  exact World.block_lt_of_cell? w _ h1
theorem Cur.below {w w' : World} {g : Nat} {rest : List UInt8} {bad : Bool} (h : Cur w g rest bad) (hg : Below w.heap.size w w') : Cur w' g rest bad := by
  have hlt := h.lt
  obtain ⟨v, h1, h2, h3, h4, h5⟩ := h
  exact ⟨v, by rw [hg.cell (p := ⟨g, 0, none⟩) hlt]; exact h1, by rw [hg.cell (p := ⟨g, 1, none⟩) hlt]; exact h2, by rw [hg.frozen (p := ⟨g, 0, none⟩) hlt]; exact h3, by rw [hg.frozen (p := ⟨g, 1, none⟩) hlt]; exact h4, h5.below hg⟩
theorem below_grownBy {w w' : World} (h : Below w.heap.size w w') (row : Option Nat) : w.grownBy w' row := ⟨h.os, h.tape, h.output, h.size, fun k hk _ => h.block k hk⟩
theorem grownBy_trans {a b c : World} {row : Option Nat} (h : a.grownBy b row) (k : b.grownBy c row) : a.grownBy c row :=
  ⟨k.os.trans h.os, k.tape.trans h.tape, k.output.trans h.output, Nat.le_trans h.size k.size, fun i hi hn => (k.block i (Nat.lt_of_lt_of_le hi h.size) hn).trans (h.block i hi hn)⟩
theorem grownBy_set {w w' : World} {g o : Nat} {u : Value} (h : w.grownBy w' (some g)) : w.grownBy (w'.setCell ⟨g, o, none⟩ u) (some g) :=
  grownBy_trans h ⟨rfl, rfl, rfl, by simp [World.setCell], fun k _ hn => Below.heap_setCell _ _ _ _ (by simpa using hn)⟩
/-- pack.New: a cursor at the first byte. -/
theorem packNew_any (vb : Value) (bs : List UInt8) (w : World) (hb : Sl w vb (u8s bs)) (hr : bs.length ≤ 140737488355328) :
    Calls Tryz.prog 91 #[vb] w fun e w' => ∃ g, e = .returned (.pointer (some ⟨g, 0, none⟩)) ∧ w.heap.size ≤ g ∧ Cur w' g bs false ∧ Below w.heap.size w w' := by
  go_enter Tryz.func91, Tryz.ntmps91
  go_wp2_with fail
  refine (clone_any vb bs w hb hr).mono ?_
  rintro e w1 ⟨v1, rfl, hown, hbel, -⟩
  have hv : CBuf w1 w1.heap.size v1 bs := by
    rcases hown.2 with ⟨rfl, h0⟩ | ⟨gb, cap, cur, rfl, h1, h2, h3, h4, h5, h6⟩
    · exact .inl ⟨rfl, List.eq_nil_of_length_eq_zero h0⟩
    · refine .inr ⟨gb, 0, cap, rfl, h3, h4, ?_, (Array.getElem?_eq_some_iff.1 h2).1, fun j u hu => ?_⟩
      · have := (Array.getElem?_eq_some_iff.1 h2).1; omega
      · have := World.ownsRow.cells hown rfl j u hu
        rwa [Addr.add_lit] at this
  clear hown
  have hsh : ∃ a n c, v1 = .slice a n c := by rcases hv with ⟨rfl, _⟩ | ⟨b, o, cap, rfl, _⟩ <;> exact ⟨_, _, _, rfl⟩
  obtain ⟨a, n, c, rfl⟩ := hsh
  have hv' := Lib.hid hv
  clear hv
  go_wp2
  go_ret
  refine ⟨w1.heap.size, rfl, hbel.size, ⟨_, ?_, ?_, ?_, ?_, (hv'.out.below (below_alloc _ _))⟩, hbel.alloc hbel.size _⟩
  · rw [World.cell?_alloc_at _ _ _ _ rfl]; rfl
  · rw [World.cell?_alloc_at _ _ _ _ rfl]; rfl
  · exact World.frozen?_alloc_at _ _ _ _ rfl
  · exact World.frozen?_alloc_at _ _ _ _ rfl
end Go.Proofs.YtmlmggmnlgcbcaaGreat


namespace Go.Proofs.YtmlmggmnlgcbcaaGreat
section
variable {P : Program} {a : Act} {w : World} {Q : Exit → Act → World → Prop}
theorem jump_at {l : Nat} {A : Act} {W : World} : l = l ∧ A = A ∧ W = W := ⟨rfl, rfl, rfl⟩
/-- A scope that is left by a jump to one of its labels, once, from the state A, W. -/
theorem wp_scope_fwd {c rest : Code} (l : Nat) (A : Act) (W : World) (hf : findLabel c l = some rest) (first : c.wp P (Exit.jump l (fun a' w' => a' = A ∧ w' = W) Q) a w)
    (pass : rest.wp P (Exit.noGoto Q) A W) : (Code.scope c).wp P Q a w := by
  refine wp_scope_jumps l (fun a' w' => a' = A ∧ w' = W) (fun _ _ => 0) hf first ?_
  rintro a' w' ⟨rfl, rfl⟩
  refine Code.wp_mono ?_ pass
  intro e a w h
  cases e <;> first | exact h | exact (h : False).elim
/-- A scope through which the run goes without a jump. -/
theorem wp_scope_none {c : Code} (h : c.wp P (Exit.noGoto Q) a w) : (Code.scope c).wp P Q a w := wp_scope_straight h
end
end Go.Proofs.YtmlmggmnlgcbcaaGreat


namespace Go.Proofs.YtmlmggmnlgcbcaaGreat
open Go.RowKit
set_option maxHeartbeats 1000000 in
set_option maxRecDepth 100000 in
theorem raw_bad (g : Nat) (rest : List UInt8) (n : Int) (w : World) (hc : Cur w g rest true) :
    Calls Tryz.prog 92 #[.pointer (some ⟨g, 0, none⟩), .int .i64 n] w fun e w' => e = .returned (.slice none 0 0) ∧ w' = w := by
  obtain ⟨v, h0, h1, f0, f1, -⟩ := hc
  go_enter Tryz.func92, Tryz.ntmps92
  go_wp2_with fail
  go_step3
  go_wp2_with fail
  try rw [Exit.noGoto_ret]
  go_ret
  exact ⟨rfl, rfl⟩
theorem cur_gone {w : World} {g : Nat} {v : Value} {bad : Bool} (h0 : w.cell? ⟨g, 0, none⟩ = some v) (h1 : w.cell? ⟨g, 1, none⟩ = some (.bool bad)) (f0 : w.frozen? ⟨g, 0, none⟩ = false) (f1 : w.frozen? ⟨g, 1, none⟩ = false) :
    w.grownBy ((w.setCell ⟨g, 0, none⟩ (.slice none 0 0)).setCell ⟨g, 1, none⟩ (.bool true)) (some g) ∧ Cur ((w.setCell ⟨g, 0, none⟩ (.slice none 0 0)).setCell ⟨g, 1, none⟩ (.bool true)) g [] true := by
  have h1' : (w.setCell ⟨g, 0, none⟩ (.slice none 0 0)).cell? ⟨g, 1, none⟩ = some (.bool bad) := by
    rw [World.cell?_setCell_other _ _ _ _ (by simp)]; exact h1
  refine ⟨grownBy_set (grownBy_set (World.grownBy.refl _ _)), .slice none 0 0, ?_, ?_, ?_, ?_, .inl ⟨rfl, rfl⟩⟩
  · rw [World.cell?_setCell_other _ _ _ _ (by simp), World.cell?_setCell_same _ _ _ h0]
  · rw [World.cell?_setCell_same _ _ _ h1']
  · rw [World.frozen?_setCell, World.frozen?_setCell]; exact f0
  · rw [World.frozen?_setCell, World.frozen?_setCell]; exact f1
set_option maxHeartbeats 1000000 in
set_option maxRecDepth 100000 in
theorem raw_no (g : Nat) (rest : List UInt8) (n : Int) (w : World) (hc : Cur w g rest false) (hn : n < 0 ∨ (rest.length : Int) < n) :
    Calls Tryz.prog 92 #[.pointer (some ⟨g, 0, none⟩), .int .i64 n] w fun e w' => e = .returned (.slice none 0 0) ∧ w.grownBy w' (some g) ∧ Cur w' g [] true := by
  obtain ⟨v, h0, h1, f0, f1, hb⟩ := hc
  have hsh : ∃ a c, v = .slice a rest.length c := by rcases hb with ⟨rfl, rfl⟩ | ⟨b, o, cap, rfl, _⟩ <;> exact ⟨_, _, rfl⟩
  obtain ⟨a, c, rfl⟩ := hsh
  clear hb
  have hlt := World.block_lt_of_cell? w _ h0
  by_cases hneg : n < 0
  · clear hn
    go_enter Tryz.func92, Tryz.ntmps92
    go_wp2_with fail
    refine wp_scope_fwd 0 ?A1 ?W1 rfl ?first1 ?pass1
    case first1 =>
      go_wp2_with fail
      go_step3
      exact jump_at
    case pass1 =>
      go_wp2_with fail
      try rw [Exit.noGoto_ret]
      go_ret
      exact ⟨rfl, cur_gone h0 h1 f0 f1⟩
  · have hbig : (rest.length : Int) < n := hn.resolve_left hneg
    clear hn
    go_enter Tryz.func92, Tryz.ntmps92
    go_wp2_with fail
    refine wp_scope_fwd 0 ?A2 ?W2 rfl ?first2 ?pass2
    case first2 =>
      go_wp2_with fail
      go_step3
      exact jump_at
    case pass2 =>
      go_wp2_with fail
      try rw [Exit.noGoto_ret]
      go_ret
      exact ⟨rfl, cur_gone h0 h1 f0 f1⟩
end Go.Proofs.YtmlmggmnlgcbcaaGreat

