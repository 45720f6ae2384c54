/- PortcullisWrong: part 19 of its proof: lemmas and contracts, each with its conditions in its own statement; the last part holds the law itself. -/
import Derived.Test.YtibdgkhkhmdihaaGreatDoorJe18
import Derived.Lib.SlBytesConst
import Derived.ScopeJumps
import Derived.OwnWalk

set_option maxHeartbeats 4000000
set_option maxRecDepth 100000
namespace Go.Proofs.YtibdgkhkhmdihaaGreatDoor
open Go.RowKit
theorem Sl.newMk (w : World) (A : Array Value) (T : TypeId) (fr : Nat × Nat) (g : Nat) (hg : g = w.heap.size) (n : Nat) (hn : A.size = n) (hm : n ≤ maxLen) : Sl (w.alloc (.cells A T fr)) (.slice (some ⟨g, 0, none⟩) n n) A.toList := by
 have hl : A.toList.length = n := by rw [← hn]; simp
 refine ⟨some ⟨g, 0, none⟩, n, by rw [hl], by rw [hl]; exact Nat.le_refl _, hm, (fun h => by cases h), fun x hx j u hu => ?_⟩
 cases hx
 subst hg
 rw [Addr.add_lit, Nat.zero_add, World.cell?_alloc_mark]
 simpa using hu
theorem Arr.belowB {B : Nat} {w w' : World} {g : Nat} {xs : List Value} (h : Arr w g xs) (hb : Below B w w') (hg : g < B) : Arr w' g xs := by
 obtain ⟨T, h⟩ := h
 exact ⟨T, by rw [hb.block g hg]; exact h⟩
def pcb1 : List UInt8 := [80, 67, 66, 49]
def bankL : List UInt8 := [98, 97, 110, 107]
def recM (n : Int) (x : List UInt8) : List UInt8 := pcb1 ++ be8s [n, (x.length : Int)] ++ x
def recL (s : Nat) (n : Int) (x : List UInt8) : List UInt8 := recM n x ++ nb 32 (macN (nb 32 (keyN s bankL)) (recM n x))
theorem recM_len (n : Int) (x : List UInt8) : (recM n x).length = 20 + x.length := by simp [recM, pcb1, be8s_len]; omega
theorem recL_len (s : Nat) (n : Int) (x : List UInt8) : (recL s n x).length = 52 + x.length := by rw [recL, List.length_append, recM_len, nb_len]; omega
theorem record_any (s n : Nat) (a : Option Addr) (c : Nat) (x : List UInt8) (hn : n ≤ 1000000000) (hx : x.length ≤ 4096) (w : World) (hs : Sl w (.slice a x.length c) (u8s x)) :
 Calls Tryz.prog 277 #[.agg (bytn 32 s).toArray, .int .i64 (n : Int), .slice a x.length c] w fun e w' =>
  ∃ v, e = .returned (.tuple #[v, .int .i64 0]) ∧ w'.ownsRow w.heap.size 5 1 v (recL s n x).length (u8s (recL s n x)) ∧ Below w.heap.size w w' := by
 obtain ⟨R, hR⟩ : ∃ R, recL s n x = R := ⟨_, rfl⟩
 rw [hR]
 obtain ⟨M, hM⟩ : ∃ M, recM n x = M := ⟨_, rfl⟩
 obtain ⟨K, hK⟩ : ∃ K, keyN s bankL = K := ⟨_, rfl⟩
 have hMl : Hid (M.length = 20 + x.length) := zH (by rw [← hM]; exact recM_len _ _)
 have hR2 : Hid (R = M ++ nb 32 (macN (nb 32 K) M)) := zH (by rw [← hR, recL, hK, hM])
 have hM2 : Hid (pcb1 ++ be8s [(n : Int), (x.length : Int)] ++ x = M) := zH hM
 have ck := zH (show ∀ w, Calls Tryz.prog 198 #[.agg (bytn 32 s).toArray, .string ⟨#[98, 97, 110, 107]⟩] w fun e w' => e = .returned (.agg (bytn 32 K).toArray) ∧ Below w.heap.size w w' from fun w => by
  rw [← hK]
  exact key_any s ⟨#[98, 97, 110, 107]⟩ zDc w)
 have hcv := fun (w : World) (C : Array Value) (n c : Nat) => Lib.run_convert_bytes_const (P := Tryz.prog) w 26 5 C n c Tryz.underlying26 Tryz.underlying5
 obtain ⟨L, hL⟩ : ∃ L, x.length = L := ⟨_, rfl⟩
 rw [hL] at hx hs hM2 hMl ⊢
 have n0 : (0 : Int) ≤ (n : Int) := by omega
 have n1 : (n : Int) ≤ 1000000000 := by omega
 have l1 : (L : Int) ≤ 4096 := by omega
 replace hs := zH hs
 replace hL := zH hL
 have hx2 := zH hx
 clear hR hM hK hn hx
 obtain ⟨i, hi, hz0, hz1, hz2⟩ := info_parts info_u8
 replace hi := zH hi
 replace hz0 := zH hz0
 replace hz1 := zH hz1
 replace hz2 := zH hz2
 go_enter Tryz.func277, Tryz.ntmps277
 go_upto_region 1 with fail
 refine wp_new1 (fun W hsz k3 kb => ?_)
 replace k3 : Arr W w.heap.size (bytn 32 s) := k3
 obtain ⟨g3, hg3⟩ : ∃ g, w.heap.size = g := ⟨_, rfl⟩
 rw [hg3] at k3 ⊢
 have hW0 : g3 + 1 ≤ W.heap.size := by omega
 replace hg3 := zH hg3
 clear hsz
 go_wp2_with fail
 have n1' : Sl (W.alloc (.cells #[.int .u8 80, .int .u8 67, .int .u8 66, .int .u8 49] 5 (4, 5))) (.slice (some ⟨W.heap.size, 0, none⟩) 4 4) (u8s pcb1) := Sl.newMk _ _ _ _ _ rfl _ rfl zDc
 have n2 := n1'.alloc (.cells #[.int .i64 (n : Int), .int .i64 (L : Int)] 3)
 have n3 : Sl ((W.alloc (.cells #[.int .u8 80, .int .u8 67, .int .u8 66, .int .u8 49] 5 (4, 5))).alloc (.cells #[.int .i64 (n : Int), .int .i64 (L : Int)] 3)) (.slice (some ⟨W.heap.size + 1, 0, none⟩) 2 2) (([(n : Int), (L : Int)] : List Int).map (.int .i64)) := Sl.newMk _ _ _ _ _ (by simp) _ rfl zDc
 refine (packInt_any _ _ pcb1 [(n : Int), (L : Int)] _ n2 n3 (by simp [pcb1])).mono ?_
 rintro e w2 ⟨v2, rfl, o2, hb2⟩
 have hb3 := bel ((below_alloc W (.cells #[.int .u8 80, .int .u8 67, .int .u8 66, .int .u8 49] 5 (4, 5))).alloc (by simp) (.cells #[.int .i64 (n : Int), .int .i64 (L : Int)] 3)) hb2
 have hbW := hb3
 replace k3 := k3.below hb3
 have hsW := hs.out.below kb
 have hs2 := zH (hsW.below hb3)
 replace kb := bel kb hb3
 have hsz2 : g3 + 1 ≤ w2.heap.size := by have := hb3.size; omega
 have o2' := own_mono (base' := g3 + 1) o2 (by simp; omega)
 clear n1' n2 n3 hb2 hb3 o2 hsW hbW
 obtain ⟨P, hP⟩ : ∃ P, pcb1 ++ be8s [(n : Int), (L : Int)] = P := ⟨_, rfl⟩
 rw [hP] at o2' hM2
 have hPl : Hid (P.length = 20) := zH (by rw [← hP]; simp [pcb1, be8s_len])
 clear hP
 go_upto_region 6 with (at_builtin; refine wpList_append_sl rfl _ _ 26 rfl (g3 + 1) 5 Tryz.underlying26 hi.out hz0.out hz1.out hz2.out rfl _ _ _ rfl o2' _ (u8s x) rfl hs2.out (u8s_one x) ?c2 ?c3 hsz2 (fun v8 w3 hown hg => ?_))
 case c2 => rw [hPl.out, u8s_len, hL.out]; have := hx2.out; unfold maxLen; omega
 case c3 => rw [hPl.out, u8s_len, hL.out]; have := hx2.out; omega
 have hb4 : Below (g3 + 1) w2 w3 := below_grown (Below.refl _ _) o2' hsz2 hg
 replace k3 := k3.belowB hb4 (Nat.lt_succ_self _)
 replace kb := kb.trans (hb4.mono (by have := hg3.out; omega))
 have hsz3 : g3 + 1 ≤ w3.heap.size := by have := hb4.size; omega
 rw [u8s_len, ← List.length_append, ← u8s_append, hM2.out] at hown
 obtain ⟨a8, c8, he8, -⟩ := Sl.of_own hown
 rw [u8s_len] at he8
 subst he8
 have o8 := zH hown
 clear hown hg hb4 o2' hs2 hsz2 hM2 hPl
 go_wp2_with (refine wpList_load_arr2 rfl _ _ rfl _ rfl zDk _ k3 (by rw [bytn_len]; kernel_rfl) ?_)
 refine (ck.out _).mono ?_
 rintro e w4 ⟨rfl, hb⟩
 replace kb := bel kb hb
 have hsz4 : g3 + 1 ≤ w4.heap.size := by have := hb.size; omega
 have o9 := zH (own_below o8.out hb)
 clear hb k3 o8 hsz3 ck
 go_upto_region 7 with (refine wpl_storeG rfl _ _ _ rfl _ (bytn 32 K) rfl rfl _ (Arr.new _ _ _) (by rw [bytn_len]; kernel_rfl) (by rw [bytn_len]; rfl) (bytn_one _ _) (fun w5 k9 hg hsz => ?_))
 have hb := below_fresh hg
 replace kb := bel kb hb
 have hsz5 : g3 + 1 ≤ w5.heap.size := by have := hb.size; omega
 have o10 := zH (own_below o9.out hb)
 obtain ⟨g9, hg9⟩ : ∃ g, w4.heap.size = g := ⟨_, rfl⟩
 rw [hg9] at k9 ⊢
 clear hb hsz hg hg9 o9 hsz4
 rw [nb_u8s] at k9
 have h9 := Sl.ofArrN k9 (nb_len 32 K) zDc
 have hS8 := Sl.of_own o10.out
 have hSs : Sls (w5.alloc (.cells #[.slice a8 M.length c8] 26)) (.slice (some ⟨w5.heap.size, 0, none⟩) 1 1) [M] := Sls.new1 hS8 _
 obtain ⟨N, hN⟩ : ∃ N, macN (nb 32 K) M = N := ⟨_, rfl⟩
 have cm := macsum_any (some ⟨g9, 0, none⟩) (some ⟨w5.heap.size, 0, none⟩) 32 1 (nb 32 K) [M] (by simp) _ (by rw [nb_len]; exact h9.alloc _) hSs
 rw [nb_len, show [M].flatten = M by simp, hN, show [M].length = 1 from rfl] at cm
 replace cm := zH cm
 have hR3 : Hid (R = M ++ nb 32 N) := zH (by rw [hR2.out, hN])
 clear hSs hS8 h9 k9 hN hR2
 go_wp2_with fail
 refine cm.out.mono ?_
 rintro e w6 ⟨rfl, hb0⟩
 have hb := bel (below_alloc w5 (.cells #[.slice a8 M.length c8] 26)) hb0
 replace kb := bel kb hb
 have hsz6 : g3 + 1 ≤ w6.heap.size := by have := hb.size; omega
 have o11 := zH (own_below o10.out hb)
 clear hb0 hb o10 cm hsz5
 go_upto_region 8 with (refine wpl_storeG rfl _ _ _ rfl _ (bytn 32 N) rfl rfl _ (Arr.new _ _ _) (by rw [bytn_len]; kernel_rfl) (by rw [bytn_len]; rfl) (bytn_one _ _) (fun w7 k10 hg hsz => ?_))
 have hb := below_fresh hg
 replace kb := bel kb hb
 have hsz7 : g3 + 1 ≤ w7.heap.size := by have := hb.size; omega
 have o12 := zH (own_below o11.out hb)
 obtain ⟨g10, hg10⟩ : ∃ g, w6.heap.size = g := ⟨_, rfl⟩
 rw [hg10] at k10 ⊢
 clear hb hsz hg hg10 o11 hsz6
 rw [nb_u8s] at k10
 have h10 := zH (Sl.ofArrN k10 (nb_len 32 N) zDc)
 clear k10
 go_wp2_with (at_builtin; refine wpList_append_sl rfl _ _ 26 rfl (g3 + 1) 5 Tryz.underlying26 hi.out hz0.out hz1.out hz2.out rfl _ _ _ rfl o12.out _ (u8s (nb 32 N)) rfl h10.out (u8s_one _) ?c2 ?c3 hsz7 (fun v9 w8 hown hg => ?_))
 case c2 => rw [hMl.out, u8s_len, nb_len]; have := hx2.out; unfold maxLen; omega
 case c3 => rw [hMl.out, u8s_len, nb_len]; have := hx2.out; omega
 have hb4 : Below (g3 + 1) w7 w8 := below_grown (Below.refl _ _) o12.out hsz7 hg
 replace kb := kb.trans (hb4.mono (by have := hg3.out; omega))
 rw [u8s_len, ← List.length_append, ← u8s_append, ← hR3.out] at hown
 go_wp2_with fail
 go_ret2
 exact ⟨v9, rfl, own_mono hown (by have := hg3.out; omega), kb⟩
def rdn (bs : List UInt8) : Nat := bs.foldl (fun a b => a * 256 + b.toNat) 0
theorem rdn_snoc (bs : List UInt8) (c : UInt8) : rdn (bs ++ [c]) = rdn bs * 256 + c.toNat := by simp [rdn]
def CBuf (w : World) (g : Nat) (v : Value) (rest : List UInt8) : Prop :=
 (v = .slice none 0 0 ∧ rest = []) ∨
 ∃ b o cap, v = .slice (some ⟨b, o, none⟩) rest.length cap ∧ rest.length ≤ cap ∧ cap ≤ maxLen ∧ b < g ∧ b < w.heap.size ∧ ∀ j u, (u8s rest)[j]? = some u → w.cell? ⟨b, o + j, none⟩ = some u
def Cur (w : World) (g : Nat) (rest : List UInt8) (bad : Bool) : Prop :=
 ∃ v, w.cell? ⟨g, 0, none⟩ = some v ∧ w.cell? ⟨g, 1, none⟩ = some (.bool bad) ∧ w.frozen? ⟨g, 0, none⟩ = false ∧ w.frozen? ⟨g, 1, none⟩ = false ∧ CBuf w g v rest
theorem CBuf.sl {w : World} {g : Nat} {v : Value} {rest : List UInt8} (h : CBuf w g v rest) : Sl w v (u8s rest) := by
 rcases h with ⟨rfl, rfl⟩ | ⟨b, o, cap, rfl, h1, h2, h3, h4, h5⟩
 · exact Sl.nil w
 · refine ⟨some ⟨b, o, none⟩, cap, by rw [u8s_len], by rw [u8s_len]; exact h1, h2, fun h => (by cases h), fun x hx => ?_⟩
   cases hx
   intro j u hu
   rw [Addr.add_lit]
   exact h5 j u hu
theorem CBuf.grown {w w' : World} {g k : Nat} {v : Value} {rest : List UInt8} (h : CBuf w g v rest) (hg : w.grownBy w' (some k)) (hk : k = g ∨ w.heap.size ≤ k) : CBuf w' g v rest := by
 rcases h with h | ⟨b, o, cap, rfl, h1, h2, h3, h4, h5⟩
 · exact .inl h
 · refine .inr ⟨b, o, cap, rfl, h1, h2, h3, Nat.lt_of_lt_of_le h4 hg.size, fun j u hu => ?_⟩
   exact hg.cell (h5 j u hu) (by simp only [ne_eq, Option.some.injEq]; omega)
theorem CBuf.below {w w' : World} {g : Nat} {v : Value} {rest : List UInt8} (h : CBuf w g v rest) (hg : Below w.heap.size w w') : CBuf w' g v rest := by
 rcases h with h | ⟨b, o, cap, rfl, h1, h2, h3, h4, h5⟩
 · exact .inl h
 · refine .inr ⟨b, o, cap, rfl, h1, h2, h3, Nat.lt_of_lt_of_le h4 hg.size, fun j u hu => ?_⟩
   rw [hg.cell (p := ⟨b, o + j, none⟩) h4]
   exact h5 j u hu
theorem Cur.lt {w : World} {g : Nat} {rest : List UInt8} {bad : Bool} (h : Cur w g rest bad) : g < w.heap.size := by
 obtain ⟨v, h1, _⟩ := h
 exact World.block_lt_of_cell? w _ h1
theorem Cur.below {w w' : World} {g : Nat} {rest : List UInt8} {bad : Bool} (h : Cur w g rest bad) (hg : Below w.heap.size w w') : Cur w' g rest bad := by
 have hlt := h.lt
 obtain ⟨v, h1, h2, h3, h4, h5⟩ := h
 exact ⟨v, by rw [hg.cell (p := ⟨g, 0, none⟩) hlt]; exact h1, by rw [hg.cell (p := ⟨g, 1, none⟩) hlt]; exact h2, by rw [hg.frozen (p := ⟨g, 0, none⟩) hlt]; exact h3, by rw [hg.frozen (p := ⟨g, 1, none⟩) hlt]; exact h4, h5.below hg⟩
theorem below_grownBy {w w' : World} (h : Below w.heap.size w w') (row : Option Nat) : w.grownBy w' row := ⟨h.os, h.tape, h.output, h.size, fun k hk _ => h.block k hk⟩
theorem grownBy_trans {a b c : World} {row : Option Nat} (h : a.grownBy b row) (k : b.grownBy c row) : a.grownBy c row :=
 ⟨k.os.trans h.os, k.tape.trans h.tape, k.output.trans h.output, Nat.le_trans h.size k.size, fun i hi hn => (k.block i (Nat.lt_of_lt_of_le hi h.size) hn).trans (h.block i hi hn)⟩
theorem grownBy_set {w w' : World} {g o : Nat} {u : Value} (h : w.grownBy w' (some g)) : w.grownBy (w'.setCell ⟨g, o, none⟩ u) (some g) :=
 grownBy_trans h ⟨rfl, rfl, rfl, by simp [World.setCell], fun k _ hn => Below.heap_setCell _ _ _ _ (by simpa using hn)⟩
theorem packNew_any (vb : Value) (bs : List UInt8) (w : World) (hb : Sl w vb (u8s bs)) (hr : bs.length ≤ 140737488355328) :
 Calls Tryz.prog 230 #[vb] w fun e w' => ∃ g, e = .returned (.pointer (some ⟨g, 0, none⟩)) ∧ w.heap.size ≤ g ∧ Cur w' g bs false ∧ Below w.heap.size w w' := by
 go_enter Tryz.func230, Tryz.ntmps230
 go_wp2_with fail
 refine (clone_any vb bs w hb hr).mono ?_
 rintro e w1 ⟨v1, rfl, hown, hbel, -⟩
 have hv : CBuf w1 w1.heap.size v1 bs := by
  rcases hown.2 with ⟨rfl, h0⟩ | ⟨gb, cap, cur, rfl, h1, h2, h3, h4, h5, h6⟩
  · exact .inl ⟨rfl, List.eq_nil_of_length_eq_zero h0⟩
  · refine .inr ⟨gb, 0, cap, rfl, h3, h4, ?_, (Array.getElem?_eq_some_iff.1 h2).1, fun j u hu => ?_⟩
    · have := (Array.getElem?_eq_some_iff.1 h2).1; omega
    · have := World.ownsRow.cells hown rfl j u hu
      rwa [Addr.add_lit] at this
 clear hown
 have hsh : ∃ a n c, v1 = .slice a n c := by rcases hv with ⟨rfl, _⟩ | ⟨b, o, cap, rfl, _⟩ <;> exact ⟨_, _, _, rfl⟩
 obtain ⟨a, n, c, rfl⟩ := hsh
 have hv' := zH hv
 clear hv
 go_wp2
 go_ret
 refine ⟨w1.heap.size, rfl, hbel.size, ⟨_, ?_, ?_, ?_, ?_, (hv'.out.below (below_alloc _ _))⟩, hbel.alloc hbel.size _⟩
 · rw [World.cell?_alloc_at _ _ _ _ rfl]; rfl
 · rw [World.cell?_alloc_at _ _ _ _ rfl]; rfl
 · exact World.frozen?_alloc_at _ _ _ _ rfl
 · exact World.frozen?_alloc_at _ _ _ _ rfl
section
variable {P : Program} {a : Act} {w : World} {Q : Exit → Act → World → Prop}
theorem jump_at {l : Nat} {A : Act} {W : World} : l = l ∧ A = A ∧ W = W := ⟨rfl, rfl, rfl⟩
theorem wp_scope_fwd {c rest : Code} (l : Nat) (A : Act) (W : World) (hf : findLabel c l = some rest) (first : c.wp P (Exit.jump l (fun a' w' => a' = A ∧ w' = W) Q) a w)
 (pass : rest.wp P (Exit.noGoto Q) A W) : (Code.scope c).wp P Q a w := by
 refine wp_scope_jumps l (fun a' w' => a' = A ∧ w' = W) (fun _ _ => 0) hf first ?_
 rintro a' w' ⟨rfl, rfl⟩
 refine Code.wp_mono ?_ pass
 intro e a w h
 cases e <;> first | exact h | exact (h : False).elim
theorem wp_scope_none {c : Code} (h : c.wp P (Exit.noGoto Q) a w) : (Code.scope c).wp P Q a w := wp_scope_straight h
end
theorem raw_bad (g : Nat) (rest : List UInt8) (n : Int) (w : World) (hc : Cur w g rest true) :
 Calls Tryz.prog 231 #[.pointer (some ⟨g, 0, none⟩), .int .i64 n] w fun e w' => e = .returned (.slice none 0 0) ∧ w' = w := by
 obtain ⟨v, h0, h1, f0, f1, -⟩ := hc
 go_enter Tryz.func231, Tryz.ntmps231
 go_wp2_with fail
 go_step3
 go_wp2_with fail
 try rw [Exit.noGoto_ret]
 go_ret
 exact ⟨rfl, rfl⟩
theorem cur_gone {w : World} {g : Nat} {v : Value} {bad : Bool} (h0 : w.cell? ⟨g, 0, none⟩ = some v) (h1 : w.cell? ⟨g, 1, none⟩ = some (.bool bad)) (f0 : w.frozen? ⟨g, 0, none⟩ = false) (f1 : w.frozen? ⟨g, 1, none⟩ = false) :
 w.grownBy ((w.setCell ⟨g, 0, none⟩ (.slice none 0 0)).setCell ⟨g, 1, none⟩ (.bool true)) (some g) ∧ Cur ((w.setCell ⟨g, 0, none⟩ (.slice none 0 0)).setCell ⟨g, 1, none⟩ (.bool true)) g [] true := by
 have h1' : (w.setCell ⟨g, 0, none⟩ (.slice none 0 0)).cell? ⟨g, 1, none⟩ = some (.bool bad) := by
  rw [World.cell?_setCell_other _ _ _ _ (by simp)]; exact h1
 refine ⟨grownBy_set (grownBy_set (World.grownBy.refl _ _)), .slice none 0 0, ?_, ?_, ?_, ?_, .inl ⟨rfl, rfl⟩⟩
 · rw [World.cell?_setCell_other _ _ _ _ (by simp), World.cell?_setCell_same _ _ _ h0]
 · rw [World.cell?_setCell_same _ _ _ h1']
 · rw [World.frozen?_setCell, World.frozen?_setCell]; exact f0
 · rw [World.frozen?_setCell, World.frozen?_setCell]; exact f1
theorem raw_no (g : Nat) (rest : List UInt8) (n : Int) (w : World) (hc : Cur w g rest false) (hn : n < 0 ∨ (rest.length : Int) < n) :
 Calls Tryz.prog 231 #[.pointer (some ⟨g, 0, none⟩), .int .i64 n] w fun e w' => e = .returned (.slice none 0 0) ∧ w.grownBy w' (some g) ∧ Cur w' g [] true := by
 obtain ⟨v, h0, h1, f0, f1, hb⟩ := hc
 have hsh : ∃ a c, v = .slice a rest.length c := by rcases hb with ⟨rfl, rfl⟩ | ⟨b, o, cap, rfl, _⟩ <;> exact ⟨_, _, rfl⟩
 obtain ⟨a, c, rfl⟩ := hsh
 clear hb
 have hlt := World.block_lt_of_cell? w _ h0
 by_cases hneg : n < 0
 · clear hn
   go_enter Tryz.func231, Tryz.ntmps231
   go_wp2_with fail
   refine wp_scope_fwd 0 ?A1 ?W1 rfl ?first1 ?pass1
   case first1 =>
    go_wp2_with fail
    go_step3
    exact jump_at
   case pass1 =>
    go_wp2_with fail
    try rw [Exit.noGoto_ret]
    go_ret
    exact ⟨rfl, cur_gone h0 h1 f0 f1⟩
 · have hbig : (rest.length : Int) < n := hn.resolve_left hneg
   clear hn
   go_enter Tryz.func231, Tryz.ntmps231
   go_wp2_with fail
   refine wp_scope_fwd 0 ?A2 ?W2 rfl ?first2 ?pass2
   case first2 =>
    go_wp2_with fail
    go_step3
    exact jump_at
   case pass2 =>
    go_wp2_with fail
    try rw [Exit.noGoto_ret]
    go_ret
    exact ⟨rfl, cur_gone h0 h1 f0 f1⟩
theorem Sl.take {w : World} {b o n cap m : Nat} {bs : List UInt8} (hm : m ≤ n) (hn : bs.length = n) (hc : n ≤ cap) (hx : cap ≤ maxLen) (h : ∀ j u, (u8s bs)[j]? = some u → w.cell? ⟨b, o + j, none⟩ = some u) :
 Sl w (.slice (some ⟨b, o, none⟩) m cap) (u8s (bs.take m)) := by
 have hl : (bs.take m).length = m := by rw [List.length_take]; omega
 refine ⟨some ⟨b, o, none⟩, cap, by rw [u8s_len, hl], by rw [u8s_len, hl]; omega, hx, fun h => (by cases h), fun x hx => ?_⟩
 cases hx
 intro j u hu
 rw [Addr.add_lit]
 refine h j u ?_
 have hj : j < m := by
  have := (List.getElem?_eq_some_iff.1 hu).1
  rwa [u8s_len, hl] at this
 rw [← hu]
 simp [u8s, hj]
theorem raw_nil (g : Nat) (w : World) (h0 : w.cell? ⟨g, 0, none⟩ = some (.slice none 0 0)) (h1 : w.cell? ⟨g, 1, none⟩ = some (.bool false)) (f0 : w.frozen? ⟨g, 0, none⟩ = false) :
 Calls Tryz.prog 231 #[.pointer (some ⟨g, 0, none⟩), .int .i64 0] w fun e w' => e = .returned (.slice none 0 0) ∧ w' = w.setCell ⟨g, 0, none⟩ (.slice none 0 0) := by
 go_enter Tryz.func231, Tryz.ntmps231
 go_wp2_with fail
 refine wp_scope_none ?_
 go_wp2_with fail
 refine (clone_nil w).mono ?_
 rintro e w1 ⟨rfl, rfl⟩
 go_wp2_with fail
 try rw [Exit.noGoto_ret]
 go_ret
 exact ⟨rfl, rfl⟩
def RawPost (w : World) (g b o cap m : Nat) (rest : List UInt8) (e : Ending) (w' : World) : Prop :=
 ∃ v w1 ao, e = .returned v ∧ w1.ownsRow w.heap.size 5 1 v m (u8s (rest.take m)) ∧ Below w.heap.size w w1 ∧ (m < rest.length → ao = some ⟨b, o + m, none⟩) ∧ (∃ o', ao = some ⟨b, o', none⟩) ∧
  w' = w1.setCell ⟨g, 0, none⟩ (.slice ao (rest.length - m) (cap - m))
theorem raw_some (g b o cap m : Nat) (rest : List UInt8) (w : World) (h0 : w.cell? ⟨g, 0, none⟩ = some (.slice (some ⟨b, o, none⟩) rest.length cap)) (h1 : w.cell? ⟨g, 1, none⟩ = some (.bool false)) (f0 : w.frozen? ⟨g, 0, none⟩ = false)
 (hc : rest.length ≤ cap) (hx : cap ≤ maxLen) (hm : m ≤ rest.length) (hr : rest.length ≤ 140737488355328) (hcs : Hid (∀ j u, (u8s rest)[j]? = some u → w.cell? ⟨b, o + j, none⟩ = some u)) :
 Calls Tryz.prog 231 #[.pointer (some ⟨g, 0, none⟩), .int .i64 m] w (RawPost w g b o cap m rest) := by
 have hlt := World.block_lt_of_cell? w _ h0
 have hs := zH (Sl.take hm rfl hc hx hcs.out)
 have e1 : (0 : Int) ≤ (m : Int) := by omega
 have e2 : (m : Int) ≤ (rest.length : Int) := by omega
 have e3 : (rest.length : Int) ≤ (cap : Int) := by omega
 go_enter Tryz.func231, Tryz.ntmps231
 go_wp2_with fail
 refine wp_scope_none ?_
 go_wp2_with fail
 refine (clone_any _ (rest.take m) w hs.out (by rw [List.length_take]; omega)).mono ?_
 rintro e w1 ⟨v1, rfl, hown, hbel, -⟩
 have g0 := hbel.cell (p := ⟨g, 0, none⟩) hlt
 have g1 := hbel.frozen (p := ⟨g, 0, none⟩) hlt
 have hown' := zH hown
 clear hown
 go_wp2_with fail
 all_goals (try rw [Exit.noGoto_ret])
 all_goals go_ret
 · refine ⟨v1, w1, some ⟨b, o, none⟩, rfl, ?_, hbel, fun h => by omega, ⟨o, rfl⟩, by simp⟩
   have := hown'.out
   rwa [List.length_take, Nat.min_eq_left hm] at this
 · refine ⟨v1, w1, some ⟨b, o + m, none⟩, rfl, ?_, hbel, fun h => rfl, ⟨o + m, rfl⟩, rfl⟩
   have := hown'.out
   rwa [List.length_take, Nat.min_eq_left hm] at this
def rawS (rest : List UInt8) (bad : Bool) (n : Int) : List UInt8 × List UInt8 × Bool :=
 if bad = true then ([], rest, true) else if n < 0 ∨ (rest.length : Int) < n then ([], [], true) else (rest.take n.toNat, rest.drop n.toNat, false)
def CurPost (w : World) (g : Nat) (r : List UInt8 × List UInt8 × Bool) (e : Ending) (w' : World) : Prop :=
 ∃ v, e = .returned v ∧ w'.ownsRow w.heap.size 5 1 v r.1.length (u8s r.1) ∧ w.grownBy w' (some g) ∧ Cur w' g r.2.1 r.2.2
theorem own_set {w : World} {base : Nat} {e : TypeId} {size : Nat} {v : Value} {n : Nat} {xs : List Value} {g o : Nat} {u : Value} (h : w.ownsRow base e size v n xs) (hg : g < base) : (w.setCell ⟨g, o, none⟩ u).ownsRow base e size v n xs :=
 ownsRow_setCell_below h (by simpa using hg) u
theorem raw_any (g : Nat) (rest : List UInt8) (bad : Bool) (n : Int) (w : World) (hc : Cur w g rest bad) (hr : rest.length ≤ 140737488355328) :
 Calls Tryz.prog 231 #[.pointer (some ⟨g, 0, none⟩), .int .i64 n] w (CurPost w g (rawS rest bad n)) := by
 cases bad with
 | true =>
  refine (raw_bad g rest n w hc).mono ?_
  rintro e w' ⟨rfl, rfl⟩
  exact ⟨_, rfl, World.ownsRow_nil _ _ _ _, World.grownBy.refl _ _, hc⟩
 | false =>
  by_cases hn : n < 0 ∨ (rest.length : Int) < n
  · refine (raw_no g rest n w hc hn).mono ?_
    rintro e w' ⟨rfl, h1, h2⟩
    have e1 : rawS rest false n = ([], [], true) := by simp [rawS, hn]
    rw [e1]
    exact ⟨_, rfl, World.ownsRow_nil _ _ _ _, h1, h2⟩
  · have e1 : rawS rest false n = (rest.take n.toNat, rest.drop n.toNat, false) := by simp [rawS, hn]
    rw [e1]
    obtain ⟨m, rfl⟩ : ∃ m : Nat, n = m := ⟨n.toNat, by omega⟩
    have hm : m ≤ rest.length := by omega
    have hlt := hc.lt
    obtain ⟨v, h0, h1, f0, f1, hb⟩ := hc
    rcases hb with ⟨rfl, rfl⟩ | ⟨b, o, cap, rfl, h2, h3, h4, h5, h6⟩
    · obtain rfl : m = 0 := by simpa using hm
      refine (raw_nil g w h0 h1 f0).mono ?_
      rintro e w' ⟨rfl, rfl⟩
      refine ⟨_, rfl, World.ownsRow_nil _ _ _ _, grownBy_set (World.grownBy.refl _ _), .slice none 0 0, ?_, ?_, ?_, ?_, .inl ⟨rfl, rfl⟩⟩
      · rw [World.cell?_setCell_same _ _ _ h0]
      · rw [World.cell?_setCell_other _ _ _ _ (by simp)]; exact h1
      · rw [World.frozen?_setCell]; exact f0
      · rw [World.frozen?_setCell]; exact f1
    · refine (raw_some g b o cap m rest w h0 h1 f0 h2 h3 hm hr h6).mono ?_
      rintro e w' ⟨v, w1, ao, rfl, k1, k2, k3, ⟨o', k4⟩, rfl⟩
      simp only [Int.toNat_natCast]
      have hg1 : w1.cell? ⟨g, 0, none⟩ = some (.slice (some ⟨b, o, none⟩) rest.length cap) := by rw [k2.cell (p := ⟨g, 0, none⟩) hlt]; exact h0
      have hlen : (rest.drop m).length = rest.length - m := List.length_drop
      refine ⟨v, rfl, ?_, grownBy_set (below_grownBy k2 _), .slice ao (rest.length - m) (cap - m), ?_, ?_, ?_, ?_, .inr ⟨b, o', cap - m, by rw [k4, hlen], by show (rest.drop m).length ≤ _; omega, by unfold maxLen at *; omega, h4, ?_, ?_⟩⟩
      · rw [List.length_take, Nat.min_eq_left hm]; exact own_set k1 hlt
      · rw [World.cell?_setCell_same _ _ _ hg1]
      · rw [World.cell?_setCell_other _ _ _ _ (by simp), k2.cell (p := ⟨g, 1, none⟩) hlt]; exact h1
      · rw [World.frozen?_setCell, k2.frozen (p := ⟨g, 0, none⟩) hlt]; exact f0
      · rw [World.frozen?_setCell, k2.frozen (p := ⟨g, 1, none⟩) hlt]; exact f1
      · have := k2.size; simp only [World.setCell, Array.size_modify]; omega
      · intro j u hu
        have hj : j < rest.length - m := by
         have := (List.getElem?_eq_some_iff.1 hu).1
         rwa [u8s_len, hlen] at this
        have e2 := k3 zOm
        rw [k4] at e2
        cases e2
        rw [World.cell?_setCell_other _ _ _ _ (by simp), k2.cell (p := ⟨b, o + m + j, none⟩) h5, Nat.add_assoc]
        refine h6 (m + j) u ?_
        rw [← hu]
        simp [u8s]
theorem rdn_lt (bs : List UInt8) : rdn bs < 256 ^ bs.length := by
 suffices h : ∀ (bs : List UInt8) (a : Nat), bs.foldl (fun a b => a * 256 + b.toNat) a < (a + 1) * 256 ^ bs.length by simpa [rdn] using h bs 0
 intro bs
 induction bs with
 | nil => intro a; simp
 | cons b bs ih =>
  intro a
  simp only [List.foldl_cons, List.length_cons]
  have h1 := ih (a * 256 + b.toNat)
  have h2 := b.toNat_lt
  refine Nat.lt_of_lt_of_le h1 ?_
  rw [Nat.pow_succ, Nat.mul_comm (256 ^ bs.length) 256, ← Nat.mul_assoc]
  exact Nat.mul_le_mul_right _ zOm
def sgn (n : Nat) : Int := if n < 9223372036854775808 then n else (n : Int) - 18446744073709551616
theorem shl_or {u c : Nat} (hu : u < 72057594037927936) (hc : c < 256) : bits .or .u64 ((u : Int) * 256) (c : Int) = ((u * 256 + c : Nat) : Int) := by
 have e : ((u : Int) * 256) = ((u * 256 : Nat) : Int) := by omega
 rw [e, u64_or_nat _ _ zOm zOm]
 congr 1
 exact nat_join 8 _ _ zOm zOm
theorem wrap64_sgn {n : Nat} (h : n < 18446744073709551616) : wrap64 (n : Int) = sgn n := by
 unfold wrap64 sgn
 split <;> omega
def intS (rest : List UInt8) (bad : Bool) : Int × List UInt8 × Bool := (sgn (rdn (rawS rest bad 8).1), (rawS rest bad 8).2)
theorem rawS_len (rest : List UInt8) (bad : Bool) (n : Int) : (rawS rest bad n).1.length ≤ n.toNat := by
 unfold rawS
 split
 · simp
 · split
   · simp
   · simp only [List.length_take]; omega
def IntPost (w : World) (g : Nat) (r : Int × List UInt8 × Bool) (e : Ending) (w' : World) : Prop :=
 e = .returned (.int .i64 r.1) ∧ w.grownBy w' (some g) ∧ Cur w' g r.2.1 r.2.2
theorem int_any (g : Nat) (rest : List UInt8) (bad : Bool) (w : World) (hc : Cur w g rest bad) (hr : rest.length ≤ 140737488355328) :
 Calls Tryz.prog 232 #[.pointer (some ⟨g, 0, none⟩)] w (IntPost w g (intS rest bad)) := by
 have hl8 := rawS_len rest bad 8
 unfold intS
 generalize hR : rawS rest bad 8 = R at *
 have hR' := zH hR
 clear hR
 obtain ⟨bs, rest', bad'⟩ := R
 simp only at hl8 ⊢
 go_enter Tryz.func232, Tryz.ntmps232
 go_wp2_with fail
 refine (raw_any g rest bad 8 w hc hr).mono ?_
 rintro e w1 ⟨v1, rfl, hown, hg, hcur⟩
 rw [hR'.out] at hown hcur
 simp only at hown hcur
 have hsl := zH (Sl.of_own hown)
 have hsh : ∃ a c, v1 = .slice a bs.length c := by
  obtain ⟨a, c, h, _⟩ := Sl.of_own hown
  exact ⟨a, c, by rw [h, u8s_len]⟩
 obtain ⟨a, c, rfl⟩ := hsh
 have hcur' := zH hcur
 have hg' := zH hg
 clear hown hcur hg hc hR'
 have hbl : bs.length ≤ 8 := by simpa using hl8
 clear hl8
 go_wp2_with fail
 go_loop [3, 9] (fun uv kv => ∃ k : Nat, k ≤ bs.length ∧ kv = .int .i64 k ∧ uv = .int .u64 (rdn (bs.take k))) (fun _ kv => bs.length - (intOf kv).toNat)
 case atStart => exact ⟨0, Nat.zero_le _, rfl, rfl⟩
 case round =>
  obtain ⟨k, hk, rfl, rfl⟩ := hrel
  by_cases hlt : k < bs.length
  · obtain ⟨b, o, rfl, -, -, -, hcs⟩ := hsl.out.at (by rw [u8s_len]; omega)
    have hcell := hcs k _ (u8s_get bs k hlt)
    clear hcs
    have hlo : rdn (bs.take k) < 72057594037927936 := by
     have h1 := rdn_lt (bs.take k)
     have h2 : (bs.take k).length ≤ 7 := by rw [List.length_take]; omega
     have h3 : 256 ^ (bs.take k).length ≤ 256 ^ 7 := Nat.pow_le_pow_right zDc h2
     have h4 : (256 : Nat) ^ 7 = 72057594037927936 := by decide
     omega
    have hc256 := bs[k].toNat_lt
    have hlo2 : (rdn (bs.take k) : Int) < 72057594037927936 := by omega
    have hstep : Hid (rdn (bs.take (k + 1)) = rdn (bs.take k) * 256 + bs[k].toNat) := by
     show _ = _
     rw [List.take_add_one, List.getElem?_eq_getElem hlt, Option.toList, rdn_snoc]
    go_wp2_with fail
    exact ⟨⟨k + 1, by omega, by go_num, by rw [shl_or hlo hc256, hstep.out]⟩, by simp [intOf]; omega⟩
  · have hk' : k = bs.length := by omega
    subst hk'
    rw [List.take_of_length_le (Nat.le_refl _)]
    have hb8 : rdn bs < 18446744073709551616 := by
     have h1 := rdn_lt bs
     have h3 : 256 ^ bs.length ≤ 256 ^ 8 := Nat.pow_le_pow_right zDc hbl
     have h4 : (256 : Nat) ^ 8 = 18446744073709551616 := by decide
     omega
    have hb8' := zH hb8
    clear hb8
    go_wp2_with fail
    go_ret
    refine ⟨?_, hg'.out, hcur'.out⟩
    rw [← wrap64_sgn hb8'.out]
    rfl
theorem own_grown {w w' : World} {base : Nat} {v : Value} {n g : Nat} {xs : List Value} {e : TypeId} {size : Nat} (h : w.ownsRow base e size v n xs) (hg : w.grownBy w' (some g)) (hb : g < base) : w'.ownsRow base e size v n xs :=
 h.kept hg (by
  cases hv : v.ownBlock with
  | none => exact .inl rfl
  | some k =>
   have := (h.lt k hv).1
   exact .inr (by simp only [ne_eq, Option.some.injEq]; omega))
def endS (rest : List UInt8) (bad : Bool) : Bool := !bad && rest.length == 0
theorem end_any (g : Nat) (rest : List UInt8) (bad : Bool) (w : World) (hc : Cur w g rest bad) :
 Calls Tryz.prog 234 #[.pointer (some ⟨g, 0, none⟩)] w fun e w' => e = .returned (.bool (endS rest bad)) ∧ w' = w := by
 obtain ⟨v, h0, h1, f0, f1, hb⟩ := hc
 have hsh : ∃ a c, v = .slice a rest.length c := by rcases hb with ⟨rfl, rfl⟩ | ⟨b, o, cap, rfl, _⟩ <;> exact ⟨_, _, rfl⟩
 obtain ⟨a, c, rfl⟩ := hsh
 clear hb
 cases bad with
 | true =>
  go_enter Tryz.func234, Tryz.ntmps234
  go_wp2_with fail
  go_ret
  exact ⟨rfl, rfl⟩
 | false =>
  go_enter Tryz.func234, Tryz.ntmps234
  go_wp2_with fail
  go_ret
  have e : (!false && rest.length == 0) = ((rest.length : Int) == 0) := by rw [Bool.eq_iff_iff]; simp
  exact ⟨by rw [endS, e]; rfl, rfl⟩
theorem Sl.shape {w : World} {v : Value} {bs : List UInt8} (h : Sl w v (u8s bs)) : ∃ a c, v = .slice a bs.length c ∧ bs.length ≤ c := by
 obtain ⟨a, c, h1, h2, _⟩ := h
 rw [u8s_len] at h1 h2
 exact ⟨a, c, h1, h2⟩
theorem Sl.cut {w : World} {a : Option Addr} {n c k : Nat} {bs : List UInt8} (h : Sl w (.slice a n c) (u8s bs)) (hk : k ≤ bs.length) : Sl w (.slice a k c) (u8s (bs.take k)) := by
 obtain ⟨a', c', h1, h2, h3, h4, h5⟩ := h
 simp only [Value.slice.injEq] at h1
 obtain ⟨rfl, rfl, rfl⟩ := h1
 rw [u8s_len] at h2
 have hl : (bs.take k).length = k := by rw [List.length_take]; omega
 refine ⟨a, c, by rw [u8s_len, hl], by rw [u8s_len, hl]; omega, h3, h4, fun x hx j u hu => h5 x hx j u ?_⟩
 have hj : j < k := by
  have := (List.getElem?_eq_some_iff.1 hu).1
  rwa [u8s_len, hl] at this
 rw [← hu]
 simp [u8s, hj]
theorem strBk {w : World} {v : Value} {bs : List UInt8} (h : Sl w v (u8s bs)) : (convert 26 9 v).run Tryz.prog w = .ok (.string ⟨bs.toArray⟩) w :=
 run_string_sl h _ _ _ Tryz.underlying26 Tryz.underlying5 Tryz.underlying9
def hJ (w : World) (a' : Act) (w' : World) : Prop := a'.defers = [] ∧ a'.tmps.size = 84 ∧ Below w.heap.size w w'
theorem half_fresh (p g s k : Nat) (F : Fl) (w : World) (k0 : FlAt w p g F) (hd : F.dead = false) (hlen : 16384 ≤ F.b.length) (hk : k < 2) (hf : (F.b.drop (8192 * k)).take 4 = [255, 255, 255, 255]) :
 Calls Tryz.prog 275 #[.pointer (some ⟨p, 0, none⟩), .agg (bytn 32 s).toArray, .int .i64 (k : Int)] w fun e w' => e = .returned (.tuple #[.int .i64 0, .slice none 0 0, .bool false]) ∧ Below w.heap.size w w' := by
 have hl := k0.len
 obtain ⟨o, ho⟩ : ∃ o, 8192 * k = o := ⟨_, rfl⟩
 rw [ho] at hf
 have cR := zH (show ∀ w', Below w.heap.size w w' → Calls Tryz.prog 307 #[.pointer (some ⟨p, 0, none⟩), .int .i64 (o : Int), .int .i64 4148] w' _ from fun w' hb => fread_any p g o 4148 F w' (k0.below hb) hd zOm zOm)
 have cD := zH (show ∀ w', Below w.heap.size w w' → Calls Tryz.prog 148 #[.pointer (some ⟨p, 0, none⟩)] w' (fun e w2 => e = .returned (.bool false) ∧ w2 = w') from fun w' hb => by have := fdead_any p g F w' (k0.below hb); rwa [hd] at this)
 obtain ⟨q, hq⟩ : ∃ q, F.b.length / 256 = q := ⟨_, rfl⟩
 have hq64 : (64 : Int) ≤ (q : Int) := by omega
 have cS := zH (show ∀ w', Below w.heap.size w w' → Calls Tryz.prog 126 #[.pointer (some ⟨p, 0, none⟩)] w' (fun e w2 => e = .returned (.int .i64 (q : Int)) ∧ w2 = w') from fun w' hb => by have := fsize_any p g F w' (k0.below hb); rwa [hq] at this)
 have hbl : ((F.b.drop o).take 4148).length = 4148 := by rw [List.length_take, List.length_drop]; omega
 obtain ⟨B, hB⟩ : ∃ B, (F.b.drop o).take 4148 = B := ⟨_, rfl⟩
 have hB4 : Hid (B.take 4 = [255, 255, 255, 255]) := zH (by rw [← hB, List.take_take]; exact hf)
 rw [hB] at cR hbl
 replace hbl := zH hbl
 have k1 : (k : Int) < 2 := by omega
 have k00 : (0 : Int) ≤ (k : Int) := by omega
 have hoI : (k : Int) * 32 * 256 = (o : Int) := by omega
 clear hf hB hq hl ho hlen hd k0
 go_enter Tryz.func275, Tryz.ntmps275
 go_wp2_with fail
 refine wp_scope_jumps 0 (hJ w) (fun _ _ => 0) rfl ?_ ?_
 rotate_left
 · rintro ⟨T, D⟩ wr ⟨hD, hT, kb⟩
   have hTe : T = (slta T 0 :: slta T 1 :: slta T 2 :: slta T 3 :: slta T 4 :: slta T 5 :: slta T 6 :: slta T 7 :: slta T 8 :: slta T 9 :: slta T 10 :: slta T 11 :: slta T 12 :: slta T 13 :: slta T 14 :: slta T 15 :: slta T 16 :: slta T 17 :: slta T 18 :: slta T 19 :: slta T 20 :: slta T 21 :: slta T 22 :: slta T 23 :: slta T 24 :: slta T 25 :: slta T 26 :: slta T 27 :: slta T 28 :: slta T 29 :: slta T 30 :: slta T 31 :: slta T 32 :: slta T 33 :: slta T 34 :: slta T 35 :: slta T 36 :: slta T 37 :: slta T 38 :: slta T 39 :: slta T 40 :: slta T 41 :: slta T 42 :: slta T 43 :: slta T 44 :: slta T 45 :: slta T 46 :: slta T 47 :: slta T 48 :: slta T 49 :: slta T 50 :: slta T 51 :: slta T 52 :: slta T 53 :: slta T 54 :: slta T 55 :: slta T 56 :: slta T 57 :: slta T 58 :: slta T 59 :: slta T 60 :: slta T 61 :: slta T 62 :: slta T 63 :: slta T 64 :: slta T 65 :: slta T 66 :: slta T 67 :: slta T 68 :: slta T 69 :: slta T 70 :: slta T 71 :: slta T 72 :: slta T 73 :: slta T 74 :: slta T 75 :: slta T 76 :: slta T 77 :: slta T 78 :: slta T 79 :: slta T 80 :: slta T 81 :: slta T 82 :: slta T 83 :: []).toArray := (framea T 84 hT).trans zKr
   simp only at hD
   subst hD
   rw [hTe]
   clear hTe hT
   go_wp2_with fail
   simp only [Exit.jump]
   go_ret3
   exact ⟨rfl, kb⟩
 go_wp2_with fail
 have kb := below_alloc w (.cells (bytn 32 s).toArray 34)
 refine (cD.out _ kb).mono ?_
 rintro e w1 ⟨rfl, hw⟩
 subst hw
 go_wp2_with fail
 refine (cS.out _ kb).mono ?_
 rintro e w2 ⟨rfl, hw⟩
 subst hw
 go_wp2_with fail
 refine (cR.out _ kb).mono ?_
 rintro e w3 ⟨v3, rfl, o3, hb3⟩
 replace kb := bel kb hb3
 have hS3 := Sl.of_own o3
 obtain ⟨a3, c3, e3, -⟩ := id hS3
 rw [u8s_len, hbl.out] at e3
 subst e3
 have cN := zH (packNew_any _ B w3 hS3 (by rw [hbl.out]; decide))
 clear hb3 o3 cR cS cD hS3
 go_wp2_with fail
 refine cN.out.mono ?_
 rintro e w4 ⟨gc, rfl, hgc, kc, hb4⟩
 have hgc2 : w.heap.size ≤ gc := by have := kb.size; omega
 replace kb := bel kb hb4
 have cW := zH (raw_any gc B false 4 w4 kc (by rw [hbl.out]; decide))
 clear hgc hb4 cN kc
 go_wp2_with fail
 refine cW.out.mono ?_
 rintro e w5 ⟨v5, rfl, o5, hg5, kc⟩
 have hb5 := below_gr kb hg5 hgc2 kb.size
 have hr : (rawS B false 4).1 = [255, 255, 255, 255] := by
  have h1 : ¬ ((B.length : Int) < 4) := by rw [hbl.out]; decide
  simp only [rawS, Bool.false_eq_true, if_false, h1, or_false, show ¬ (4 : Int) < 0 by decide]
  exact hB4.out
 have hst := strBk (Sl.of_own o5)
 rw [hr] at hst
 replace hr := zH hr
 clear o5 hg5 kc cW kb
 go_wp2_with fail
 go_step3
 exact ⟨rfl, rfl, rfl, hb5⟩
def bkv (p q : Nat) (kept : Value) (half : Int) (dead : Bool) : List Value := [.pointer (some ⟨p, 0, none⟩), .pointer (some ⟨q, 0, none⟩), kept, .int .i64 half, .bool dead]
def Unmarked (F : Fl) : Prop := ∀ k, k < 2 → (F.b.drop (8192 * k)).take 4 = [255, 255, 255, 255]
theorem has_none (b p q g r s : Nat) (c m num : Int) (kept : Value) (half : Int) (dead : Bool) (F : Fl) (w : World) (kb0 : Arr w b (bkv p q kept half dead)) (ko : Arr w q (otv (some ⟨p, 0, none⟩) r s c m)) (kf : FlAt w p g F) (hd : F.dead = false) (hlen : 16384 ≤ F.b.length) (hf : Unmarked F) :
 Calls Tryz.prog 227 #[.pointer (some ⟨b, 0, none⟩), .int .i64 num] w fun e w' => e = .returned (.bool false) ∧ Below w.heap.size w w' := by
 have cS := zH (fun w' (hb : Below w.heap.size w w') => osecret_any q (some ⟨p, 0, none⟩) r s c m w' (ko.below hb))
 have cH := zH (fun w' k (hk : k < 2) (hb : Below w.heap.size w w') => half_fresh p g s k F w' (kf.below hb) hd hlen hk (hf k hk))
 have c0 : Hid (∀ w', Below w.heap.size w w' → w'.cell? ⟨b, 0, none⟩ = some (.pointer (some ⟨p, 0, none⟩)) ∧ w'.cell? ⟨b, 1, none⟩ = some (.pointer (some ⟨q, 0, none⟩))) := zH (fun w' hb => ⟨(kb0.below hb).cell (j := 0) rfl, (kb0.below hb).cell (j := 1) rfl⟩)
 have kb := Below.refl w.heap.size w
 clear kb0 ko kf hd hlen hf
 go_enter Tryz.func227, Tryz.ntmps227
 go_wp2_with fail
 go_loopw [9] (fun iv wr => ∃ i : Nat, i ≤ 2 ∧ iv = .int .i64 i ∧ Below w.heap.size w wr) (fun iv _ => 2 - (intOf iv).toNat)
 case atStart => exact ⟨0, by omega, rfl, kb⟩
 case round =>
 clear kb
 obtain ⟨i, hi, rfl, kb⟩ := hrel
 have hi0 : (0 : Int) ≤ (i : Int) := by omega
 by_cases hin : i < 2
 · have hi1 : (i : Int) < 2 := by omega
   have cHi := zH (fun w' hb => cH.out w' i hin hb)
   go_upto_region 4 with fail
   obtain ⟨wq, rfl⟩ : ∃ wq : World, wq = wr := ⟨_, rfl⟩
   refine Tx.start (fun w' => Below (wq).heap.size (wq) w') 9999 18 rfl zKr ?_
   have hS_1 : Below (wq).heap.size (wq) (World.drew wq) := (Below.refl _ _).drew
   refine Tx.seg (A := ?_) 9 767 zKr (by exact hS_1) [0, 1, 2, 3, 4, 5, 6, 7, 9] zKr ?_ ?_
   rotate_left
   · intro w' hB
     obtain ⟨f0, f1⟩ := c0.out w' (bel kb hB)
     exact zRd
   refine Tx.eff 8 1023 rfl zDk (fun K hK => ?_)
   go_simp
   refine (cS.out _ (bel kb hS_1)).mono ?_
   rintro e w_2 ⟨rfl, hb_2⟩
   have hS_2 := ext_trans hS_1 (Nat.le_refl _) hb_2
   refine hK (fun w' => Below (wq).heap.size (wq) w') _ _ hS_2 (fun _ h => h) ?_
   clear hK K hb_2 hS_1
   try simp only [Act.put, zSa, zSz, zSs]
   refine Tx.eff 10 2047 rfl zDk (fun K hK => ?_)
   go_simp
   refine (cHi.out _ (bel kb hS_2)).mono ?_
   rintro e w_3 ⟨rfl, hb_3⟩
   have hS_3 := ext_trans hS_2 (Nat.le_refl _) hb_3
   refine hK (fun w' => Below (wq).heap.size (wq) w') _ _ hS_3 (fun _ h => h) ?_
   clear hK K hb_3 hS_2
   try simp only [Act.put, zSa, zSz, zSs]
   refine Tx.seg (A := ?_) 0 262143 zKr (by exact hS_3) [11, 12, 13, 14, 15, 16, 17] zKr ?_ ?_
   rotate_left
   · intro w' hB
     exact zRd
   refine Tx.done zKr ?_
   replace kb := bel kb hS_3
   go_wp2_with fail
   exact ⟨⟨i + 1, by omega, by go_num, kb⟩, by simp [intOf]; omega⟩
 · have dj : decide ((i : Int) < 2) = false := decide_eq_false zOm
   go_wp2_with fail
   go_ret
   exact ⟨rfl, kb⟩
def erS (b : List UInt8) (o : Nat) : Nat → List UInt8
 | 0 => b
 | j + 1 => erB (erS b o j) (o + 256 * j) 256
theorem erS_len (b : List UInt8) (o : Nat) : ∀ j, (erS b o j).length = b.length
 | 0 => rfl
 | j + 1 => by rw [erS, erB_len, erS_len b o j]
def wrB (b : List UInt8) (o : Nat) (xs : List UInt8) : List UInt8 := prB (erS b o ((xs.length + 255) / 256)) o xs xs.length
theorem wrB_len (b : List UInt8) (o : Nat) (xs : List UInt8) : (wrB b o xs).length = b.length := by rw [wrB, prB_len, erS_len]
theorem same_below {P : Program} {f : FuncId} {args : Array Value} {E : Ending} {w : World} (h : Calls P f args w fun e w' => e = E ∧ w' = w) : Calls P f args w fun e w' => e = E ∧ Below w.heap.size w w' :=
 h.mono fun _ _ h => ⟨h.1, by rw [h.2]; exact Below.refl _ _⟩
structure BkAt (w : World) (b p q g r s : Nat) (c m : Int) (kept : Value) (half : Nat) (dead : Bool) (F : Fl) : Prop where
 bk : Arr w b (bkv p q kept half dead)
 ot : Arr w q (otv (some ⟨p, 0, none⟩) r s c m)
 fl : FlAt w p g F
 bp : b ≠ p
 bq : b ≠ q
 bg : b ≠ g
 qp : q ≠ p
 qg : q ≠ g
 h2 : half < 2
 len : 16384 ≤ F.b.length
theorem BkAt.below {w w' : World} {b p q g r s : Nat} {c m : Int} {kept : Value} {half : Nat} {dead : Bool} {F : Fl} (h : BkAt w b p q g r s c m kept half dead F) (hb : Below w.heap.size w w') : BkAt w' b p q g r s c m kept half dead F :=
 ⟨h.bk.below hb, h.ot.below hb, h.fl.below hb, h.bp, h.bq, h.bg, h.qp, h.qg, h.h2, h.len⟩
theorem bwrite_never (b p q g r s c m h : Nat) (kept : Value) (dead : Bool) (F : Fl) (a : Option Addr) (ca : Nat) (x : List UInt8) (w : World) (k0 : BkAt w b p q g r s (c : Int) (m : Int) kept h dead F) (hop : F.op = -1) (hd : F.dead = false) (hcm : c < m) (hm : m ≤ 1000000) (hx : x.length ≤ 4096) (hs : Sl w (.slice a x.length ca) (u8s x)) (hav : ∀ y, a = some y → y.block ∉ [p, g, q, b]) :
 Calls Tryz.prog 229 #[.pointer (some ⟨b, 0, none⟩), .slice a x.length ca] w fun e w' => e = .returned (.int .i64 0) ∧
  (∃ v F', (v = .slice none 0 0 ↔ a = none) ∧ Sl w' v (u8s x) ∧ F'.b = wrB F.b (8192 * (1 - h)) (recL s ((c + 1 : Nat) : Int) x) ∧ F'.op = -1 ∧ F'.dead = false ∧ BkAt w' b p q g r s ((c + 1 : Nat) : Int) (m : Int) v (1 - h) dead F') ∧ Ch [p, g, q, b] w w' := by
 have h2 := k0.h2
 have hlen := k0.len
 have hpl := k0.fl.lt
 have cS := zH (fun w' (hb : Below w.heap.size w w') => osecret_any q (some ⟨p, 0, none⟩) r s c m w' (k0.ot.below hb))
 have cC := zH (fun w' (hb : Below w.heap.size w w') => same_below (ocount_any q (some ⟨p, 0, none⟩) r s c m w' (k0.ot.below hb)))
 have cR := zH (fun w' (hb : Below w.heap.size w w') => record_any s (c + 1) a ca x zOm hx w' (hs.below hb))
 obtain ⟨R, hR⟩ : ∃ R, recL s ((c + 1 : Nat) : Int) x = R := ⟨_, rfl⟩
 have hRl : Hid (R.length = 52 + x.length) := zH (by rw [← hR, recL_len])
 rw [hR] at cR ⊢
 obtain ⟨L, hL⟩ : ∃ L, x.length = L := ⟨_, rfl⟩
 rw [hL] at cR hs hx hRl ⊢
 have c0 : Hid (∀ w', Below w.heap.size w w' → w'.cell? ⟨b, 1, none⟩ = some (.pointer (some ⟨q, 0, none⟩))) := zH (fun w' hb => (k0.bk.below hb).cell (j := 1) rfl)
 have cc1 : IntKind.i64.wrap ((c : Int) + 1) = ((c + 1 : Nat) : Int) := by rw [i64_in zOm]; omega
 replace hL := zH hL
 replace hR := zH hR
 replace hs := zH hs
 replace hav := zH hav
 replace k0 := zH k0
 replace hop := zH hop
 replace hd := zH hd
 replace hcm := zH hcm
 replace hm := zH hm
 replace hx := zH hx
 replace hlen := zH hlen
 go_enter Tryz.func229, Tryz.ntmps229
 go_upto_region 1 with fail
 refine Tx.start (fun w' => Below (w).heap.size (w) w') 9999 18 rfl zKr ?_
 have hS_1 : Below (w).heap.size (w) (World.drew w) := (Below.refl _ _).drew
 refine Tx.seg (A := ?_) 9 2543 zKr (by exact hS_1) [0, 1, 2, 3, 5, 6, 7, 8, 11] zKr ?_ ?_
 rotate_left
 · intro w' hB
   have f1 := c0.out w' hB
   exact zRd
 refine Tx.eff 4 2559 rfl zDk (fun K hK => ?_)
 go_simp
 refine (cS.out _ hS_1).mono ?_
 rintro e w_2 ⟨rfl, hb_2⟩
 have hS_2 := ext_trans hS_1 (Nat.le_refl _) hb_2
 refine hK (fun w' => Below (w).heap.size (w) w') _ _ hS_2 (fun _ h => h) ?_
 clear hK K hb_2 hS_1
 try simp only [Act.put, zSa, zSz, zSs]
 refine Tx.eff 9 3071 rfl zDk (fun K hK => ?_)
 go_simp
 refine (cC.out _ hS_2).mono ?_
 rintro e w_3 ⟨rfl, hb_3⟩
 have hS_3 := ext_trans hS_2 (Nat.le_refl _) hb_3
 refine hK (fun w' => Below (w).heap.size (w) w') _ _ hS_3 (fun _ h => h) ?_
 clear hK K hb_3 hS_2
 try simp only [Act.put, zSa, zSz, zSs]
 refine Tx.seg (A := ?_) 6 4095 zKr (by exact hS_3) [10] zKr ?_ ?_
 rotate_left
 · intro w' hB
   exact zRd
 have hs3 := (hS_3).size
 refine Tx.eff 12 8191 rfl zDk (fun K hK => ?_)
 go_simp
 refine (cR.out _ hS_3).mono ?_
 rintro e w_4 ⟨v, rfl, ov, hb_4⟩
 have hS_4 := ext_trans hS_3 (Nat.le_refl _) hb_4
 refine hK (fun w' => Below (w).heap.size (w) w') _ _ hS_4 (fun _ h => h) ?_
 clear hK K hS_3
 try simp only [Act.put, zSa, zSz, zSs]
 refine Tx.seg (A := ?_) 0 262143 zKr (by exact hS_4) [13, 14, 15, 16, 17] zKr ?_ ?_
 rotate_left
 · intro w' hB
   exact zRd
 refine Tx.done zKr ?_
 have kb := hS_4
 have ov2 := own_mono ov hs3
 obtain ⟨gv, cv, rfl, hgv, hcv1, hcv2, -⟩ := own_range ov2 (by rw [hRl.out]; omega)
 have hSv := zH (Sl.of_own ov2)
 obtain ⟨n, hn⟩ : ∃ n, R.length = n := ⟨_, rfl⟩
 rw [hn] at hSv ⊢
 have hcv3 : (n : Int) ≤ (cv : Int) := by omega
 have hnn : Hid (n = 52 + L) := zH (by rw [← hn, hRl.out])
 have hn0 : (0 : Int) < (n : Int) := by rw [hnn.out]; omega
 have hn1 : (n : Int) ≤ 4148 := by have := hx.out; rw [hnn.out]; omega
 replace hn := zH hn
 have k1 := zH (k0.out.below kb)
 have hsW := zH (hs.out.below kb)
 have hpl1 : p < gv ∧ g < gv := by have := hpl; omega
 unfold maxLen at hcv2
 have hs0 := hs
 clear ov ov2 hcv1 hs3 hb_4 hS_4 c0 cS cC cR hs
 obtain ⟨w1, hw1⟩ : ∃ w1 : World, w_4 = w1 := ⟨_, rfl⟩
 rw [hw1] at hSv k1 hsW kb ⊢
 have hc1 := zH (Ch.of_below (M := [p, g, q, b]) kb)
 clear hw1
 obtain ⟨h1, hh1⟩ : ∃ h1, 1 - h = h1 := ⟨_, rfl⟩
 have hhI : (1 : Int) - (h : Int) = (h1 : Int) := by omega
 obtain ⟨o, ho⟩ : ∃ o, 8192 * h1 = o := ⟨_, rfl⟩
 have hoI : (h1 : Int) * 32 * 256 = (o : Int) := by omega
 have ho1 : (o : Int) ≤ 8192 := by omega
 have ho0 : (0 : Int) ≤ (o : Int) := by omega
 have hh0 : (0 : Int) ≤ (h1 : Int) := by omega
 have hh2 : (h1 : Int) ≤ 1 := by omega
 have hb3 := k1.out.bk.cell (j := 3) rfl
 have hhh := zH hh1
 have hoo := zH ho
 clear hh1 ho h2
 go_wp2_with fail
 clear hb3 hhI hoI
 have kf := k1.out.fl
 have hcf := Ch.refl [p, g] w1
 have eF : F = { F with b := erS F.b o 0 } := rfl
 rw [eF] at kf
 replace eF := zH eF
 go_loopw [9] (fun iv wr => ∃ (j : Nat) (er : Int), 256 * j ≤ n + 255 ∧ iv = .int .i64 ((256 * j : Nat) : Int) ∧ FlAt wr p g { F with b := erS F.b o j, er := er } ∧ Ch [p, g] w1 wr) (fun iv _ => n + 256 - (intOf iv).toNat)
 case atStart => exact ⟨0, F.er, by omega, rfl, kf, hcf⟩
 case round =>
 clear kf hcf eF
 obtain ⟨j, er, hj, rfl, kf, hcf⟩ := hrel
 obtain ⟨mj, hmj⟩ : ∃ m, 256 * j = m := ⟨_, rfl⟩
 rw [hmj] at hj ⊢
 have hmj0 : (0 : Int) ≤ (mj : Int) := by omega
 by_cases hin : mj < n
 · have hi1 : (mj : Int) < (n : Int) := by omega
   obtain ⟨sj, hsj⟩ : ∃ s, 32 * h1 + j = s := ⟨_, rfl⟩
   obtain ⟨om, hom⟩ : ∃ m, o + mj = m := ⟨_, rfl⟩
   have f1 : (o : Int) + (mj : Int) = (om : Int) := by omega
   have hom0 : (0 : Int) ≤ (om : Int) := by omega
   have f2 : (om : Int) / 256 = (sj : Int) := by have := hoo.out; omega
   have hom1 : (om : Int) ≤ 13000 := by omega
   have cE := zH (ferase_never p g sj { F with b := erS F.b o j, er := er } wr kf hop.out hd.out (by show 256 * sj + 256 ≤ (erS F.b o j).length; rw [erS_len]; have := hlen.out; have := hoo.out; omega))
   have hb0 : wr.cell? ⟨b, 0, none⟩ = some (.pointer (some ⟨p, 0, none⟩)) := (k1.out.bk.ch hcf (by simp; exact ⟨k1.out.bp, k1.out.bg⟩)).cell (j := 0) rfl
   have hsj2 : Hid (256 * sj = o + 256 * j) := zH (by have := hoo.out; omega)
   replace hmj := zH hmj
   clear hsj hom
   go_wp2_with fail
   refine cE.out.mono ?_
   rintro e w2 ⟨rfl, ⟨er2, kf2⟩, hc2⟩
   clear hb0 cE f1 f2
   go_wp2_with fail
   refine ⟨⟨j + 1, er2, by have := hmj.out; omega, by have := hmj.out; congr 1; omega, ?_, hcf.trans hc2⟩, by simp [intOf]; omega⟩
   rw [show erS F.b o (j + 1) = erB (erS F.b o j) (256 * sj) 256 by rw [erS, hsj2.out]]
   exact kf2
 · have dj : decide ((mj : Int) < (n : Int)) = false := decide_eq_false zOm
   have hjK : j = (n + 255) / 256 := by omega
   obtain ⟨F1, hF1⟩ : ∃ F1 : Fl, ({ F with b := erS F.b o j, er := er } : Fl) = F1 := ⟨_, rfl⟩
   rw [hF1] at kf
   have hF1b : Hid (F1.b = erS F.b o ((R.length + 255) / 256)) := zH (by rw [← hF1, hn.out, ← hjK])
   have hF1o : Hid (F1.op = -1 ∧ F1.dead = false) := zH (by rw [← hF1]; exact ⟨hop.out, hd.out⟩)
   have hF1l : Hid (F1.b.length = F.b.length) := zH (by rw [← hF1]; exact erS_len _ _ _)
   have hSv2 := hSv.out.ch hcf (fun y m cc e => by
    simp only [Value.slice.injEq, Option.some.injEq] at e
    obtain ⟨rfl, -⟩ := e
    simp
    omega)
   have cP := fprogram_never p g o F1 (some ⟨gv, 0, none⟩) cv R wr kf hF1o.out.1 hF1o.out.2 (by rw [hF1l.out, hn.out]; have := hlen.out; omega) (by rw [hn.out]; omega) (by rw [hn.out]; exact hSv2) (fun y e => by simp only [Option.some.injEq] at e; subst e; simp; omega)
   rw [hn.out] at cP
   replace cP := zH cP
   have k2b := k1.out.bk.ch hcf (by simp; exact ⟨k1.out.bp, k1.out.bg⟩)
   have k2o := k1.out.ot.ch hcf (by simp; exact ⟨k1.out.qp, k1.out.qg⟩)
   have hc2 := hc1.out.trans (hcf.mono (by simp))
   replace hmj := zH hmj
   clear hF1 hSv2 hcf kf hj hin hmj0 hjK
   obtain ⟨ic, hic⟩ : ∃ ic : Int, (mj : Int) = ic := ⟨_, rfl⟩
   rw [hic] at dj ⊢
   clear hic hmj
   have hb0 := k2b.cell (j := 0) rfl
   go_wp2_with fail
   refine cP.out.mono ?_
   rintro e w3 ⟨rfl, ⟨pr, kf3⟩, hc3⟩
   obtain ⟨F2, hF2⟩ : ∃ F2 : Fl, ({ F1 with b := prB F1.b o R n, pr := pr } : Fl) = F2 := ⟨_, rfl⟩
   rw [hF2] at kf3
   have hF2b : Hid (F2.b = wrB F.b o R) := zH (by rw [← hF2, wrB, ← hF1b.out, hn.out])
   have hF2o : Hid (F2.op = -1 ∧ F2.dead = false) := zH (by rw [← hF2]; exact hF1o.out)
   replace k2b := k2b.ch hc3 (by simp; exact ⟨k1.out.bp, k1.out.bg⟩)
   replace k2o := k2o.ch hc3 (by simp; exact ⟨k1.out.qp, k1.out.qg⟩)
   replace hc2 := hc2.trans (hc3.mono (by simp))
   clear hF2 hc3 hb0 cP dj
   have cT := zH (ostep_never q p g r s c m F2 w3 k2o kf3 hF2o.out.1 hF2o.out.2 hcm.out hm.out k1.out.qp k1.out.qg)
   have hb1 := k2b.cell (j := 1) rfl
   go_wp2_with fail
   refine cT.out.mono ?_
   rintro e w4 ⟨rfl, k4o, kf4, hc4⟩
   replace k2b := k2b.ch hc4 (by simp; exact ⟨k1.out.bp, k1.out.bq⟩)
   replace hc2 := hc2.trans (hc4.mono (by simp))
   have hs4 : Sl w4 (.slice a L ca) (u8s x) := hs0.out.ch hc2 (fun y m cc e => by
    simp only [Value.slice.injEq] at e
    exact hav.out y e.1)
   have cC := zH (clone_any _ x w4 hs4 (by rw [hL.out]; have := hx.out; omega))
   clear cT hc4 hb1 kf3 k2o
   go_wp2_with fail
   refine cC.out.mono ?_
   rintro e w5 ⟨v5, rfl, o5, hb5, hnil⟩
   obtain ⟨a5, c5, he5, -⟩ := Sl.of_own o5
   rw [u8s_len, hL.out] at he5
   subst he5
   have hnl : (Value.slice a5 L c5 = .slice none 0 0 ↔ a = none) := by
    rw [hnil]
    constructor
    · intro e
      simp only [Value.slice.injEq] at e
      exact e.1
    · intro e
      subst e
      obtain ⟨a', c', h1', h2', -, h4', -⟩ := hs0.out
      simp only [Value.slice.injEq] at h1'
      obtain ⟨e1, e2, e3⟩ := h1'
      have := h4' e1.symm
      rw [u8s_len] at h2' e2
      simp only [Value.slice.injEq, true_and]
      omega
   have hnlH := zH hnl
   have hbw5 := k2b.lt
   replace k2b := k2b.below hb5
   replace k4o := k4o.below hb5
   replace kf4 := kf4.below hb5
   have hc5 : Ch [p, g, q, b] w w5 := hc2.trans (Ch.of_below hb5)
   have ho5 := zH (own_mono (base' := b + 1) o5 zOm)
   have hb2 := k2b.cell (j := 2) rfl
   have hb3 := k2b.cell (j := 3) rfl
   have hf2 := k2b.frozen 2
   have hf3 := k2b.frozen 3
   clear hnil hnl o5 hb5 cC hs4 hc2
   go_wp2_with fail
   go_ret
   have hcw : Ch [b] w5 ((w5.setCell ⟨b, 2, none⟩ (.slice a5 L c5)).setCell ⟨b, 3, none⟩ (.int .i64 (h1 : Int))) := (Ch.of_gr (gr_cell w5 b 2 _) (by simp)).trans (Ch.of_gr (gr_cell _ b 3 _) (by simp))
   refine ⟨rfl, ⟨.slice a5 L c5, F2, hnlH.out, ?_, by rw [hF2b.out, hhh.out, hoo.out], hF2o.out.1, hF2o.out.2, ⟨?_, ?_, ?_, k1.out.bp, k1.out.bq, k1.out.bg, k1.out.qp, k1.out.qg, by omega, ?_⟩⟩, hc5.trans (hcw.mono (by simp))⟩
   · refine (Sl.of_own ho5.out).ch hcw (fun y m cc e => ?_)
     have := own_block ho5.out y.block (by rw [e]; rfl)
     simp
     omega
   · rw [hhh.out]
     exact (k2b.set 2 (.slice a5 L c5)).set 3 (.int .i64 (h1 : Int))
   · exact k4o.ch hcw (by simp; exact Ne.symm k1.out.bq)
   · exact kf4.ch hcw (by simp; exact Ne.symm k1.out.bp) (by simp; exact Ne.symm k1.out.bg)
   · rw [hF2b.out, wrB_len]
     exact hlen.out
theorem begin_fresh (b p q g r s m : Nat) (F : Fl) (w : World) (k0 : BkAt w b p q g r s 0 (m : Int) (.slice none 0 0) 0 false F) (hop : F.op = -1) (hd : F.dead = false) (hm0 : 0 < m) (hm : m ≤ 1000000) (hf : Unmarked F) :
 Calls Tryz.prog 186 #[.pointer (some ⟨b, 0, none⟩)] w fun e w' => e = .returned (.int .i64 0) ∧
  (∃ F', F'.b = wrB F.b 0 (recL s 1 []) ∧ F'.op = -1 ∧ F'.dead = false ∧ BkAt w' b p q g r s 1 (m : Int) (.slice none 0 0) 0 false F') ∧ Ch [p, g, q, b] w w' := by
 have hI0 : ((0 : Nat) : Int) = 0 := rfl
 have cC := zH (fun w' (hb : Below w.heap.size w w') => same_below (ocount_any q (some ⟨p, 0, none⟩) r s 0 m w' (k0.ot.below hb)))
 have cM := zH (fun w' (hb : Below w.heap.size w w') => same_below (omost_any q (some ⟨p, 0, none⟩) r s 0 m w' (k0.ot.below hb)))
 have cH := zH (fun num w' (hb : Below w.heap.size w w') => has_none b p q g r s 0 m num (.slice none 0 0) 0 false F w' (k0.bk.below hb) (k0.ot.below hb) (k0.fl.below hb) hd k0.len hf)
 have c0 : Hid (∀ w', Below w.heap.size w w' → w'.cell? ⟨b, 1, none⟩ = some (.pointer (some ⟨q, 0, none⟩))) := zH (fun w' hb => (k0.bk.below hb).cell (j := 1) rfl)
 have hne : ((0 : Int) == (m : Int)) = false := by simp; omega
 have hne2 : ((m : Int) == 0) = false := by simp; omega
 replace k0 := zH k0
 replace hop := zH hop
 replace hd := zH hd
 replace hm := zH hm
 replace hm0 := zH hm0
 have kb := Below.refl w.heap.size w
 have h1 := c0.out w kb
 clear hf hI0
 go_enter Tryz.func186, Tryz.ntmps186
 go_wp2_with fail
 refine (cC.out _ kb).mono ?_
 rintro e w1 ⟨rfl, hb⟩
 replace kb := bel kb hb
 clear hb h1
 have h1 := c0.out w1 kb
 go_wp2_with fail
 refine (cM.out _ kb).mono ?_
 rintro e w2 ⟨rfl, hb⟩
 replace kb := bel kb hb
 clear hb h1
 go_wp2_with fail
 refine (cH.out 1 _ kb).mono ?_
 rintro e w3 ⟨rfl, hb⟩
 replace kb := bel kb hb
 clear hb
 go_wp2_with fail
 refine (cH.out 0 _ kb).mono ?_
 rintro e w4 ⟨rfl, hb⟩
 replace kb := bel kb hb
 have k4 := k0.out.below kb
 have h3 := k4.bk.cell (j := 3) rfl
 have f3 := k4.bk.frozen 3
 have hc4 := zH (Ch.of_below (M := [p, g, q, b]) kb)
 clear hb cC cM cH c0 hne hne2 kb
 have h2 := k4.bk.cell (j := 2) rfl
 have h2' : (w4.setCell ⟨b, 3, none⟩ (.int .i64 1)).cell? ⟨b, 2, none⟩ = some (.slice none 0 0) := (k4.bk.set 3 (.int .i64 1)).cell (j := 2) rfl
 have hcs : Ch [b] w4 (w4.setCell ⟨b, 3, none⟩ (.int .i64 1)) := Ch.of_gr (gr_cell w4 b 3 _) (by simp)
 have k5 : BkAt (w4.setCell ⟨b, 3, none⟩ (.int .i64 1)) b p q g r s ((0 : Nat) : Int) (m : Int) (.slice none 0 0) 1 false F :=
  ⟨k4.bk.set 3 (.int .i64 1), k4.ot.ch hcs (by simp; exact Ne.symm k4.bq), k4.fl.ch hcs (by simp; exact Ne.symm k4.bp) (by simp; exact Ne.symm k4.bg), k4.bp, k4.bq, k4.bg, k4.qp, k4.qg, by decide, k4.len⟩
 have cW := zH (show Calls Tryz.prog 229 #[.pointer (some ⟨b, 0, none⟩), .slice none 0 0] (w4.setCell ⟨b, 3, none⟩ (.int .i64 1)) _ from bwrite_never b p q g r s 0 m 1 (.slice none 0 0) false F none 0 [] _ k5 hop.out hd.out hm0.out hm.out zDc (Sl.nil _) (fun y e => by cases e))
 have hc5 := zH (hc4.out.trans (hcs.mono (by simp)))
 clear k4 k5 hcs hc4 h2
 go_wp2_with fail
 refine cW.out.mono ?_
 rintro e w5 ⟨rfl, ⟨v, F', hv, -, hb, ho, hde, kk⟩, hc⟩
 obtain rfl := hv.2 (by simp)
 have hbH := zH hb
 have hoH := zH ho
 have hdH := zH hde
 clear h3 f3 h2' hv hb ho hde cW
 go_wp2_with fail
 go_ret
 exact ⟨rfl, ⟨F', hbH.out, hoH.out, hdH.out, kk⟩, hc5.out.trans hc⟩
theorem bload_nil (b p q g r s : Nat) (c m : Int) (half : Nat) (dead : Bool) (F : Fl) (w : World) (k0 : BkAt w b p q g r s c m (.slice none 0 0) half dead F) :
 Calls Tryz.prog 129 #[.pointer (some ⟨b, 0, none⟩)] w fun e w' => e = .returned (.slice none 0 0) ∧ w' = w := by
 have h2 := k0.bk.cell (j := 2) rfl
 clear k0
 go_enter Tryz.func129, Tryz.ntmps129
 go_wp2_with fail
 refine (clone_nil _).mono ?_
 rintro e w1 ⟨rfl, hw⟩
 obtain rfl : w = w1 := hw.symm
 go_wp2_with fail
 go_ret
 exact ⟨rfl, rfl⟩
def BkNew (p q g r s m : Nat) (F : Fl) (w : World) (e : Ending) (w' : World) : Prop := ∃ b F', e = .returned (.tuple #[.pointer (some ⟨b, 0, none⟩), .int .i64 0]) ∧ w.heap.size ≤ b ∧
 F'.b = wrB F.b 0 (recL s 1 []) ∧ F'.op = -1 ∧ F'.dead = false ∧ BkAt w' b p q g r s 1 (m : Int) (.slice none 0 0) 0 false F' ∧ Ch [p, g, q] w w'
theorem bopen_fresh (p q g r s m : Nat) (F : Fl) (w : World) (ko : Arr w q (otv (some ⟨p, 0, none⟩) r s 0 (m : Int))) (kf : FlAt w p g F) (hqp : q ≠ p) (hqg : q ≠ g) (hlen : 16384 ≤ F.b.length) (hop : F.op = -1) (hd : F.dead = false) (hm0 : 0 < m) (hm : m ≤ 1000000) (hf : Unmarked F) :
 Calls Tryz.prog 127 #[.pointer (some ⟨p, 0, none⟩), .pointer (some ⟨q, 0, none⟩)] w (BkNew p q g r s m F w) := by
 have hpl := kf.lt
 have hql := ko.lt
 obtain ⟨L, hL⟩ : ∃ L, F.b.length / 256 = L := ⟨_, rfl⟩
 have hL64 : (64 : Int) ≤ (L : Int) := by omega
 have cS := zH (fsize_any p g F w kf)
 have cD := zH (fdead_any p g F w kf)
 rw [hL] at cS
 rw [hd] at cD
 have kB : BkAt (w.alloc (.cells #[.pointer (some ⟨p, 0, none⟩), .pointer (some ⟨q, 0, none⟩), .slice none 0 0, .int .i64 0, .bool false] 251)) w.heap.size p q g r s 0 (m : Int) (.slice none 0 0) 0 false F :=
  ⟨Arr.new w _ _, ko.alloc _, kf.below (below_alloc _ _), by omega, by omega, by omega, hqp, hqg, by decide, hlen⟩
 have cB := zH (begin_fresh w.heap.size p q g r s m F _ kB hop hd hm0 hm hf)
 clear kB ko kf hqp hqg hlen hop hd hm0 hm hf hL
 go_enter Tryz.func127, Tryz.ntmps127
 go_wp2_with fail
 refine cS.out.mono ?_
 rintro e w1 ⟨rfl, hw⟩
 obtain rfl : w = w1 := hw.symm
 go_wp2_with fail
 refine cD.out.mono ?_
 rintro e w1 ⟨rfl, hw⟩
 obtain rfl : w = w1 := hw.symm
 clear cS cD
 go_wp2_with fail
 refine cB.out.mono ?_
 rintro e w1 ⟨rfl, ⟨F', hb, ho, hde, kk⟩, hc⟩
 have hcd := zH (Ch.drop (M := [p, g, q]) (Ch.of_below (below_alloc w _)) hc (fun k hk => by
  simp only [List.mem_cons, List.not_mem_nil, or_false] at hk ⊢
  rcases hk with h | h | h | h
  · exact .inl (.inl h)
  · exact .inl (.inr (.inl h))
  · exact .inl (.inr (.inr h))
  · exact .inr zOm))
 have hbH := zH hb
 have hoH := zH ho
 have hdH := zH hde
 clear hb ho hde cB hc
 go_wp2_with fail
 go_ret2
 exact ⟨w.heap.size, F', rfl, Nat.le_refl _, hbH.out, hoH.out, hdH.out, kk, hcd.out⟩
end Go.Proofs.YtibdgkhkhmdihaaGreatDoor
