/- PortcullisWrong: part 25 of its proof: lemmas and contracts, each with its conditions in its own statement; the last part holds the law itself. -/
import Derived.Test.YtibdgkhkhmdihaaGreatDoorJe10
import Derived.Lib.Builder
import Derived.Lib.AppendStr
import Derived.Test.YtibdgkhkhmdihaaGreatDoorProg
import Derived.Shelf.Strings.OnBuilder
import Derived.Shelf.Strings.SlTrimAscii
import Derived.Shelf.Strconv.Atoi
import Derived.Shelf.Strconv.Itoa3
import Derived.Shelf.Strings.Search3
import Derived.Shelf.Strings.Count
import Derived.Shelf.Strings.SplitCore
import Derived.Test.YtibdgkhkhmdihaaGreatDoorJe11
import Derived.Lib.SplitLaws
import Derived.Lib.IndexBytes
import Derived.WideMake
import Derived.Recover

set_option maxHeartbeats 4000000
set_option maxRecDepth 100000
namespace Go.Proofs.YtibdgkhkhmdihaaGreatDoor
open Go.RowKit
def Pl (w : World) (p : Nat) (xs : List Value) : Prop := w.heap[p]? = some (.cells xs.toArray 46 (0, 0))
theorem Pl.arr {w : World} {p : Nat} {xs : List Value} (h : Pl w p xs) : Arr w p xs := ⟨_, h⟩
theorem Pl.ch {M : List Nat} {w w' : World} {p : Nat} {xs : List Value} (h : Pl w p xs) (hc : Ch M w w') (hg : p ∉ M) : Pl w' p xs := by
 unfold Pl; rw [hc.block p h.arr.lt hg]; exact h
theorem Pl.below {w w' : World} {p : Nat} {xs : List Value} (h : Pl w p xs) (hc : Below w.heap.size w w') : Pl w' p xs := by
 unfold Pl; rw [hc.block p h.arr.lt]; exact h
theorem Pl.set {w : World} {p : Nat} {xs : List Value} (h : Pl w p xs) (j : Nat) (u : Value) : Pl (w.setCell ⟨p, j, none⟩ u) p (xs.set j u) := by
 unfold Pl; rw [heap_setCell_same w p j _ _ u h]; simp
theorem Pl.kept {w w' : World} {p k : Nat} {xs : List Value} (h : Pl w p xs) (hg : w.grownBy w' (some k)) (hk : k ≠ p) : Pl w' p xs := by
 unfold Pl; rw [hg.block p h.arr.lt (by simpa using Ne.symm hk)]; exact h
theorem Pl.shape {w : World} {p : Nat} {xs : List Value} (h : Pl w p xs) : w.shape? p = some (46, xs.length) := by
 have h' : w.heap[p]? = some (.cells xs.toArray 46 (0, 0)) := h
 simp [World.shape?, h']
structure Plr where
 root : Nat
 sig : Nat
 dev : Nat
 key : Nat
 man : Value
 bl : Value
 f : Value
 o : Value
 d : Value
def setL (r s d k : Nat) : List Value := bytn 32 r ++ (bytn 32 s ++ (bytn 32 d ++ bytn 32 k))
theorem setL_len (r s d k : Nat) : (setL r s d k).length = 128 := by simp [setL, bytn_len]
def Plr.cs (X : Plr) (a u : Value) : List Value := setL X.root X.sig X.dev X.key ++ [X.man, X.bl, X.f, X.o, X.d, a, u]
theorem Plr.len (X : Plr) (a u : Value) : (X.cs a u).length = 135 := by simp [Plr.cs, setL_len]
theorem Plr.at (X : Plr) (a u : Value) {j : Nat} : (X.cs a u)[128 + j]? = [X.man, X.bl, X.f, X.o, X.d, a, u][j]? := by
 rw [Plr.cs, List.getElem?_append_right (by rw [setL_len]; exact Nat.le_add_right _ _), setL_len, Nat.add_sub_cancel_left]
theorem Plr.put (X : Plr) (a u x : Value) {j : Nat} : (X.cs a u).set (128 + j) x = setL X.root X.sig X.dev X.key ++ [X.man, X.bl, X.f, X.o, X.d, a, u].set j x := by
 rw [Plr.cs, List.set_append_right _ _ (by rw [setL_len]; exact Nat.le_add_right _ _), setL_len, Nat.add_sub_cancel_left]
def slf (p : Nat) : Value := .pointer (some ⟨p, 133, none⟩)
theorem Plr.put_a (X : Plr) (a u x : Value) : (X.cs a u).set 133 x = X.cs x u := Plr.put X a u x (j := 5)
theorem Plr.put_u (X : Plr) (a u x : Value) : (X.cs a u).set 134 x = X.cs a x := Plr.put X a u x (j := 6)
theorem pl_lies : liesAt Tryz.prog Tryz.prog.depth 46 (135 / Tryz.prog.cellsOf 46) 133 44 1 = true := by decide +kernel
structure Cp (p B : Nat) (w w' : World) : Prop where
 os : w'.os = w.os
 tape : w'.tape = w.tape
 output : w'.output = w.output
 size : w.heap.size ≤ w'.heap.size
 block : ∀ k, k < B → k ≠ p → w'.heap[k]? = w.heap[k]?
theorem Cp.refl (p B : Nat) (w : World) : Cp p B w w := ⟨rfl, rfl, rfl, Nat.le_refl _, fun _ _ _ => rfl⟩
theorem Cp.trans {p B : Nat} {a b c : World} (h : Cp p B a b) (k : Cp p B b c) : Cp p B a c :=
 ⟨k.os.trans h.os, k.tape.trans h.tape, k.output.trans h.output, Nat.le_trans h.size k.size, fun i hi hn => (k.block i hi hn).trans (h.block i hi hn)⟩
theorem Cp.of_below {p B : Nat} {w w' : World} (h : Below w.heap.size w w') (hB : B ≤ w.heap.size) : Cp p B w w' := ⟨h.os, h.tape, h.output, h.size, fun k hk _ => h.block k (Nat.lt_of_lt_of_le hk hB)⟩
theorem Cp.of_gr {p B : Nat} {w w' : World} {r : Option Nat} (h : w.grownBy w' r) (hB : B ≤ w.heap.size) (hr : ∀ g, r = some g → g = p ∨ B ≤ g) : Cp p B w w' :=
 ⟨h.os, h.tape, h.output, h.size, fun k hk hn => h.block k (Nat.lt_of_lt_of_le hk hB) (fun e => by rcases hr k e.symm with h1 | h1; exact hn h1; omega)⟩
theorem Arr.cp {p B : Nat} {w w' : World} {g : Nat} {xs : List Value} (h : Arr w g xs) (hc : Cp p B w w') (hg : g < B) (hp : g ≠ p) : Arr w' g xs := by
 obtain ⟨T, h⟩ := h
 exact ⟨T, by rw [hc.block g hg hp]; exact h⟩
theorem copyCheck_fresh (p : Nat) (X : Plr) (u : Value) (w : World) (kp : Pl w p (X.cs (.pointer none) u)) :
 Calls Tryz.prog 94 #[.pointer (some ⟨p, 133, none⟩)] w fun e w' => e = .returned (.tuple #[]) ∧ w' = w.setCell ⟨p, 133, none⟩ (slf p) := by
 obtain ⟨j, hj, hjs⟩ := Option.map_eq_some_iff.1 (show (Tryz.prog.info? 44).map (·.size) = some 2 by kernel_rfl)
 have h0 : w.cell? ⟨p, 133, none⟩ = some (.pointer none) := kp.arr.cell (Plr.at X _ _ (j := 5))
 have hfz := kp.arr.frozen 133
 have hsh : w.shape? p = some (46, 135) := by have := kp.shape; rwa [Plr.len] at this
 have e1 : (convert 42 219 (.pointer (some ⟨p, 133, none⟩))).run Tryz.prog w = .ok (.pointer (some ⟨p, 133, none⟩)) w :=
  Lib.run_to_unsafe (cells := 135) (e := 46) w ⟨p, 133, none⟩ zKr zKr hj (by rw [hjs]; decide) hsh (show 133 < 135 by decide)
 have e3 : (convert 219 42 (.pointer (some ⟨p, 133, none⟩))).run Tryz.prog w = .ok (.pointer (some ⟨p, 133, none⟩)) w :=
  Lib.run_from_unsafe (cells := 135) (e := 46) w ⟨p, 133, none⟩ zKr zKr hj hsh pl_lies
 have e2 : (callFunc 153 #[.pointer (some ⟨p, 133, none⟩)]).run Tryz.prog w = .ok (.value (.pointer (some ⟨p, 133, none⟩))) w := by
  rw [run_callFunc_extern Tryz.func153 zKr zKr zKr (e := Extern.AbiNoEscape.same) zKr]
  rw [Lib.run_noEscape]
  rfl
 unfold slf
 go_enter Tryz.func94, Tryz.ntmps94
 go_wp2
 go_end0
 exact ⟨rfl, rfl⟩
theorem copyCheck_used (p : Nat) (X : Plr) (u : Value) (w : World) (kp : Pl w p (X.cs (slf p) u)) :
 Calls Tryz.prog 94 #[.pointer (some ⟨p, 133, none⟩)] w fun e w' => e = .returned (.tuple #[]) ∧ w' = w := by
 obtain ⟨j, hj, _⟩ := Option.map_eq_some_iff.1 (show (Tryz.prog.info? 44).map (·.size) = some 2 by kernel_rfl)
 have h0 : w.cell? ⟨p, 133, none⟩ = some (.pointer (some ⟨p, 133, none⟩)) := kp.arr.cell (Plr.at X _ _ (j := 5))
 have hne := Lib.run_neq_ptr_same (P := Tryz.prog) (tp := 42) w ⟨p, 133, none⟩ zKr hj
 go_enter Tryz.func94, Tryz.ntmps94
 go_wp2
 go_end0
 exact ⟨rfl, rfl⟩
theorem copyCheck_any (p : Nat) (X : Plr) (a u : Value) (w : World) (kp : Pl w p (X.cs a u)) (ha : a = .pointer none ∨ a = slf p) :
 Calls Tryz.prog 94 #[.pointer (some ⟨p, 133, none⟩)] w fun e w' => e = .returned (.tuple #[]) ∧ Pl w' p (X.cs (slf p) u) ∧ w.grownBy w' (some p) ∧ w'.heap.size = w.heap.size := by
 rcases ha with rfl | rfl
 · refine (copyCheck_fresh p X u w kp).mono ?_
   rintro e w' ⟨he, rfl⟩
   refine ⟨he, ?_, gr_cell w p 133 _, by simp [World.setCell]⟩
   have := kp.set 133 (slf p)
   rwa [Plr.put_a] at this
 · refine (copyCheck_used p X u w kp).mono ?_
   rintro e w' ⟨he, rfl⟩
   exact ⟨he, kp, World.grownBy.refl _ _, rfl⟩
theorem strCells_u8s (s : ByteArray) : Lib.strCells s = u8s s.data.toList := by simp [Lib.strCells, u8s]
theorem wstr_any (p B : Nat) (X : Plr) (a u : Value) (L : List UInt8) (s : ByteArray) (w : World) (kp : Pl w p (X.cs a u)) (ha : a = .pointer none ∨ a = slf p)
 (ko : w.ownsRow B 5 1 u L.length (u8s L)) (hpB : p < B) (hB : B ≤ w.heap.size) (hlen : L.length + s.size ≤ 140737488355328) :
 Calls Tryz.prog 63 #[.pointer (some ⟨p, 133, none⟩), .string s] w fun e w' => ∃ u', e = .returned (.tuple #[.int .i64 (s.size : Int), .nilIface]) ∧ Pl w' p (X.cs (slf p) u') ∧
  w'.ownsRow B 5 1 u' (L ++ s.data.toList).length (u8s (L ++ s.data.toList)) ∧ (∀ g, u'.ownBlock = some g → B ≤ g) ∧ Cp p B w w' := by
 obtain ⟨i0, hi, hz0, hz1, hz2⟩ := info_parts (show (Tryz.prog.info? 5).map (fun i => (i.zero, i.size, i.bytes)) = some (some (.int .u8 0), 1, 1) by kernel_rfl)
 have cC := zH (copyCheck_any p X a u w kp ha)
 clear kp
 have hub : ∀ g, u.ownBlock = some g → g ≠ p := fun g hg => by have := own_block ko g hg; omega
 replace ko := zH ko
 obtain ⟨sz, hsz⟩ : ∃ n : Nat, s.size = n := ⟨_, rfl⟩
 rw [hsz] at hlen
 go_enter Tryz.func63, Tryz.ntmps63
 go_wp2_with fail
 refine cC.out.mono ?_
 rintro e w1 ⟨rfl, k1, hg1, hs1⟩
 clear cC
 have ko1 := zH (ko.out.kept hg1 (.inr (fun h => hub _ h rfl)))
 have c1 := k1.arr.cell (Plr.at X _ _ (j := 6))
 have hB1 : B ≤ w1.heap.size := by omega
 have hC1 : Cp p B w w1 := Cp.of_gr hg1 hB (fun g h => .inl (by injection h with h; exact h.symm))
 clear ko hg1 hs1 hB
 go_wp2_with (at_builtin; refine Lib.wpList_append_own_string _ rfl _ _ 26 9 rfl B 5 i0 zKr zKr hi hz0 hz1 hz2 _ _ _ rfl ko1.out s rfl (by rw [hsz]; unfold maxLen; omega) (by rw [hsz]; omega) hB1 ?_)
 intro v' w2 hown' hgrow _
 have k2 : Pl w2 p (X.cs (slf p) u) := by
  unfold Pl
  rw [hgrow.block p k1.arr.lt (fun h => hub _ h.symm rfl)]
  exact k1
 have f2 := k2.arr.frozen 134
 have c2 := k2.arr.cell (Plr.at X _ _ (j := 6))
 have hC2 : Cp p B w w2 := hC1.trans (Cp.of_gr hgrow hB1 (fun g h => .inr (own_block ko1.out g h)))
 have hob := own_block hown'
 obtain ⟨ao, n', cap, rfl⟩ : ∃ ao n' cap, v' = .slice ao n' cap := by
  rcases hown'.2 with ⟨hv, _⟩ | ⟨g, cap, cur, hv, _⟩
  · exact ⟨_, _, _, hv⟩
  · exact ⟨_, _, _, hv⟩
 have hlen' : (L ++ s.data.toList).length = L.length + sz := by rw [← hsz, List.length_append]; simp
 rw [strCells_u8s, ← u8s_append, ← hlen'] at hown'
 replace hown' := zH hown'
 have hbp : ∀ g, (Value.slice ao n' cap).ownBlock = some g → g ≠ p := fun g hg => by have := hob g hg; omega
 have hgs := hgrow.size
 clear hgrow hC1 c1 ko1 hlen' k1
 go_wp2_with fail
 go_ret2
 refine ⟨_, by rw [hsz]; rfl, ?_, hown'.out.kept (gr_cell w2 p 134 _) (.inr (fun h => hbp _ h rfl)), hob, hC2.trans (Cp.of_gr (gr_cell w2 p 134 _) (Nat.le_trans hB1 (by have := hgs; omega)) (fun g h => .inl (by injection h with h; exact h.symm)))⟩
 have := k2.set 134 (.slice ao n' cap)
 rwa [Plr.put_u] at this
theorem wbyte_any (p B : Nat) (X : Plr) (a u : Value) (L : List UInt8) (c : UInt8) (w : World) (kp : Pl w p (X.cs a u)) (ha : a = .pointer none ∨ a = slf p)
 (ko : w.ownsRow B 5 1 u L.length (u8s L)) (hpB : p < B) (hB : B ≤ w.heap.size) (hlen : L.length + 1 ≤ 140737488355328) :
 Calls Tryz.prog 65 #[.pointer (some ⟨p, 133, none⟩), .int .u8 (c.toNat : Int)] w fun e w' => ∃ u', e = .returned .nilIface ∧ Pl w' p (X.cs (slf p) u') ∧
  w'.ownsRow B 5 1 u' (L ++ [c]).length (u8s (L ++ [c])) ∧ (∀ g, u'.ownBlock = some g → B ≤ g) ∧ Cp p B w w' := by
 obtain ⟨i0, hi, hz0, hz1, hz2⟩ := info_parts (show (Tryz.prog.info? 5).map (fun i => (i.zero, i.size, i.bytes)) = some (some (.int .u8 0), 1, 1) by kernel_rfl)
 have cC := zH (copyCheck_any p X a u w kp ha)
 clear kp
 have hub : ∀ g, u.ownBlock = some g → g ≠ p := fun g hg => by have := own_block ko g hg; omega
 replace ko := zH ko
 obtain ⟨cv, hcv⟩ : ∃ n : Int, (c.toNat : Int) = n := ⟨_, rfl⟩
 rw [hcv]
 go_enter Tryz.func65, Tryz.ntmps65
 go_wp2_with fail
 refine cC.out.mono ?_
 rintro e w1 ⟨rfl, k1, hg1, hs1⟩
 clear cC
 have ko1 := zH (ko.out.kept hg1 (.inr (fun h => hub _ h rfl)))
 have c1 := k1.arr.cell (Plr.at X _ _ (j := 6))
 have hB1 : B ≤ w1.heap.size := by omega
 have hC1 : Cp p B w w1 := Cp.of_gr hg1 hB (fun g h => .inl (by injection h with h; exact h.symm))
 clear ko hg1 hs1 hB
 go_wp2_with (at_builtin; refine wpList_append_own _ rfl _ _ 26 rfl B 5 i0 (.int .u8 0) 1 1 zKr hi hz0 hz1 hz2 rfl zDc _ _ _ rfl (ko1.out.alloc _) ⟨w1.heap.size, 0, none⟩ 1 1 [.int .u8 cv] rfl rfl ?c1 ?c2 (by unfold maxLen; omega) zOm (by simp; omega) ?_)
 case c1 =>
  intro j u hj
  match j, hj with
  | 0, hj => simp at hj; subst hj; simp [Addr.add]
 case c2 => intro u hu; simp at hu; subst hu; rfl
 intro v' w2 hown' hgrow _
 have k2 : Pl w2 p (X.cs (slf p) u) := by
  have hk : Pl (w1.alloc (.cells #[.int .u8 cv] 5)) p (X.cs (slf p) u) := k1.below (below_alloc _ _)
  unfold Pl
  rw [hgrow.block p hk.arr.lt (fun h => hub _ h.symm rfl)]
  exact hk
 have f2 := k2.arr.frozen 134
 have c2 := k2.arr.cell (Plr.at X _ _ (j := 6))
 have hC2 : Cp p B w w2 := (hC1.trans (Cp.of_below (below_alloc _ _) hB1)).trans (Cp.of_gr hgrow (by simp; omega) (fun g h => .inr (own_block ko1.out g h)))
 have hob := own_block hown'
 obtain ⟨ao, n', cap, rfl⟩ : ∃ ao n' cap, v' = .slice ao n' cap := by
  rcases hown'.2 with ⟨hv, _⟩ | ⟨g, cap, cur, hv, _⟩
  · exact ⟨_, _, _, hv⟩
  · exact ⟨_, _, _, hv⟩
 have hlen' : (L ++ [c]).length = L.length + 1 := by simp
 rw [show [Value.int .u8 cv] = u8s [c] by rw [← hcv]; rfl, ← u8s_append, ← hlen'] at hown'
 replace hown' := zH hown'
 have hbp : ∀ g, (Value.slice ao n' cap).ownBlock = some g → g ≠ p := fun g hg => by have := hob g hg; omega
 have hgs := Nat.le_trans (below_alloc w1 (.cells #[.int .u8 cv] 5)).size hgrow.size
 clear hgrow hC1 c1 ko1 hlen' k1
 go_wp2_with fail
 go_ret
 refine ⟨_, rfl, ?_, hown'.out.kept (gr_cell w2 p 134 _) (.inr (fun h => hbp _ h rfl)), hob, hC2.trans (Cp.of_gr (gr_cell w2 p 134 _) (Nat.le_trans hB1 (by have := hgs; omega)) (fun g h => .inl (by injection h with h; exact h.symm)))⟩
 have := k2.set 134 (.slice ao n' cap)
 rwa [Plr.put_u] at this
open Go.Proofs
open Go.Shelf
def sh_lays156_ren : Go.Shelf.Ren := ⟨fun | 156 => 64 | 165 => 95 | 166 => 63 | 169 => 16 | 240 => 94 | 241 => 154 | 276 => 153 | 277 => 116 | n => n, fun | 31 => 28 | 9 => 9 | 3 => 3 | 4 => 4 | 0 => 0 | 20 => 20 | 72 => 44 | 76 => 110 | 70 => 42 | 37 => 26 | 75 => 109 | 127 => 70 | 164 => 219 | 5 => 5 | 80 => 50 | n => n, fun | n => n⟩
theorem sh_lays156 : Go.Proofs.Lays.n156 Tryz.prog sh_lays156_ren := {
 mixed := by kernel_rfl
 f156 := Tryz.func64.trans (congrArg some zKr)
 f165 := Tryz.func95.trans (congrArg some zKr)
 f166 := Tryz.func63.trans (congrArg some zKr)
 f169 := Tryz.func16.trans (congrArg some zKr)
 f240 := Tryz.func94.trans (congrArg some zKr)
 f241 := Tryz.func154.trans (congrArg some zKr)
 f276 := Tryz.func153.trans (congrArg some zKr)
 f277 := Tryz.func116.trans (congrArg some zKr)
 t0 := Tryz.underlying0
 a0 := Tryz.isAgg0
 z0 := Tryz.sizeOf0
 v0 := Tryz.zeroValue0
 t3 := Tryz.underlying3
 a3 := Tryz.isAgg3
 z3 := Tryz.sizeOf3
 v3 := Tryz.zeroValue3
 t4 := Tryz.underlying4
 a4 := Tryz.isAgg4
 z4 := Tryz.sizeOf4
 v4 := Tryz.zeroValue4
 t9 := Tryz.underlying9
 a9 := Tryz.isAgg9
 z9 := Tryz.sizeOf9
 v9 := Tryz.zeroValue9
 t20 := Tryz.underlying20
 a20 := Tryz.isAgg20
 z20 := Tryz.sizeOf20
 v20 := Tryz.zeroValue20
 t31 := Tryz.underlying28
 a31 := Tryz.isAgg28
 z31 := Tryz.sizeOf28
 v31 := Tryz.zeroValue28
 t37 := Tryz.underlying26
 a37 := Tryz.isAgg26
 z37 := Tryz.sizeOf26
 v37 := Tryz.zeroValue26
 t70 := Tryz.underlying42
 a70 := Tryz.isAgg42
 z70 := Tryz.sizeOf42
 v70 := Tryz.zeroValue42
 t72 := Tryz.underlying44
 a72 := Tryz.isAgg44
 z72 := Tryz.sizeOf44
 v72 := Tryz.zeroValue44
 t75 := Tryz.underlying109
 a75 := Tryz.isAgg109
 z75 := Tryz.sizeOf109
 v75 := Tryz.zeroValue109
 t76 := Tryz.underlying110
 a76 := Tryz.isAgg110
 z76 := Tryz.sizeOf110
 v76 := Tryz.zeroValue110
 t127 := Tryz.underlying70
 a127 := Tryz.isAgg70
 z127 := Tryz.sizeOf70
 v127 := Tryz.zeroValue70
 t164 := Tryz.underlying219
 a164 := Tryz.isAgg219
 z164 := Tryz.sizeOf219
 v164 := Tryz.zeroValue219 }
theorem sh_Builder_Extra_156 : Builder.Extra Tryz.prog sh_lays156_ren := {
 sizeBuilder := by kernel_rfl
 liesBuilder := by kernel_rfl
 t5 := Tryz.underlying5
 a5 := Tryz.isAgg5
 z5 := Tryz.sizeOf5
 v5 := Tryz.zeroValue5
 infoByte := by kernel_rfl
 cellsByte := by kernel_rfl
 sizeByte := by kernel_rfl
 neB5 := by decide }
def sh_lays160_ren : Go.Shelf.Ren := ⟨fun | 160 => 66 | 232 => 97 | 231 => 96 | 227 => 98 | 234 => 100 | 233 => 99 | 236 => 102 | 235 => 101 | 228 => 155 | 271 => 157 | 151 => 156 | 197 => 106 | 120 => 214 | 152 => 213 | 260 => 163 | 137 => 269 | 119 => 270 | 224 => 166 | 225 => 165 | 217 => 164 | 266 => 218 | n => n, fun | 9 => 9 | 4 => 4 | 3 => 3 | 5 => 5 | 117 => 162 | 116 => 161 | 0 => 0 | 124 => 165 | 21 => 21 | 105 => 167 | 46 => 152 | 119 => 291 | 139 => 294 | 138 => 293 | n => n, fun | 3 => 4 | 4 => 5 | n => n⟩
theorem sh_lays160 : Go.Proofs.Lays.n160 Tryz.prog sh_lays160_ren := {
 mixed := by kernel_rfl
 f119 := Tryz.func270.trans (congrArg some zKr)
 f120 := Tryz.func214.trans (congrArg some zKr)
 f137 := Tryz.func269.trans (congrArg some zKr)
 f151 := Tryz.func156.trans (congrArg some zKr)
 f152 := Tryz.func213.trans (congrArg some zKr)
 f160 := Tryz.func66.trans (congrArg some zKr)
 f197 := Tryz.func106.trans (congrArg some zKr)
 f217 := Tryz.func164.trans (congrArg some zKr)
 f224 := Tryz.func166.trans (congrArg some zKr)
 f225 := Tryz.func165.trans (congrArg some zKr)
 f227 := Tryz.func98.trans (congrArg some zKr)
 f228 := Tryz.func155.trans (congrArg some zKr)
 f231 := Tryz.func96.trans (congrArg some zKr)
 f232 := Tryz.func97.trans (congrArg some zKr)
 f233 := Tryz.func99.trans (congrArg some zKr)
 f234 := Tryz.func100.trans (congrArg some zKr)
 f235 := Tryz.func101.trans (congrArg some zKr)
 f236 := Tryz.func102.trans (congrArg some zKr)
 f260 := Tryz.func163.trans (congrArg some zKr)
 f266 := Tryz.func218.trans (congrArg some zKr)
 f271 := Tryz.func157.trans (congrArg some zKr)
 t0 := Tryz.underlying0
 a0 := Tryz.isAgg0
 z0 := Tryz.sizeOf0
 v0 := Tryz.zeroValue0
 t3 := Tryz.underlying3
 a3 := Tryz.isAgg3
 z3 := Tryz.sizeOf3
 v3 := Tryz.zeroValue3
 t4 := Tryz.underlying4
 a4 := Tryz.isAgg4
 z4 := Tryz.sizeOf4
 v4 := Tryz.zeroValue4
 t5 := Tryz.underlying5
 a5 := Tryz.isAgg5
 z5 := Tryz.sizeOf5
 v5 := Tryz.zeroValue5
 t9 := Tryz.underlying9
 a9 := Tryz.isAgg9
 z9 := Tryz.sizeOf9
 v9 := Tryz.zeroValue9
 t21 := Tryz.underlying21
 a21 := Tryz.isAgg21
 z21 := Tryz.sizeOf21
 v21 := Tryz.zeroValue21
 t46 := Tryz.underlying152
 a46 := Tryz.isAgg152
 z46 := Tryz.sizeOf152
 v46 := Tryz.zeroValue152
 t105 := Tryz.underlying167
 a105 := Tryz.isAgg167
 z105 := Tryz.sizeOf167
 v105 := Tryz.zeroValue167
 t116 := Tryz.underlying161
 a116 := Tryz.isAgg161
 z116 := Tryz.sizeOf161
 t117 := Tryz.underlying162
 a117 := Tryz.isAgg162
 z117 := Tryz.sizeOf162
 v117 := Tryz.zeroValue162
 t119 := Tryz.underlying291
 a119 := Tryz.isAgg291
 z119 := Tryz.sizeOf291
 t124 := Tryz.underlying165
 a124 := Tryz.isAgg165
 z124 := Tryz.sizeOf165
 v124 := Tryz.zeroValue165
 t138 := Tryz.underlying293
 a138 := Tryz.isAgg293
 z138 := Tryz.sizeOf293
 v138 := Tryz.zeroValue293
 t139 := Tryz.underlying294
 a139 := Tryz.isAgg294
 z139 := Tryz.sizeOf294
 v139 := Tryz.zeroValue294
 g3 := by kernel_rfl
 g4 := by kernel_rfl }
def sh_lays172_ren : Go.Shelf.Ren := ⟨fun | 172 => 67 | 244 => 103 | 245 => 104 | 247 => 158 | 279 => 159 | 280 => 160 | 281 => 161 | 282 => 162 | 287 => 215 | 316 => 216 | 171 => 18 | 205 => 217 | 321 => 271 | 322 => 272 | 243 => 42 | 246 => 71 | 283 => 109 | 284 => 110 | 285 => 111 | 286 => 112 | 129 => 169 | 317 => 168 | 318 => 170 | 319 => 171 | 320 => 172 | 337 => 220 | 338 => 221 | n => n, fun | 9 => 9 | 3 => 3 | 75 => 109 | 76 => 110 | 4 => 4 | 5 => 5 | 167 => 223 | 37 => 26 | 0 => 0 | 85 => 224 | 2 => 2 | 168 => 226 | 53 => 79 | 175 => 286 | 46 => 152 | 210 => 289 | 127 => 70 | 145 => 338 | 143 => 336 | 21 => 21 | 171 => 170 | 173 => 173 | 212 => 230 | 51 => 75 | 20 => 20 | 213 => 231 | 232 => 33 | 233 => 78 | 80 => 50 | n => n, fun | 15 => 2 | 16 => 3 | 17 => 1 | 18 => 6 | 19 => 7 | n => n⟩
theorem sh_lays172 : Go.Proofs.Lays.n172 Tryz.prog sh_lays172_ren := {
 mixed := by kernel_rfl
 f129 := Tryz.func169.trans (congrArg some zKr)
 f171 := Tryz.func18.trans (congrArg some zKr)
 f172 := Tryz.func67.trans (congrArg some zKr)
 f205 := Tryz.func217.trans (congrArg some zKr)
 f243 := Tryz.func42.trans (congrArg some zKr)
 f244 := Tryz.func103.trans (congrArg some zKr)
 f245 := Tryz.func104.trans (congrArg some zKr)
 f246 := Tryz.func71.trans (congrArg some zKr)
 f247 := Tryz.func158.trans (congrArg some zKr)
 f279 := Tryz.func159.trans (congrArg some zKr)
 f280 := Tryz.func160.trans (congrArg some zKr)
 f281 := Tryz.func161.trans (congrArg some zKr)
 f282 := Tryz.func162.trans (congrArg some zKr)
 f283 := Tryz.func109.trans (congrArg some zKr)
 f284 := Tryz.func110.trans (congrArg some zKr)
 f285 := Tryz.func111.trans (congrArg some zKr)
 f286 := Tryz.func112.trans (congrArg some zKr)
 f287 := Tryz.func215.trans (congrArg some zKr)
 f316 := Tryz.func216.trans (congrArg some zKr)
 f317 := Tryz.func168.trans (congrArg some zKr)
 f318 := Tryz.func170.trans (congrArg some zKr)
 f319 := Tryz.func171.trans (congrArg some zKr)
 f320 := Tryz.func172.trans (congrArg some zKr)
 f321 := Tryz.func271.trans (congrArg some zKr)
 f322 := Tryz.func272.trans (congrArg some zKr)
 f337 := Tryz.func220.trans (congrArg some zKr)
 f338 := Tryz.func221.trans (congrArg some zKr)
 t0 := Tryz.underlying0
 a0 := Tryz.isAgg0
 z0 := Tryz.sizeOf0
 v0 := Tryz.zeroValue0
 t2 := Tryz.underlying2
 a2 := Tryz.isAgg2
 z2 := Tryz.sizeOf2
 v2 := Tryz.zeroValue2
 t3 := Tryz.underlying3
 a3 := Tryz.isAgg3
 z3 := Tryz.sizeOf3
 v3 := Tryz.zeroValue3
 t4 := Tryz.underlying4
 a4 := Tryz.isAgg4
 z4 := Tryz.sizeOf4
 v4 := Tryz.zeroValue4
 t5 := Tryz.underlying5
 a5 := Tryz.isAgg5
 z5 := Tryz.sizeOf5
 v5 := Tryz.zeroValue5
 t9 := Tryz.underlying9
 a9 := Tryz.isAgg9
 z9 := Tryz.sizeOf9
 v9 := Tryz.zeroValue9
 t20 := Tryz.underlying20
 a20 := Tryz.isAgg20
 z20 := Tryz.sizeOf20
 v20 := Tryz.zeroValue20
 t21 := Tryz.underlying21
 a21 := Tryz.isAgg21
 z21 := Tryz.sizeOf21
 v21 := Tryz.zeroValue21
 t37 := Tryz.underlying26
 a37 := Tryz.isAgg26
 z37 := Tryz.sizeOf26
 v37 := Tryz.zeroValue26
 t46 := Tryz.underlying152
 a46 := Tryz.isAgg152
 z46 := Tryz.sizeOf152
 v46 := Tryz.zeroValue152
 t51 := Tryz.underlying75
 a51 := Tryz.isAgg75
 z51 := Tryz.sizeOf75
 v51 := Tryz.zeroValue75
 t53 := Tryz.underlying79
 a53 := Tryz.isAgg79
 z53 := Tryz.sizeOf79
 v53 := Tryz.zeroValue79
 t75 := Tryz.underlying109
 a75 := Tryz.isAgg109
 z75 := Tryz.sizeOf109
 v75 := Tryz.zeroValue109
 t76 := Tryz.underlying110
 a76 := Tryz.isAgg110
 z76 := Tryz.sizeOf110
 v76 := Tryz.zeroValue110
 t85 := Tryz.underlying224
 a85 := Tryz.isAgg224
 z85 := Tryz.sizeOf224
 v85 := Tryz.zeroValue224
 t127 := Tryz.underlying70
 a127 := Tryz.isAgg70
 z127 := Tryz.sizeOf70
 v127 := Tryz.zeroValue70
 t143 := Tryz.underlying336
 a143 := Tryz.isAgg336
 z143 := Tryz.sizeOf336
 v143 := Tryz.zeroValue336
 t145 := Tryz.underlying338
 a145 := Tryz.isAgg338
 z145 := Tryz.sizeOf338
 v145 := Tryz.zeroValue338
 t167 := Tryz.underlying223
 a167 := Tryz.isAgg223
 z167 := Tryz.sizeOf223
 v167 := Tryz.zeroValue223
 t168 := Tryz.underlying226
 a168 := Tryz.isAgg226
 z168 := Tryz.sizeOf226
 v168 := Tryz.zeroValue226
 t171 := Tryz.underlying170
 a171 := Tryz.isAgg170
 z171 := Tryz.sizeOf170
 v171 := Tryz.zeroValue170
 t173 := Tryz.underlying173
 a173 := Tryz.isAgg173
 z173 := Tryz.sizeOf173
 v173 := Tryz.zeroValue173
 t175 := Tryz.underlying286
 a175 := Tryz.isAgg286
 z175 := Tryz.sizeOf286
 v175 := Tryz.zeroValue286
 t210 := Tryz.underlying289
 a210 := Tryz.isAgg289
 z210 := Tryz.sizeOf289
 v210 := Tryz.zeroValue289
 t212 := Tryz.underlying230
 a212 := Tryz.isAgg230
 z212 := Tryz.sizeOf230
 v212 := Tryz.zeroValue230
 t213 := Tryz.underlying231
 a213 := Tryz.isAgg231
 z213 := Tryz.sizeOf231
 t232 := Tryz.underlying33
 a232 := Tryz.isAgg33
 z232 := Tryz.sizeOf33
 v232 := Tryz.zeroValue33
 t233 := Tryz.underlying78
 a233 := Tryz.isAgg78
 z233 := Tryz.sizeOf78
 v233 := Tryz.zeroValue78
 g15 := by kernel_rfl
 g16 := by kernel_rfl
 g17 := by kernel_rfl
 g18 := by kernel_rfl
 g19 := by kernel_rfl }
def sh_lays171_ren : Go.Shelf.Ren := ⟨fun | 171 => 18 | 243 => 42 | 246 => 71 | 283 => 109 | 284 => 110 | 285 => 111 | 286 => 112 | 129 => 169 | 317 => 168 | 318 => 170 | 319 => 171 | 320 => 172 | 337 => 220 | 338 => 221 | n => n, fun | 3 => 3 | 9 => 9 | 2 => 2 | 4 => 4 | 171 => 170 | 0 => 0 | 53 => 79 | 37 => 26 | 5 => 5 | 173 => 173 | 212 => 230 | 51 => 75 | 20 => 20 | 213 => 231 | 46 => 152 | 232 => 33 | 233 => 78 | n => n, fun | 17 => 1 | 18 => 6 | 19 => 7 | n => n⟩
theorem sh_lays171 : Go.Proofs.Lays.n171 Tryz.prog sh_lays171_ren := {
 mixed := by kernel_rfl
 f129 := Tryz.func169.trans (congrArg some zKr)
 f171 := Tryz.func18.trans (congrArg some zKr)
 f243 := Tryz.func42.trans (congrArg some zKr)
 f246 := Tryz.func71.trans (congrArg some zKr)
 f283 := Tryz.func109.trans (congrArg some zKr)
 f284 := Tryz.func110.trans (congrArg some zKr)
 f285 := Tryz.func111.trans (congrArg some zKr)
 f286 := Tryz.func112.trans (congrArg some zKr)
 f317 := Tryz.func168.trans (congrArg some zKr)
 f318 := Tryz.func170.trans (congrArg some zKr)
 f319 := Tryz.func171.trans (congrArg some zKr)
 f320 := Tryz.func172.trans (congrArg some zKr)
 f337 := Tryz.func220.trans (congrArg some zKr)
 f338 := Tryz.func221.trans (congrArg some zKr)
 t0 := Tryz.underlying0
 a0 := Tryz.isAgg0
 z0 := Tryz.sizeOf0
 v0 := Tryz.zeroValue0
 t2 := Tryz.underlying2
 a2 := Tryz.isAgg2
 z2 := Tryz.sizeOf2
 v2 := Tryz.zeroValue2
 t3 := Tryz.underlying3
 a3 := Tryz.isAgg3
 z3 := Tryz.sizeOf3
 v3 := Tryz.zeroValue3
 t4 := Tryz.underlying4
 a4 := Tryz.isAgg4
 z4 := Tryz.sizeOf4
 v4 := Tryz.zeroValue4
 t5 := Tryz.underlying5
 a5 := Tryz.isAgg5
 z5 := Tryz.sizeOf5
 v5 := Tryz.zeroValue5
 t9 := Tryz.underlying9
 a9 := Tryz.isAgg9
 z9 := Tryz.sizeOf9
 v9 := Tryz.zeroValue9
 t20 := Tryz.underlying20
 a20 := Tryz.isAgg20
 z20 := Tryz.sizeOf20
 v20 := Tryz.zeroValue20
 t37 := Tryz.underlying26
 a37 := Tryz.isAgg26
 z37 := Tryz.sizeOf26
 v37 := Tryz.zeroValue26
 t46 := Tryz.underlying152
 a46 := Tryz.isAgg152
 z46 := Tryz.sizeOf152
 v46 := Tryz.zeroValue152
 t51 := Tryz.underlying75
 a51 := Tryz.isAgg75
 z51 := Tryz.sizeOf75
 v51 := Tryz.zeroValue75
 t53 := Tryz.underlying79
 a53 := Tryz.isAgg79
 z53 := Tryz.sizeOf79
 v53 := Tryz.zeroValue79
 t171 := Tryz.underlying170
 a171 := Tryz.isAgg170
 z171 := Tryz.sizeOf170
 v171 := Tryz.zeroValue170
 t173 := Tryz.underlying173
 a173 := Tryz.isAgg173
 z173 := Tryz.sizeOf173
 v173 := Tryz.zeroValue173
 t212 := Tryz.underlying230
 a212 := Tryz.isAgg230
 z212 := Tryz.sizeOf230
 v212 := Tryz.zeroValue230
 t213 := Tryz.underlying231
 a213 := Tryz.isAgg231
 z213 := Tryz.sizeOf231
 t232 := Tryz.underlying33
 a232 := Tryz.isAgg33
 z232 := Tryz.sizeOf33
 v232 := Tryz.zeroValue33
 t233 := Tryz.underlying78
 a233 := Tryz.isAgg78
 z233 := Tryz.sizeOf78
 v233 := Tryz.zeroValue78
 g17 := by kernel_rfl
 g18 := by kernel_rfl
 g19 := by kernel_rfl }
def sh_lays221_ren : Go.Shelf.Ren := ⟨fun | 221 => 41 | 268 => 68 | 138 => 69 | 143 => 70 | 195 => 105 | 197 => 106 | 218 => 107 | 219 => 108 | 260 => 163 | 217 => 164 | 225 => 165 | 224 => 166 | 267 => 167 | 266 => 218 | 314 => 219 | n => n, fun | 9 => 9 | 3 => 3 | 31 => 28 | 4 => 4 | 0 => 0 | 105 => 167 | 21 => 21 | 5 => 5 | 46 => 152 | 119 => 291 | 139 => 294 | 138 => 293 | 146 => 233 | 51 => 75 | n => n, fun | 1 => 0 | 3 => 4 | 4 => 5 | n => n⟩
theorem sh_lays221 : Go.Proofs.Lays.n221 Tryz.prog sh_lays221_ren := {
 mixed := by kernel_rfl
 f138 := Tryz.func69.trans (congrArg some zKr)
 f143 := Tryz.func70.trans (congrArg some zKr)
 f195 := Tryz.func105.trans (congrArg some zKr)
 f197 := Tryz.func106.trans (congrArg some zKr)
 f217 := Tryz.func164.trans (congrArg some zKr)
 f218 := Tryz.func107.trans (congrArg some zKr)
 f219 := Tryz.func108.trans (congrArg some zKr)
 f221 := Tryz.func41.trans (congrArg some zKr)
 f224 := Tryz.func166.trans (congrArg some zKr)
 f225 := Tryz.func165.trans (congrArg some zKr)
 f260 := Tryz.func163.trans (congrArg some zKr)
 f266 := Tryz.func218.trans (congrArg some zKr)
 f267 := Tryz.func167.trans (congrArg some zKr)
 f268 := Tryz.func68.trans (congrArg some zKr)
 f314 := Tryz.func219.trans (congrArg some zKr)
 t0 := Tryz.underlying0
 a0 := Tryz.isAgg0
 z0 := Tryz.sizeOf0
 v0 := Tryz.zeroValue0
 t3 := Tryz.underlying3
 a3 := Tryz.isAgg3
 z3 := Tryz.sizeOf3
 v3 := Tryz.zeroValue3
 t4 := Tryz.underlying4
 a4 := Tryz.isAgg4
 z4 := Tryz.sizeOf4
 v4 := Tryz.zeroValue4
 t5 := Tryz.underlying5
 a5 := Tryz.isAgg5
 z5 := Tryz.sizeOf5
 v5 := Tryz.zeroValue5
 t9 := Tryz.underlying9
 a9 := Tryz.isAgg9
 z9 := Tryz.sizeOf9
 v9 := Tryz.zeroValue9
 t21 := Tryz.underlying21
 a21 := Tryz.isAgg21
 z21 := Tryz.sizeOf21
 v21 := Tryz.zeroValue21
 t31 := Tryz.underlying28
 a31 := Tryz.isAgg28
 z31 := Tryz.sizeOf28
 v31 := Tryz.zeroValue28
 t46 := Tryz.underlying152
 a46 := Tryz.isAgg152
 z46 := Tryz.sizeOf152
 v46 := Tryz.zeroValue152
 t51 := Tryz.underlying75
 a51 := Tryz.isAgg75
 z51 := Tryz.sizeOf75
 v51 := Tryz.zeroValue75
 t105 := Tryz.underlying167
 a105 := Tryz.isAgg167
 z105 := Tryz.sizeOf167
 v105 := Tryz.zeroValue167
 t119 := Tryz.underlying291
 a119 := Tryz.isAgg291
 z119 := Tryz.sizeOf291
 t138 := Tryz.underlying293
 a138 := Tryz.isAgg293
 z138 := Tryz.sizeOf293
 v138 := Tryz.zeroValue293
 t139 := Tryz.underlying294
 a139 := Tryz.isAgg294
 z139 := Tryz.sizeOf294
 v139 := Tryz.zeroValue294
 t146 := Tryz.underlying233
 a146 := Tryz.isAgg233
 z146 := Tryz.sizeOf233
 v146 := Tryz.zeroValue233
 g1 := by kernel_rfl
 g3 := by kernel_rfl
 g4 := by kernel_rfl }
def ahd (b : UInt8) : List (List UInt8) → List (List UInt8)
 | [] => [[b]]
 | x :: r => (b :: x) :: r
def lns (c : UInt8) : List UInt8 → List (List UInt8)
 | [] => [[]]
 | b :: l => if b = c then [] :: lns c l else ahd b (lns c l)
theorem lns_len (c : UInt8) : ∀ l : List UInt8, (lns c l).length = l.count c + 1
 | [] => rfl
 | b :: l => by
  have ih := lns_len c l
  unfold lns
  by_cases h : b = c
  · rw [if_pos h, List.length_cons, ih, h, List.count_cons_self]
  · rw [if_neg h, List.count_cons_of_ne h]
    cases hl : lns c l with
    | nil => rw [hl] at ih; simp at ih
    | cons x r => rw [hl] at ih; simpa [ahd] using ih
theorem splitK_lns (c : UInt8) : ∀ l : List UInt8, Lib.splitK [c] 0 (l.count c) l = lns c l
 | [] => rfl
 | b :: l => by
  have ih := splitK_lns c l
  unfold lns
  by_cases h : b = c
  · subst h
    rw [if_pos rfl, List.count_cons_self]
    unfold Lib.splitK
    have hi : Lib.index (b :: l) [b] = 0 := by rw [Lib.index_one]; simp [Lib.indexByte]
    rw [hi]
    simp only [show ((0 : Int) == -1) = false from rfl, Bool.false_eq_true, if_false]
    simpa using ih
  · rw [if_neg h, List.count_cons_of_ne h]
    have hi : Lib.index (b :: l) [c] = if Lib.index l [c] == -1 then -1 else Lib.index l [c] + 1 := by
     rw [Lib.index_one, Lib.index_one]
     conv => lhs; unfold Lib.indexByte
     rw [if_neg (by simpa using h)]
    rw [← ih]
    cases l.count c with
    | zero => rfl
    | succ k =>
     unfold Lib.splitK
     rw [hi]
     have hge : -1 ≤ Lib.index l [c] := by rw [Lib.index_one]; exact Lib.indexByte_ge l c
     by_cases hm : Lib.index l [c] = -1
     · simp [hm, ahd]
     · have hne : (Lib.index l [c] == -1) = false := by simpa using hm
       have hne2 : (Lib.index l [c] + 1 == -1) = false := by simp; omega
       have hn : (Lib.index l [c] + 1).toNat = (Lib.index l [c]).toNat + 1 := by omega
       simp only [hne, hne2, Bool.false_eq_true, if_false, hn, ahd, Nat.add_zero, List.length_cons, List.length_nil, Nat.zero_add, List.take_succ_cons, List.drop_succ_cons]
theorem splitB_lns (c : UInt8) (s : ByteArray) : (Lib.splitB ⟨#[c]⟩ 0 (Lib.countB s ⟨#[c]⟩) s).map Value.string = (lns c s.data.toList).map (fun l => Value.string ⟨l.toArray⟩) := by
 have h1 := Lib.splitB_data ⟨#[c]⟩ 0 (Lib.countB s ⟨#[c]⟩) s
 have h2 : Lib.countB s ⟨#[c]⟩ = s.data.toList.count c := by
  show Lib.count s.data.toList [c] = _
  exact Lib.count_one c _
 rw [h2] at h1 ⊢
 rw [show (⟨#[c]⟩ : ByteArray).data.toList = [c] from rfl, splitK_lns] at h1
 rw [← h1, List.map_map]
 rfl
theorem lns_size (c : UInt8) (s : ByteArray) : Lib.countB s ⟨#[c]⟩ + 1 = (lns c s.data.toList).length := by
 rw [lns_len]
 show Lib.count s.data.toList [c] + 1 = _
 rw [Lib.count_one]
theorem split_any (c : UInt8) (s : ByteArray) (w : World) (hs : s.size < 4294967281) :
 Calls Tryz.prog 17 #[.string s, .string ⟨#[c]⟩] w fun e w' =>
  e = .returned (.slice (some ⟨w.heap.size, 0, none⟩) (lns c s.data.toList).length (lns c s.data.toList).length) ∧ w' = w.alloc (.cells ((lns c s.data.toList).map (fun l => Value.string ⟨l.toArray⟩)).toArray 9) := by
 have q := Any.strings_genSplit_core sh_lays221 zKr s ⟨#[c]⟩ 0 (-1) (Lib.countB s ⟨#[c]⟩ + 1) w hs (Nat.le_refl 1) (Nat.zero_le _)
  (fun x C hx => by
   have := Any.strings_Index_one { sh_lays221 with } x c (w.alloc (.cells C 9))
   refine this.mono fun e w' ⟨he, hw⟩ => ⟨?_, hw⟩
   rw [he]
   show _ = Ending.returned (.int .i64 (Lib.index x.data.toList [c]))
   rw [Lib.index_one])
  (by
   have := Any.strings_Count_one { sh_lays221 with } s c w
   refine this.mono fun e w' ⟨he, hw⟩ => ⟨?_, hw⟩
   rw [he]
   show _ = Ending.returned (.int .i64 ((Lib.count s.data.toList [c] : Nat) : Int))
   rw [Lib.count_one]
   rfl)
  zDc zDc
  (by
   have := Lib.countB_le ⟨#[c]⟩ (Nat.le_refl 1) s.size s (Nat.le_refl _)
   rw [if_pos zDc]
   omega)
 rw [Nat.add_sub_cancel, Lib.splitB_all ⟨#[c]⟩ (Nat.le_refl 1) 0 _ s rfl] at q
 have e2 : Lib.cellsOf (Lib.splitB ⟨#[c]⟩ 0 (Lib.countB s ⟨#[c]⟩) s) (Lib.countB s ⟨#[c]⟩ + 1) = ((Lib.splitB ⟨#[c]⟩ 0 (Lib.countB s ⟨#[c]⟩) s).map Value.string).toArray := by
  have := Lib.cellsOf_full (Lib.splitB ⟨#[c]⟩ 0 (Lib.countB s ⟨#[c]⟩) s)
  rwa [Lib.splitB_all ⟨#[c]⟩ (Nat.le_refl 1) 0 _ s rfl] at this
 rw [e2, splitB_lns, lns_size] at q
 have q' : Calls Tryz.prog 41 #[.string s, .string ⟨#[c]⟩, .int .i64 0, .int .i64 (-1)] w fun e w' =>
  e = .returned (.slice (some ⟨w.heap.size, 0, none⟩) (lns c s.data.toList).length (lns c s.data.toList).length) ∧ w' = w.alloc (.cells ((lns c s.data.toList).map (fun l => Value.string ⟨l.toArray⟩)).toArray 9) := q
 clear q e2
 obtain ⟨n, hn⟩ : ∃ n, (lns c s.data.toList).length = n := ⟨_, rfl⟩
 obtain ⟨C, hC⟩ : ∃ C, ((lns c s.data.toList).map (fun l => Value.string ⟨l.toArray⟩)).toArray = C := ⟨_, rfl⟩
 rw [hn, hC] at q' ⊢
 replace q' := zH q'
 clear hn hC hs
 go_enter Tryz.func17, Tryz.ntmps17
 go_wp2_with fail
 refine q'.out.mono ?_
 rintro e w1 ⟨rfl, rfl⟩
 clear q'
 go_wp2_with fail
 go_ret
 exact ⟨rfl, rfl⟩
def joinL (xs : List (List UInt8)) : List UInt8 := Lib.join xs [32]
def Sts (w : World) (v : Value) (xs : List (List UInt8)) : Prop := ∃ b n, v = .slice (some ⟨b, 0, none⟩) n n ∧ n = xs.length ∧ Arr w b (xs.map (fun l => Value.string ⟨l.toArray⟩))
theorem Sts.below {w w' : World} {v : Value} {xs : List (List UInt8)} (h : Sts w v xs) (hb : Below w.heap.size w w') : Sts w' v xs := by
 obtain ⟨b, n, h1, h2, h3⟩ := h
 exact ⟨b, n, h1, h2, h3.below hb⟩
theorem Sts.new1 (w : World) (x : List UInt8) (T : TypeId) : Sts (w.alloc (.cells #[.string ⟨x.toArray⟩] T)) (.slice (some ⟨w.heap.size, 0, none⟩) 1 1) [x] := ⟨_, _, rfl, rfl, Arr.new _ _ _⟩
theorem Sts.new2 (w : World) (x y : List UInt8) (T : TypeId) : Sts (w.alloc (.cells #[.string ⟨x.toArray⟩, .string ⟨y.toArray⟩] T)) (.slice (some ⟨w.heap.size, 0, none⟩) 2 2) [x, y] := ⟨_, _, rfl, rfl, Arr.new _ _ _⟩
theorem join_any (v : Value) (xs : List (List UInt8)) (w : World) (h : Sts w v xs) (hN : xs.length ≤ 1000) (hlen : (joinL xs).length ≤ 140737488355328) :
 Calls Tryz.prog 64 #[v, .string ⟨#[32]⟩] w fun e w' => e = .returned (.string ⟨(joinL xs).toArray⟩) ∧ Below w.heap.size w w' := by
 obtain ⟨b, n, rfl, rfl, h3⟩ := h
 have hm : (xs.map (fun l : List UInt8 => (⟨l.toArray⟩ : ByteArray))).map (·.data.toList) = xs := by rw [List.map_map]; simp [Function.comp_def]
 have q := Any.strings_Join sh_lays156 sh_Builder_Extra_156 b 0 xs.length (xs.map (fun l => ⟨l.toArray⟩)) ⟨#[32]⟩ w
  (fun j x hx => by
   rw [Nat.zero_add]
   refine h3.cell ?_
   rw [List.getElem?_map] at hx ⊢
   cases hj : xs[j]? with
   | none => rw [hj] at hx; simp at hx
   | some l => rw [hj] at hx; simp at hx; subst hx; rfl)
  h3.lt (by simp; omega) (by simp) (by rw [hm]; exact hlen)
 rw [hm] at q
 rw [List.length_map] at q
 exact q
theorem dec_small (i : Nat) (hi : i < 100) (w : World) :
 Calls Tryz.prog 12 #[.int .i64 (i : Int)] w fun e w' => e = .returned (.string ⟨(Lib.decDigits i).toArray⟩) ∧ w' = w := by
 have cI := zH (show Calls Tryz.prog 18 #[.int .i64 (i : Int)] w fun e w' => e = .returned (.string ⟨(Lib.decDigits i).toArray⟩) ∧ w' = w from Any.strconv_Itoa_small sh_lays171 i hi w)
 obtain ⟨D, hD⟩ : ∃ D, (Lib.decDigits i).toArray = D := ⟨_, rfl⟩
 rw [hD] at cI ⊢
 obtain ⟨k, hk⟩ : ∃ k : Int, (i : Int) = k := ⟨_, rfl⟩
 have h0 : ¬ k < 0 := by omega
 rw [hk] at cI ⊢
 clear hD hk hi
 go_enter Tryz.func12, Tryz.ntmps12
 go_wp2_with fail
 refine cI.out.mono ?_
 rintro e w1 ⟨rfl, rfl⟩
 clear cI
 go_wp2_with fail
 go_ret
 exact ⟨rfl, rfl⟩
def refu (n : Int) : Value := .iface 61 (.agg #[.int .i64 n])
theorem must_ok (w : World) : Calls Tryz.prog 39 #[.int .i64 0] w fun e w' => e = .returned (.tuple #[]) ∧ w' = w := by
 go_enter Tryz.func39, Tryz.ntmps39
 go_wp2
 go_end0
 exact ⟨rfl, rfl⟩
theorem must_no (n : Int) (h : n ≠ 0) (w : World) : Calls Tryz.prog 39 #[.int .i64 n] w fun e w' => e = .panicked [{ v := refu n, recovered := false }] ∧ w' = w := by
 have hz : (n == 0) = false := by simpa using h
 unfold refu
 go_enter Tryz.func39, Tryz.ntmps39
 go_wp2
 exact ⟨rfl, rfl, rfl⟩
theorem needs_ok (w : World) : Calls Tryz.prog 52 #[.bool true] w fun e w' => e = .returned (.tuple #[]) ∧ w' = w := by
 go_enter Tryz.func52, Tryz.ntmps52
 go_wp2
 go_end0
 exact ⟨rfl, rfl⟩
theorem needs_no (w : World) : Calls Tryz.prog 52 #[.bool false] w fun e w' => e = .panicked [{ v := refu 1, recovered := false }] ∧ w' = w := by
 have c := zH (must_no 1 zDc w)
 go_enter Tryz.func52, Tryz.ntmps52
 go_wp2_with fail
 refine c.out.mono ?_
 rintro e w1 ⟨rfl, rfl⟩
 exact ⟨rfl, rfl, rfl⟩
theorem say_any (p B : Nat) (X : Plr) (a u v : Value) (L : List UInt8) (xs : List (List UInt8)) (w : World) (kp : Pl w p (X.cs a u)) (ha : a = .pointer none ∨ a = slf p)
 (ko : w.ownsRow B 5 1 u L.length (u8s L)) (hpB : p < B) (hB : B ≤ w.heap.size) (hv : Sts w v xs) (hN : xs.length ≤ 1000) (hlen : L.length + (joinL xs).length + 1 ≤ 140737488355328) :
 Calls Tryz.prog 38 #[.pointer (some ⟨p, 0, none⟩), v] w fun e w' => ∃ u', e = .returned (.tuple #[]) ∧ Pl w' p (X.cs (slf p) u') ∧
  w'.ownsRow B 5 1 u' (L ++ joinL xs ++ [10]).length (u8s (L ++ joinL xs ++ [10])) ∧ (∀ g, u'.ownBlock = some g → B ≤ g) ∧ Cp p B w w' := by
 obtain ⟨J, hJ⟩ : ∃ J, joinL xs = J := ⟨_, rfl⟩
 have cJ := zH (fun (w' : World) (h : Sts w' v xs) => join_any v xs w' h hN zOm)
 have cW := zH (fun (w' : World) (k : Pl w' p (X.cs a u)) (o : w'.ownsRow B 5 1 u L.length (u8s L)) (h : B ≤ w'.heap.size) => wstr_any p B X a u L ⟨J.toArray⟩ w' k ha o hpB h (by rw [← hJ]; simp [ByteArray.size]; omega))
 have cB := zH (fun (u1 : Value) (w' : World) (k : Pl w' p (X.cs (slf p) u1)) (o : w'.ownsRow B 5 1 u1 (L ++ J).length (u8s (L ++ J))) (h : B ≤ w'.heap.size) => wbyte_any p B X (slf p) u1 (L ++ J) 10 w' k (.inr rfl) o hpB h (by rw [List.length_append, ← hJ]; omega))
 rw [hJ] at cJ ⊢
 obtain ⟨b, n, rfl, hn, h3⟩ := hv
 have hv : Sts w (.slice (some ⟨b, 0, none⟩) n n) xs := ⟨b, n, rfl, hn, h3⟩
 clear hJ hN hlen hn h3
 replace hv := zH hv
 replace kp := zH kp
 replace ko := zH ko
 go_enter Tryz.func38, Tryz.ntmps38
 refine wp_seq ?_
 refine Tx.start (fun w' => Cp p B w w') 9999 6 rfl zKr ?_
 have hb0 : Below w.heap.size w w.drew := (Below.refl _ _).drew
 have hS0 : Cp p B w w.drew := Cp.of_below hb0 hB
 refine Tx.seg (A := ?_) 2 15 zKr (by exact hS0) [0, 1, 2, 3] zKr ?_ ?_
 rotate_left
 · intro w' hB
   exact zRd
 refine Tx.eff 4 31 rfl zDk (fun K hK => ?_)
 go_simp
 refine (cJ.out _ (hv.out.below hb0)).mono ?_
 rintro e w1 ⟨rfl, hb1⟩
 have hb2 : Below w.heap.size w w1 := bel hb0 hb1
 have hS1 : Cp p B w w1 := Cp.of_below hb2 hB
 refine hK (fun w' => Cp p B w w') _ _ hS1 (fun _ h => h) ?_
 clear hK K hS0 hb0 hb1 cJ
 try simp only [Act.put, zSa, zSz, zSs]
 refine Tx.eff 5 63 rfl zDk (fun K hK => ?_)
 go_simp
 have hB1 : B ≤ w1.heap.size := Nat.le_trans hB hb2.size
 refine (cW.out _ (kp.out.below hb2) (own_below ko.out hb2) hB1).mono ?_
 rintro e w2 ⟨u1, rfl, k2, o2, g2, c2⟩
 have hS2 : Cp p B w w2 := hS1.trans c2
 refine hK (fun w' => Cp p B w w') _ _ hS2 (fun _ h => h) ?_
 clear hK K
 have hB2 : B ≤ w2.heap.size := Nat.le_trans hB1 c2.size
 clear c2 hS1 hB1 hb2 cW kp ko
 try simp only [Act.put, zSa, zSz, zSs]
 refine Tx.done zKr ?_
 replace k2 := zH k2
 replace o2 := zH o2
 go_wp2_with fail
 refine (cB.out _ _ k2.out o2.out hB2).mono ?_
 rintro e w3 ⟨u2, rfl, k3, o3, g3, c3⟩
 go_wp2_with fail
 go_end0
 exact ⟨u2, rfl, k3, o3, g3, hS2.trans c3⟩
def mpE : List (ByteArray × Value) → Nat → List MapEntry
 | [], _ => []
 | (s, v) :: l, n => { key := .string s, val := v, born := n } :: mpE l (n + 1)
def Mp (w : World) (r : Nat) (l : List (ByteArray × Value)) : Prop := w.heap[r]? = some (.map (mpE l 0).toArray l.length)
theorem Mp.lt {w : World} {r : Nat} {l : List (ByteArray × Value)} (h : Mp w r l) : r < w.heap.size := (Array.getElem?_eq_some_iff.1 h).1
theorem Mp.below {w w' : World} {r : Nat} {l : List (ByteArray × Value)} (h : Mp w r l) (hb : Below w.heap.size w w') : Mp w' r l := by
 unfold Mp; rw [hb.block r h.lt]; exact h
theorem Mp.ch {M : List Nat} {w w' : World} {r : Nat} {l : List (ByteArray × Value)} (h : Mp w r l) (hb : Ch M w w') (hr : r ∉ M) : Mp w' r l := by
 unfold Mp; rw [hb.block r h.lt hr]; exact h
theorem Mp.cp {p B : Nat} {w w' : World} {r : Nat} {l : List (ByteArray × Value)} (h : Mp w r l) (hb : Cp p B w w') (hr : r < B) (hp : r ≠ p) : Mp w' r l := by
 unfold Mp; rw [hb.block r hr hp]; exact h
def mpF (s : ByteArray) : List (ByteArray × Value) → Nat → Option (Nat × Value)
 | [], _ => none
 | (k, v) :: l, i => if s.data.toList == k.data.toList then some (i, v) else mpF s l (i + 1)
theorem ba_beq (s k : ByteArray) : (s == k) = (s.data.toList == k.data.toList) := by
 obtain ⟨a⟩ := s
 obtain ⟨b⟩ := k
 show (a == b) = (a.toList == b.toList)
 rw [Bool.eq_iff_iff, beq_iff_eq, beq_iff_eq, Array.toList_inj]
theorem findNow_mp (s : ByteArray) : ∀ (l : List (ByteArray × Value)) (n i : Nat), Instr.findNow .string (.string s) (mpE l n) i = some (mpF s l i)
 | [], _, _ => rfl
 | (k, v) :: l, n, i => by
  unfold mpE Instr.findNow mpF
  simp only [Instr.sameNow]
  rw [ba_beq]
  cases h : s.data.toList == k.data.toList
  · simpa using findNow_mp s l (n + 1) (i + 1)
  · rfl
theorem mpE_snoc (s : ByteArray) (v : Value) : ∀ (l : List (ByteArray × Value)) (n : Nat), mpE (l ++ [(s, v)]) n = mpE l n ++ [{ key := .string s, val := v, born := n + l.length }]
 | [], _ => rfl
 | (k, u) :: l, n => by
  simp only [List.cons_append, mpE, mpE_snoc s v l (n + 1), List.length_cons]
  rw [show n + 1 + l.length = n + (l.length + 1) by omega]
theorem run_insert {P : Program} {w : World} (mty kt et : TypeId) (r : Nat) (s : ByteArray) (v : Value) (hm : P.underlying mty = some (.map kt et)) (hk : P.underlying kt = some .string) (l : List (ByteArray × Value)) (hb : Mp w r l) (hn : mpF s l 0 = none) :
 (Instr.mapUpdate mty (.map (some r)) (.string s) v).run P w = .ok () { w with heap := w.heap.setIfInBounds r (.map (mpE (l ++ [(s, v)]) 0).toArray (l ++ [(s, v)]).length) } := by
 have hf : Instr.findNow .string (.string s) (mpE l 0).toArray.toList 0 = some none := by rw [show (mpE l 0).toArray.toList = mpE l 0 from rfl, findNow_mp, hn]
 have hc : (Instr.checkKey false 10000 kt (.string s)).run P w = .ok () w := MapKept.run_checkKey (k := .string s) hk (by simp [MapKept.IsKey]) false 9999
 have hb' : w.heap[r]? = some (.map (mpE l 0).toArray l.length) := hb
 simp [Instr.mapUpdate, run_underlying hm, MapKept.run_getObj_map hb', hc, MapKept.run_findKey hk hf, MapKept.run_setObj_map _ hb', Result.andThen, mpE_snoc]
theorem mp_put {w : World} {r : Nat} {l l' : List (ByteArray × Value)} (hb : Mp w r l) : Mp { w with heap := w.heap.setIfInBounds r (.map (mpE l' 0).toArray l'.length) } r l' := by
 have := hb.lt
 simp [Mp, this]
theorem gr_put {w : World} {r : Nat} (o : Obj) : w.grownBy { w with heap := w.heap.setIfInBounds r o } (some r) :=
 ⟨rfl, rfl, rfl, by simp, fun k hk hn => by
  simp only [Array.getElem?_setIfInBounds]
  rw [if_neg (fun h => hn (by rw [h]))]⟩
theorem wpl_insert {P : Program} {w : World} {ops : Array Oper} {rest : List Oper} {o : Oper} {a : Act} {Q : Exit → Act → World → Prop} (hgd : o.guard = none) (mty kt et : TypeId) (m k x : Operand) (ho : o.op = .insert mty m k x)
 (r : Nat) (s : ByteArray) (v : Value) (hmv : a.eval m = .map (some r)) (hkv : a.eval k = .string s) (hxv : a.eval x = v) (hm : P.underlying mty = some (.map kt et)) (hk : P.underlying kt = some .string) (l : List (ByteArray × Value)) (hb : Mp w r l) (hn : mpF s l 0 = none)
 (h : ∀ W, Mp W r (l ++ [(s, v)]) → w.grownBy W (some r) → wpList P ops Q rest (a.put o.dst undef) W) : wpList P ops Q (o :: rest) a w := by
 refine wpList_plain hgd fun K hK => ?_
 unfold Oper.wp execOp
 simp only [ho, hmv, hkv, hxv, Sem.run_bind, Sem.run_pure, Result.andThen_ok, run_insert mty kt et r s v hm hk l hb hn]
 exact hK _ _ (h _ (mp_put hb) (gr_put _))
theorem run_look {P : Program} {w : World} (mty kt et : TypeId) (r : Nat) (s : ByteArray) (hm : P.underlying mty = some (.map kt et)) (hk : P.underlying kt = some .string) (l : List (ByteArray × Value)) (hb : Mp w r l) {i : Nat} {v : Value} (hn : mpF s l 0 = some (i, v)) :
 (Instr.lookup mty (.map (some r)) (.string s) true).run P w = .ok (.tuple #[v, .bool true]) w := by
 have hf : Instr.findNow .string (.string s) (mpE l 0).toArray.toList 0 = some (some (i, v)) := by rw [show (mpE l 0).toArray.toList = mpE l 0 from rfl, findNow_mp, hn]
 have hc : ∀ b, (Instr.checkKey b 10000 kt (.string s)).run P w = .ok () w := fun b => MapKept.run_checkKey (k := .string s) hk (by simp [MapKept.IsKey]) b 9999
 have hb' : w.heap[r]? = some (.map (mpE l 0).toArray l.length) := hb
 simp [Instr.lookup, run_underlying hm, MapKept.run_getObj_map hb', hc, MapKept.run_findKey hk hf, Result.andThen]
theorem run_look_none {P : Program} {w : World} (mty kt et : TypeId) (r : Nat) (s : ByteArray) (z : Value) (hm : P.underlying mty = some (.map kt et)) (hk : P.underlying kt = some .string) (hz : (zeroValue et).run P w = .ok z w) (l : List (ByteArray × Value)) (hb : Mp w r l) (hn : mpF s l 0 = none) :
 (Instr.lookup mty (.map (some r)) (.string s) true).run P w = .ok (.tuple #[z, .bool false]) w := by
 have hf : Instr.findNow .string (.string s) (mpE l 0).toArray.toList 0 = some none := by rw [show (mpE l 0).toArray.toList = mpE l 0 from rfl, findNow_mp, hn]
 have hc : ∀ b, (Instr.checkKey b 10000 kt (.string s)).run P w = .ok () w := fun b => MapKept.run_checkKey (k := .string s) hk (by simp [MapKept.IsKey]) b 9999
 have hb' : w.heap[r]? = some (.map (mpE l 0).toArray l.length) := hb
 simp [Instr.lookup, run_underlying hm, MapKept.run_getObj_map hb', hc, MapKept.run_findKey hk hf, Result.andThen, hz]
def cmdV (k : List UInt8) (f : Nat) : Value := .agg #[.string ⟨k.toArray⟩, .func (.func f) #[] #[]]
def cmdL : List (ByteArray × Value) := [
 (⟨#[110, 101, 119]⟩, cmdV [78, 78] 22), (⟨#[105, 109, 97, 103, 101]⟩, cmdV [78, 78, 84] 23),
 (⟨#[102, 101, 101, 100]⟩, cmdV [] 24), (⟨#[98, 108, 111, 99, 107]⟩, cmdV [78] 25),
 (⟨#[98, 108, 111, 99, 107, 115]⟩, cmdV [] 26), (⟨#[99, 111, 109, 109, 105, 116]⟩, cmdV [] 27),
 (⟨#[99, 111, 110, 102, 105, 114, 109]⟩, cmdV [] 28), (⟨#[98, 111, 111, 116]⟩, cmdV [] 29),
 (⟨#[114, 101, 97, 100]⟩, cmdV [78] 30), (⟨#[114, 101, 118, 111, 107, 101]⟩, cmdV [78] 31),
 (⟨#[99, 114, 97, 115, 104]⟩, cmdV [78, 78] 32), (⟨#[99, 121, 99, 108, 101]⟩, cmdV [] 33),
 (⟨#[112, 111, 107, 101]⟩, cmdV [78, 84] 34), (⟨#[113, 117, 111, 116, 101]⟩, cmdV [] 35),
 (⟨#[115, 116, 97, 116, 101]⟩, cmdV [] 36)]
theorem commands_any (w : World) :
 Calls Tryz.prog 14 #[] w fun e w' => e = .returned (.map (some w.heap.size)) ∧ Mp w' w.heap.size cmdL ∧ Below w.heap.size w w' := by
 have hmm := @run_makeMap Tryz.prog
 go_enter Tryz.func14, Tryz.ntmps14
 have kM : Mp (w.alloc (.map #[] 0)) w.heap.size [] := heap_alloc_new w _
 have kb : Below w.heap.size w (w.alloc (.map #[] 0)) := below_alloc _ _
 go_wp2_with (refine wpl_insert rfl 47 9 58 _ _ _ rfl _ _ _ rfl rfl rfl zKr zKr _ kM zKr (fun W k2 hg => ?_); have kb2 := below_gr kb hg (Nat.le_refl _) kb.size; clear kM kb hg; have kM := k2; have kb := kb2; clear k2 kb2)
 go_ret
 exact ⟨rfl, kM, kb⟩
def errorL : List UInt8 := [101, 114, 114, 111, 114]
theorem catch_idle (bp : Nat) (w : World) :
 CallsD Tryz.prog 37 #[.pointer (some ⟨bp, 0, none⟩)] .returning w fun e u' w' => e = .returned (.tuple #[]) ∧ u' = .returning ∧ w' = w := by
 refine callsD_of_wpS Tryz.func37 rfl fun c₀ cs hu => ?_
 apply wpS_seq
 apply wpS_region
 simp [wpOpsS, go_sem, recoverD, hu, Tryz.ntmps37, Exit.thenS]
 refine wpS_of_wp ?_
 refine Code.wp_mono (Q := fun e a' w' => e = .normal ∧ a'.defers = [] ∧ w' = w) ?_ ?_
 · rintro e a' w' ⟨rfl, hd, rfl⟩
   cases c₀
   simp_all [bodyPostS, results, Tryz.results37]
 simp only [Array.replicate_succ, Array.replicate_zero, List.push_toArray, List.append_toArray, List.nil_append, List.cons_append, zSa, zSz, zSs]
 go_wp2
theorem catch_no (P bp n : Nat) (hn : n < 100) (w : World) (Q : World → Prop) (hc : w.cell? ⟨bp, 0, none⟩ = some (.pointer (some ⟨P, 0, none⟩)))
 (hsay : ∀ W v, Below w.heap.size w W → Sts W v [errorL, Lib.decDigits n] → Calls Tryz.prog 38 #[.pointer (some ⟨P, 0, none⟩), v] W fun e w' => e = .returned (.tuple #[]) ∧ Q w') :
 CallsD Tryz.prog 37 #[.pointer (some ⟨bp, 0, none⟩)] (.panicking [{ v := refu n, recovered := false }]) w fun e u' w' => e = .returned (.tuple #[]) ∧ u' = .panicking [{ v := refu n, recovered := true }] ∧ Q w' := by
 refine callsD_of_wpS Tryz.func37 rfl fun c₀ cs hu => ?_
 apply wpS_seq
 apply wpS_region
 unfold refu at hu ⊢
 simp [wpOpsS, go_sem, recoverD, hu, Tryz.ntmps37, Exit.thenS]
 refine wpS_of_wp ?_
 refine Code.wp_mono (Q := fun e a' w' => e = .normal ∧ a'.defers = [] ∧ Q w') ?_ ?_
 · rintro e a' w' ⟨rfl, hd, hq⟩
   simp_all [bodyPostS, results, Tryz.results37]
 simp only [Array.replicate_succ, Array.replicate_zero, List.push_toArray, List.append_toArray, List.nil_append, List.cons_append, zSa, zSz, zSs]
 clear hu
 replace hsay := zH hsay
 have hta : ∀ w, (Instr.typeAssert (.iface 61 (.agg #[.int .i64 (n : Int)])) 20 61 true).run Tryz.prog w = .ok (.tuple #[.agg #[.int .i64 (n : Int)], .bool true]) w := fun _ => by kernel_rfl
 have hcl := World.block_lt_of_cell? w _ hc
 go_upto_region 5 with fail
 have kb := below_alloc w (.cells #[.int .i64 (n : Int)] 61)
 have kA : Arr (w.alloc (.cells #[.int .i64 (n : Int)] 61)) w.heap.size [.int .i64 (n : Int)] := Arr.new _ _ _
 have hcc : Hid (Cells w ⟨bp, 0, none⟩ [.pointer (some ⟨P, 0, none⟩)]) := zH (fun j u hu => by
  match j, hu with
  | 0, hu => simp at hu; subst hu; exact hc)
 have cD := zH (fun w => show Calls Tryz.prog 12 #[.int .i64 (n : Int)] w fun e w' => e = .returned (.string ⟨(Lib.decDigits n).toArray⟩) ∧ Below w.heap.size w w' from (dec_small n hn w).mono (fun e w' ⟨he, hw⟩ => ⟨he, hw ▸ Below.refl _ _⟩))
 obtain ⟨W, hW⟩ : ∃ W, w.alloc (.cells #[.int .i64 (n : Int)] 61) = W := ⟨_, rfl⟩
 rw [hW] at kb kA ⊢
 obtain ⟨D, hD⟩ : ∃ D, Lib.decDigits n = D := ⟨_, rfl⟩
 rw [hD] at cD hsay
 clear hW hD hc hta
 refine Tx.start (fun w' => Below (W).heap.size (W) w') 5 6 rfl zKr ?_
 have hS_1 : Below (W).heap.size (W) (World.drew W) := (Below.refl _ _).drew
 refine Tx.seg2 (A := ?_) 3 7 zKr (by exact hS_1) [0, 1, 2] zKr ?_ ?_
 rotate_left
 · intro w' hB
   have y0 : w'.cell? ⟨bp, 0, none⟩ = some (.pointer (some ⟨P, 0, none⟩)) := by
    have := (hcc.out.below (bel kb hB)) 0 _ rfl
    simpa [Addr.add] using this
   have y2 := (kA.below hB).cell (j := 0) rfl
   exact zRd
 refine Tx.eff 3 15 rfl zDk (fun K hK => ?_)
 go_simp
 refine (cD.out _).mono ?_
 rintro e w_2 ⟨rfl, hb_2⟩
 have hS_2 := ext_trans hS_1 (Nat.le_refl _) hb_2
 refine hK (fun w' => Below (W).heap.size (W) w') _ _ hS_2 (fun _ h => h) ?_
 clear hK K hb_2 hS_1
 try simp only [Act.put, zSa, zSz, zSs]
 refine Tx.eff 4 31 rfl zDk (fun K hK => ?_)
 go_simp
 refine hK (fun w' => Below (W).heap.size (W) w') _ _ (ext_trans hS_2 (Nat.le_refl _) (below_alloc _ _)) (fun _ h => h) ?_
 clear hK K
 try simp only [Act.put, zSa, zSz, zSs]
 refine Tx.newF (F := fun w' => Sts w' (.slice (some ⟨(w_2).heap.size, 0, none⟩) 2 2) [errorL, D]) (w0 := w_2) (Sts.new2 _ _ _ _) (fun w1 h => h.below (Below.refl _ _).drew) (by first | exact .inl rfl | exact .inr rfl) (fun w_3 kS hb_3 => ?_)
 have hS_3 : Below (W).heap.size (W) w_3 := by first | exact hb_3 | exact ext_trans hS_2 (Nat.le_refl _) hb_3
 clear hS_2
 have kb5 := bel kb (show Below W.heap.size W w_3 by assumption)
 refine Tx.bar 63 rfl zDk (fun K hK => ?_)
 go_simp
 refine (hsay.out _ _ kb5 kS).mono ?_
 rintro e w9 ⟨rfl, hq⟩
 refine hK (fun _ => True) 9999 _ _ ?_
 clear hK K
 try simp only [Act.put]
 try simp only [zSa, zSz, zSs]
 refine Tx.done zKr ?_
 exact ⟨rfl, rfl, hq⟩
def digL : List UInt8 := [48, 49, 50, 51, 52, 53, 54, 55, 56, 57]
theorem trim_digits {l : List UInt8} (h : ∀ b ∈ l, b ∈ digL) : Lib.trimS l digL = [] := by
 have hl : ∀ m : List UInt8, (∀ b ∈ m, b ∈ digL) → Lib.trimLeftS m digL = [] := by
  intro m hm
  unfold Lib.trimLeftS
  induction m with
  | nil => rfl
  | cons b m ih =>
   rw [List.dropWhile_cons_of_pos (by simpa using hm b (by simp))]
   exact ih (fun x hx => hm x (by simp [hx]))
 unfold Lib.trimS
 apply hl
 intro b hb
 apply h
 unfold Lib.trimRightS at hb
 simp only [List.mem_reverse] at hb
 exact List.mem_reverse.1 ((List.dropWhile_sublist _).subset hb)
theorem below_bytes (w : World) (e : TypeId) (t : ByteArray) : Below w.heap.size w (Lib.bytesWorld w e t) := by
 unfold Lib.bytesWorld
 exact Lib.below_freeze (((Below.refl _ _).drew).alloc (Nat.le_refl _) _) (Nat.le_refl _) _
theorem number_ok (s : ByteArray) (n : Int) (c : UInt8) (hd : ∀ b ∈ s.data.toList, b ∈ digL) (h0 : s.data.toList[0]? = some c) (h6 : s.size ≤ 6) (hz : s = ⟨#[48]⟩ ∨ c ≠ 48) (ha : Lib.atoi s.data.toList = some n) (w : World) :
 Calls Tryz.prog 40 #[.string s] w fun e w' => e = .returned (.int .i64 n) ∧ Below w.heap.size w w' := by
 have cT := zH (fun (w : World) => show Calls Tryz.prog 66 #[.string s, .string ⟨#[48, 49, 50, 51, 52, 53, 54, 55, 56, 57]⟩] w fun e w' => e = .returned (.string ⟨#[]⟩) ∧ Below w.heap.size w w' from by
  have q := Any.strings_Trim_laid sh_lays160 zKr s ⟨#[48, 49, 50, 51, 52, 53, 54, 55, 56, 57]⟩ w zOm zDc (fun j b hb => by
   have : b ∈ digL := List.mem_of_getElem? hb
   simp only [digL, List.mem_cons, List.not_mem_nil, or_false] at this
   rcases this with h | h | h | h | h | h | h | h | h | h <;> (subst h; decide))
  rw [show (⟨#[48, 49, 50, 51, 52, 53, 54, 55, 56, 57]⟩ : ByteArray).data.toList = digL from rfl, trim_digits hd] at q
  exact q)
 have cA := zH (fun (w : World) => show Calls Tryz.prog 67 #[.string s] w fun e w' => e = .returned (.tuple #[.int .i64 n, .nilIface]) ∧ Below w.heap.size w w' from by
  refine (Any.strconv_Atoi sh_lays172 s n zOm ha w).mono ?_
  rintro e w' ⟨he, t, rfl⟩
  exact ⟨he, below_bytes _ _ _⟩)
 have hs1 : 1 ≤ s.size := by
  rcases Nat.eq_zero_or_pos s.size with h | h
  · have : s.data.toList = [] := List.eq_nil_of_length_eq_zero (by simpa using h)
    rw [this] at h0
    simp at h0
  · exact h
 have he : s.toList.isEmpty = false := by
  rw [Lib.toList_data]
  cases h : s.data.toList with
  | nil => rw [h] at h0; simp at h0
  | cons _ _ => rfl
 clear hd ha
 rcases hz with rfl | hz
 · clear h0 h6 hs1 he
   go_enter Tryz.func40, Tryz.ntmps40
   go_wp2_with fail
   refine (cT.out _).mono ?_
   rintro e w1 ⟨rfl, hb⟩
   clear cT
   go_wp2_with fail
   refine (cA.out _).mono ?_
   rintro e w2 ⟨rfl, hb2⟩
   clear cA
   have hb3 := bel hb hb2
   clear hb hb2
   go_wp2_with fail
   go_ret
   exact ⟨rfl, hb3⟩
 · obtain ⟨k, hk⟩ : ∃ k : Int, (s.size : Int) = k := ⟨_, rfl⟩
   have hk6 : ¬ (6 < k) := by omega
   have hq : ∀ h : 0 < s.size, (((s[0]'h).toNat : Int) == 48) = false := by
    intro h
    have hsc : s[0] = c := by
     have h1 : s.data.toList[0]? = some s[0] := by
      rw [List.getElem?_eq_getElem (by simpa using h)]
      rfl
     rw [h1] at h0
     injection h0
    have h48 : c.toNat ≠ 48 := fun hh => hz (UInt8.toNat_inj.1 hh)
    have : ((c.toNat : Nat) : Int) ≠ 48 := by omega
    rw [hsc]
    simpa using this
   clear h0 hz h6
   go_enter Tryz.func40, Tryz.ntmps40
   go_wp2_with fail
   refine (cT.out _).mono ?_
   rintro e w1 ⟨rfl, hb⟩
   clear cT
   go_wp2_with fail
   refine (cA.out _).mono ?_
   rintro e w2 ⟨rfl, hb2⟩
   clear cA
   have hb3 := bel hb hb2
   clear hb hb2
   go_wp2_with fail
   go_ret
   exact ⟨rfl, hb3⟩
end Go.Proofs.YtibdgkhkhmdihaaGreatDoor
