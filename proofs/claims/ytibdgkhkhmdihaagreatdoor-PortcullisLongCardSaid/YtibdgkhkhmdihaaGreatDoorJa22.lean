import Derived.Test.YtibdgkhkhmdihaaGreatDoorJa10
import Derived.Test.YtibdgkhkhmdihaaGreatDoorJa11
import Derived.Lib.SlBytesConst
import Derived.Test.YtibdgkhkhmdihaaGreatDoorJa08
import Derived.Test.YtibdgkhkhmdihaaGreatDoorJa02
import Derived.Test.YtibdgkhkhmdihaaGreatDoorJa01
import Derived.ScopeJumps

namespace Go.Proofs.YtibdgkhkhmdihaaGreatDoor
open Go.RowKit
/-- A sector erased, so many bytes of it. -/
def erB (b : List UInt8) (o : Nat) : Nat → List UInt8
  | 0 => b
  | j + 1 => (erB b o j).set (o + j) 255
theorem erB_len (b : List UInt8) (o : Nat) : ∀ j, (erB b o j).length = b.length
  | 0 => rfl
  | j + 1 => by rw [erB, List.length_set, erB_len b o j]
/-- Bits cleared, of so many bytes. -/
def prB (b : List UInt8) (o : Nat) (xs : List UInt8) : Nat → List UInt8
  | 0 => b
  | j + 1 => (prB b o xs j).set (o + j) ((prB b o xs j).getD (o + j) 0 &&& xs.getD j 0)
theorem prB_len (b : List UInt8) (o : Nat) (xs : List UInt8) : ∀ j, (prB b o xs j).length = b.length
  | 0 => rfl
  | j + 1 => by rw [prB, List.length_set, prB_len b o xs j]
/-- A byte of the flash set. -/
theorem FlAt.byte {w : World} {p g : Nat} {F : Fl} (h : FlAt w p g F) (j : Nat) (x : UInt8) (hj : j < F.b.length) : FlAt (w.setCell ⟨g, j, none⟩ (.int .u8 (x.toNat : Int))) p g { F with b := F.b.set j x } ∧ Ch [p, g] w (w.setCell ⟨g, j, none⟩ (.int .u8 (x.toNat : Int))) := by
  obtain ⟨h1, ⟨pad, h2⟩, h3, h4, h5, h6⟩ := h
  refine ⟨⟨?_, ⟨pad, ?_⟩, h3, by rw [List.length_set]; exact h4, h5, h6⟩, Ch.of_gr (gr_cell w g j _) (by simp)⟩
  · have e : flv g { F with b := F.b.set j x } = flv g F := by simp [flv]
    rw [e]
    exact h1.other (a := ⟨g, j, none⟩) h3 _
  · have := h2.set j (.int .u8 (x.toNat : Int))
    rw [List.set_append_left _ _ (by rw [u8s_len]; exact hj)] at this
    have e : (u8s F.b).set j (.int .u8 (x.toNat : Int)) = u8s (F.b.set j x) := by simp [u8s, List.map_set]
    rwa [e] at this
theorem FlAt.cellb {w : World} {p g : Nat} {F : Fl} (h : FlAt w p g F) (j : Nat) (hj : j < F.b.length) : w.cell? ⟨g, j, none⟩ = some (.int .u8 ((F.b[j]).toNat : Int)) ∧ w.frozen? ⟨g, j, none⟩ = false := by
  obtain ⟨-, ⟨pad, h2⟩, -, -, -, -⟩ := h
  exact ⟨h2.cell (by rw [List.getElem?_append_left (by rw [u8s_len]; exact hj), u8s_get _ _ hj]), h2.frozen _⟩
theorem FlAt.v0 {w : World} {p g : Nat} {F : Fl} (h : FlAt w p g F) : w.cell? ⟨p, 0, none⟩ = some (.slice (some ⟨g, 0, none⟩) F.b.length F.b.length) := h.st.cell (j := 0) rfl
set_option maxHeartbeats 4000000 in
set_option maxRecDepth 100000 in
theorem ferase_never (p g s : Nat) (F : Fl) (w : World) (k0 : FlAt w p g F) (hop : F.op = -1) (hd : F.dead = false) (hs : 256 * s + 256 ≤ F.b.length) :
    Calls Tryz.prog 278 #[.pointer (some ⟨p, 0, none⟩), .int .i64 (s : Int)] w fun e w' => e = .returned (.bool true) ∧ (∃ er, FlAt w' p g { F with b := erB F.b (256 * s) 256, er := er }) ∧ Ch [p, g] w w' := by
  obtain ⟨⟨v0, v1, v2, v3, v4, v5⟩, ⟨f0, f1, f2, f3, f4, f5⟩⟩ : (w.cell? ⟨p, 0, none⟩ = some (.slice (some ⟨g, 0, none⟩) F.b.length F.b.length) ∧ w.cell? ⟨p, 1, none⟩ = some (.int .i64 F.op) ∧ w.cell? ⟨p, 2, none⟩ = some (.int .i64 F.cut) ∧ w.cell? ⟨p, 3, none⟩ = some (.bool F.dead) ∧ w.cell? ⟨p, 4, none⟩ = some (.int .i64 F.er) ∧ w.cell? ⟨p, 5, none⟩ = some (.int .i64 F.pr)) ∧
      (w.frozen? ⟨p, 0, none⟩ = false ∧ w.frozen? ⟨p, 1, none⟩ = false ∧ w.frozen? ⟨p, 2, none⟩ = false ∧ w.frozen? ⟨p, 3, none⟩ = false ∧ w.frozen? ⟨p, 4, none⟩ = false ∧ w.frozen? ⟨p, 5, none⟩ = false) :=
    ⟨⟨k0.st.cell (j := 0) rfl, k0.st.cell (j := 1) rfl, k0.st.cell (j := 2) rfl, k0.st.cell (j := 3) rfl, k0.st.cell (j := 4) rfl, k0.st.cell (j := 5) rfl⟩, ⟨k0.st.frozen _, k0.st.frozen _, k0.st.frozen _, k0.st.frozen _, k0.st.frozen _, k0.st.frozen _⟩⟩
  rw [hd] at v3
  have c1 := Lib.hid (fsize_any p g F w k0)
  have c2 := Lib.hid (show Calls Tryz.prog 309 #[.pointer (some ⟨p, 0, none⟩), .int .i64 256] w _ from fop_never p g 256 F w k0 hop)
  have hl := k0.len
  have s0 : (0 : Int) ≤ (s : Int) := by omega
  have s1 : (s : Int) < ((F.b.length / 256 : Nat) : Int) := by omega
  obtain ⟨q, hq⟩ : ∃ q, F.b.length / 256 = q := ⟨_, rfl⟩
  rw [hq] at c1 s1
  obtain ⟨o, ho⟩ : ∃ o, 256 * s = o := ⟨_, rfl⟩
  rw [ho] at hs ⊢
  have hoI : (s : Int) * 256 = (o : Int) := by omega
  have o0 : (0 : Int) ≤ (o : Int) := by omega
  have o1 : (o : Int) ≤ 261888 := by omega
  have hsH := Lib.hid hs
  have s2 : (s : Int) ≤ 1024 := by omega
  clear ho hq v0 v1 v2 v4 v5 f0 f1 f2 f3 f4 f5 k0 hd hs hl
  replace hop := Lib.hid hop
  go_enter Tryz.func278, Tryz.ntmps278
  go_wp2_with fail
  refine c1.out.mono ?_
  rintro e w1 ⟨rfl, hw⟩
  obtain rfl : w = w1 := hw.symm
  clear c1
  go_wp2_with fail
  refine c2.out.mono ?_
  rintro e w2 ⟨rfl, k0, hc⟩
  replace hc : Ch [p, g] w w2 := hc.mono (by simp)
  have hw0 := k0.lt
  clear c2
  go_wp2_with fail
  go_loopw [31] (fun iv wr => ∃ i : Nat, i ≤ 256 ∧ iv = .int .i64 i ∧ FlAt wr p g { F with b := erB F.b o i } ∧ Ch [p, g] w wr) (fun iv _ => 256 - (intOf iv).toNat)
  case atStart => exact ⟨0, by omega, rfl, k0, hc⟩
  case round =>
  clear k0 hc
  obtain ⟨i, hi, rfl, k0, hc⟩ := hrel
  have hi0 : (0 : Int) ≤ (i : Int) := by omega
  by_cases hin : i < 256
  · have hi1 : (i : Int) < 256 := by omega
    have hv0 := k0.v0
    rw [show ({ F with b := erB F.b o i } : Fl).b.length = F.b.length from erB_len _ _ _] at hv0
    obtain ⟨hcb, hfb⟩ := k0.cellb (o + i) (by show o + i < (erB F.b o i).length; rw [erB_len]; have := hsH.out; omega)
    generalize ((({ F with b := erB F.b o i } : Fl).b)[o + i]'_).toNat = y at hcb
    obtain ⟨L, hL⟩ : ∃ L, F.b.length = L := ⟨_, rfl⟩
    rw [hL] at hv0
    have hoi : (o : Int) + (i : Int) < (L : Int) := by have := hsH.out; omega
    obtain ⟨m, hm⟩ : ∃ m, o + i = m := ⟨_, rfl⟩
    have hmI : (o : Int) + (i : Int) = (m : Int) := by omega
    have hm0 : (0 : Int) ≤ (m : Int) := by omega
    have hm1 : (m : Int) < (L : Int) := by omega
    rw [hm] at hcb hfb
    have hLH := Lib.hid hL
    have hmH := Lib.hid hm
    clear hL hm
    go_wp2_with fail
    obtain ⟨k1, hc1⟩ := k0.byte m 255 (by show m < (erB F.b o i).length; rw [erB_len, hLH.out]; omega)
    have e1 : ({ F with b := (erB F.b o i).set m 255 } : Fl) = { F with b := erB F.b o (i + 1) } := by rw [erB, hmH.out]
    exact ⟨⟨i + 1, by omega, by go_num, by rw [← e1]; exact k1, hc.trans hc1⟩, by simp [intOf]; omega⟩
  · have dj : decide ((i : Int) < 256) = false := decide_eq_false (by omega)
    have hie : Hid (i = 256) := Lib.hid (by omega)
    rw [hie.out] at k0
    obtain ⟨G, hG⟩ : ∃ G : Fl, ({ F with b := erB F.b o 256 } : Fl) = G := ⟨_, rfl⟩
    have hv4 := k0.st.cell (j := 4) rfl
    have hf4 := k0.st.frozen 4
    have hE := k0.er
    rw [hG] at k0 hv4 hE
    obtain ⟨E, hEe⟩ : ∃ E, G.er = E := ⟨_, rfl⟩
    rw [hEe] at hv4 hE
    obtain ⟨hE0, hE1⟩ := hE
    have hGe : Hid (∀ er, ({ F with b := erB F.b o 256, er := er } : Fl) = { G with er := er }) := Lib.hid (fun er => by rw [← hG])
    replace hEe := Lib.hid hEe
    clear hG hie hi hin hi0 v3 s0 s1 hoI o0 o1 s2
    obtain ⟨ic, hic⟩ : ∃ ic : Int, (i : Int) = ic := ⟨_, rfl⟩
    rw [hic] at dj ⊢
    clear hic
    replace k0 := Lib.hid k0
    replace hc := Lib.hid hc
    by_cases hEl : E < 1099511627776
    · have e1 : E + 1 ≤ 1099511627776 := by omega
      have e2 : ¬ 1099511627776 < E + 1 := by omega
      go_wp2_with fail
      go_ret
      refine ⟨rfl, ⟨E + 1, ?_⟩, hc.out.trans (Ch.of_gr (gr_cell _ p 4 _) (by simp))⟩
      rw [hGe.out]
      obtain ⟨h1, ⟨pad, h2⟩, h3, h4, h5, h6⟩ := k0.out
      exact ⟨h1.set 4 (.int .i64 (E + 1)), ⟨pad, h2.other (a := ⟨p, 4, none⟩) (Ne.symm h3) _⟩, h3, h4, ⟨by show 0 ≤ E + 1; omega, e1⟩, h6⟩
    · obtain rfl : E = 1099511627776 := by omega
      go_wp2_with fail
      go_ret
      refine ⟨rfl, ⟨1099511627776, ?_⟩, hc.out.trans (Ch.of_gr (gr_cell _ p 4 _) (by simp))⟩
      rw [hGe.out]
      obtain ⟨h1, ⟨pad, h2⟩, h3, h4, h5, h6⟩ := k0.out
      exact ⟨h1.set 4 (.int .i64 1099511627776), ⟨pad, h2.other (a := ⟨p, 4, none⟩) (Ne.symm h3) _⟩, h3, h4, ⟨by simp, by simp⟩, h6⟩
theorem and_u8c {a b : Nat} (ha : a < 256) (hb : b < 256) : bits .and .u8 (a : Int) (b : Int) = ((a &&& b : Nat) : Int) := by
  have h8 : ∀ {a : Nat}, a < 256 → (BitVec.ofInt 8 (a : Int)).toNat = a := fun h => by
    rw [BitVec.ofInt_natCast, BitVec.toNat_ofNat]
    exact Nat.mod_eq_of_lt h
  show IntKind.u8.wrap ((BitVec.ofInt 8 (a : Int) &&& BitVec.ofInt 8 (b : Int)).toNat : Int) = _
  rw [BitVec.toNat_and, h8 ha, h8 hb, u8_mod, Nat.mod_eq_of_lt (Nat.lt_of_le_of_lt Nat.and_le_left ha)]
set_option maxHeartbeats 4000000 in
set_option maxRecDepth 100000 in
theorem fprogram_never (p g o : Nat) (F : Fl) (a : Option Addr) (c : Nat) (xs : List UInt8) (w : World) (k0 : FlAt w p g F) (hop : F.op = -1) (hd : F.dead = false) (ho : o + xs.length ≤ F.b.length) (hx0 : 0 < xs.length) (hsl : Sl w (.slice a xs.length c) (u8s xs)) (hv : ∀ x, a = some x → x.block ≠ p ∧ x.block ≠ g) :
    Calls Tryz.prog 279 #[.pointer (some ⟨p, 0, none⟩), .int .i64 (o : Int), .slice a xs.length c] w fun e w' => e = .returned (.bool true) ∧ (∃ pr, FlAt w' p g { F with b := prB F.b o xs xs.length, pr := pr }) ∧ Ch [p, g] w w' := by
  obtain ⟨⟨v0, v1, v2, v3, v4, v5⟩, ⟨f0, f1, f2, f3, f4, f5⟩⟩ : (w.cell? ⟨p, 0, none⟩ = some (.slice (some ⟨g, 0, none⟩) F.b.length F.b.length) ∧ w.cell? ⟨p, 1, none⟩ = some (.int .i64 F.op) ∧ w.cell? ⟨p, 2, none⟩ = some (.int .i64 F.cut) ∧ w.cell? ⟨p, 3, none⟩ = some (.bool F.dead) ∧ w.cell? ⟨p, 4, none⟩ = some (.int .i64 F.er) ∧ w.cell? ⟨p, 5, none⟩ = some (.int .i64 F.pr)) ∧
      (w.frozen? ⟨p, 0, none⟩ = false ∧ w.frozen? ⟨p, 1, none⟩ = false ∧ w.frozen? ⟨p, 2, none⟩ = false ∧ w.frozen? ⟨p, 3, none⟩ = false ∧ w.frozen? ⟨p, 4, none⟩ = false ∧ w.frozen? ⟨p, 5, none⟩ = false) :=
    ⟨⟨k0.st.cell (j := 0) rfl, k0.st.cell (j := 1) rfl, k0.st.cell (j := 2) rfl, k0.st.cell (j := 3) rfl, k0.st.cell (j := 4) rfl, k0.st.cell (j := 5) rfl⟩, ⟨k0.st.frozen _, k0.st.frozen _, k0.st.frozen _, k0.st.frozen _, k0.st.frozen _, k0.st.frozen _⟩⟩
  rw [hd] at v3
  obtain ⟨n, hn⟩ : ∃ n, xs.length = n := ⟨_, rfl⟩
  rw [hn] at ho hx0 hsl ⊢
  have c1 := Lib.hid (fis_yes p g o n F w k0 ho)
  have c2 := Lib.hid (show Calls Tryz.prog 309 #[.pointer (some ⟨p, 0, none⟩), .int .i64 (n : Int)] w _ from fop_never p g n F w k0 hop)
  have hl := k0.len
  have o0 : (0 : Int) ≤ (o : Int) := by omega
  have o1 : (o : Int) ≤ 262144 := by omega
  have n0 : (0 : Int) < (n : Int) := by omega
  have n1 : (n : Int) ≤ 262144 := by omega
  have hnc : n ≤ c ∧ c ≤ maxLen := by have := hsl.len; exact ⟨this.2.1, this.2.2⟩
  have hvn : (n : Int) ≤ (c : Int) := by omega
  replace ho := Lib.hid ho
  replace hn := Lib.hid hn
  replace hsl := Lib.hid hsl
  replace hv := Lib.hid hv
  replace hnc := Lib.hid hnc
  clear v0 v1 v2 v4 v5 f0 f1 f2 f3 f4 f5 k0 hd hl hx0
  replace hop := Lib.hid hop
  go_enter Tryz.func279, Tryz.ntmps279
  go_wp2_with fail
  refine c1.out.mono ?_
  rintro e w1 ⟨rfl, hw⟩
  obtain rfl : w = w1 := hw.symm
  clear c1
  go_wp2_with fail
  refine c2.out.mono ?_
  rintro e w2 ⟨rfl, k0, hc⟩
  replace hc : Ch [p, g] w w2 := hc.mono (by simp)
  clear c2
  go_wp2_with fail
  go_loopw [34] (fun iv wr => ∃ i : Nat, i ≤ n ∧ iv = .int .i64 i ∧ FlAt wr p g { F with b := prB F.b o xs i } ∧ Ch [p, g] w wr) (fun iv _ => n - (intOf iv).toNat)
  case atStart => exact ⟨0, by omega, rfl, k0, hc⟩
  case round =>
  clear k0 hc
  obtain ⟨i, hi, rfl, k0, hc⟩ := hrel
  have hi0 : (0 : Int) ≤ (i : Int) := by omega
  by_cases hin : i < n
  · have hi1 : (i : Int) < (n : Int) := by omega
    have hin2 : i < xs.length := by rw [hn.out]; exact hin
    have hS2 := hsl.out.ch hc (fun x m cc e => by
      simp only [Value.slice.injEq] at e
      have := hv.out x e.1
      simp
      exact this)
    obtain ⟨b2, o2, rfl, -, -, -, hcc⟩ := hS2.at (by rw [u8s_len]; omega)
    have hcx := hcc i _ (u8s_get xs i hin2)
    obtain ⟨x, hx⟩ : ∃ x, (xs[i]).toNat = x := ⟨_, rfl⟩
    have lx : x < 256 := by rw [← hx]; exact (xs[i]).toNat_lt
    rw [hx] at hcx
    have hv0 := k0.v0
    rw [show ({ F with b := prB F.b o xs i } : Fl).b.length = F.b.length from prB_len _ _ _ _] at hv0
    have hml : o + i < (prB F.b o xs i).length := by rw [prB_len]; have := ho.out; omega
    obtain ⟨hcb, hfb⟩ := k0.cellb (o + i) hml
    replace hcb : wr.cell? ⟨g, o + i, none⟩ = some (.int .u8 (((prB F.b o xs i)[o + i]).toNat : Int)) := hcb
    obtain ⟨y, hy⟩ : ∃ y, ((prB F.b o xs i)[o + i]).toNat = y := ⟨_, rfl⟩
    have ly : y < 256 := by rw [← hy]; exact ((prB F.b o xs i)[o + i]).toNat_lt
    have hz : Hid ((prB F.b o xs i).set (o + i) (UInt8.ofNat (y &&& x)) = prB F.b o xs (i + 1)) := Lib.hid (by
      rw [prB, List.getD_eq_getElem?_getD, List.getElem?_eq_getElem hml, List.getD_eq_getElem?_getD, List.getElem?_eq_getElem hin2, Option.getD_some, Option.getD_some, ← hx, ← hy, ← UInt8.toNat_and]
      simp)
    rw [hy] at hcb
    have fa := and_u8c ly lx
    obtain ⟨z, hze⟩ : ∃ z, y &&& x = z := ⟨_, rfl⟩
    have lz : z < 256 := by rw [← hze]; exact Nat.lt_of_le_of_lt Nat.and_le_left ly
    rw [hze] at fa hz
    obtain ⟨L, hL⟩ : ∃ L, F.b.length = L := ⟨_, rfl⟩
    rw [hL] at hv0
    obtain ⟨m, hm⟩ : ∃ m, o + i = m := ⟨_, rfl⟩
    have hmI : (o : Int) + (i : Int) = (m : Int) := by omega
    have hm0 : (0 : Int) ≤ (m : Int) := by omega
    have hm1 : (m : Int) < (L : Int) := by have := ho.out; omega
    rw [hm] at hcb hfb hz hml
    have hLH := Lib.hid hL
    have hmlH := Lib.hid hml
    clear hL hm hx hy hze hcc hml hin2 hS2
    go_wp2_with fail
    obtain ⟨k1, hc1⟩ := k0.byte m (UInt8.ofNat z) hmlH.out
    have e0 : ((UInt8.ofNat z).toNat : Int) = (z : Int) := by rw [UInt8.toNat_ofNat', Nat.mod_eq_of_lt lz]
    rw [e0] at k1 hc1
    have e1 : ({ F with b := (prB F.b o xs i).set m (UInt8.ofNat z) } : Fl) = { F with b := prB F.b o xs (i + 1) } := by rw [hz.out]
    exact ⟨⟨i + 1, by omega, by go_num, by rw [← e1]; exact k1, hc.trans hc1⟩, by simp [intOf]; omega⟩
  · have dj : decide ((i : Int) < (n : Int)) = false := decide_eq_false (by omega)
    have hie : Hid (i = n) := Lib.hid (by omega)
    rw [hie.out] at k0
    obtain ⟨G, hG⟩ : ∃ G : Fl, ({ F with b := prB F.b o xs n } : Fl) = G := ⟨_, rfl⟩
    have hv4 := k0.st.cell (j := 5) rfl
    have hf4 := k0.st.frozen 5
    have hE := k0.pr
    rw [hG] at k0 hv4 hE
    obtain ⟨E, hEe⟩ : ∃ E, G.pr = E := ⟨_, rfl⟩
    rw [hEe] at hv4 hE
    obtain ⟨hE0, hE1⟩ := hE
    have hGe : Hid (∀ er : Int, ({ F with b := prB F.b o xs n, pr := er } : Fl) = { G with pr := er }) := Lib.hid (fun er => by rw [← hG])
    replace hEe := Lib.hid hEe
    clear hG hie hi hin hi0 v3 o0 o1 hsl n0 n1 hvn
    obtain ⟨ic, hic⟩ : ∃ ic : Int, (i : Int) = ic := ⟨_, rfl⟩
    rw [hic] at dj ⊢
    clear hic
    replace k0 := Lib.hid k0
    replace hc := Lib.hid hc
    by_cases hEl : E < 1099511627776
    · have e1 : E + 1 ≤ 1099511627776 := by omega
      have e2 : ¬ 1099511627776 < E + 1 := by omega
      go_wp2_with fail
      go_ret
      refine ⟨rfl, ⟨E + 1, ?_⟩, hc.out.trans (Ch.of_gr (gr_cell _ p 5 _) (by simp))⟩
      rw [hGe.out]
      obtain ⟨h1, ⟨pad, h2⟩, h3, h4, h5, h6⟩ := k0.out
      exact ⟨h1.set 5 (.int .i64 (E + 1)), ⟨pad, h2.other (a := ⟨p, 5, none⟩) (Ne.symm h3) _⟩, h3, h4, h5, ⟨by show 0 ≤ E + 1; omega, e1⟩⟩
    · obtain rfl : E = 1099511627776 := by omega
      go_wp2_with fail
      go_ret
      refine ⟨rfl, ⟨1099511627776, ?_⟩, hc.out.trans (Ch.of_gr (gr_cell _ p 5 _) (by simp))⟩
      rw [hGe.out]
      obtain ⟨h1, ⟨pad, h2⟩, h3, h4, h5, h6⟩ := k0.out
      exact ⟨h1.set 5 (.int .i64 1099511627776), ⟨pad, h2.other (a := ⟨p, 5, none⟩) (Ne.symm h3) _⟩, h3, h4, h5, ⟨by simp, by simp⟩⟩
end Go.Proofs.YtibdgkhkhmdihaaGreatDoor


namespace Go.Proofs.YtibdgkhkhmdihaaGreatDoor
open Go.RowKit
/-- An otp's cells. -/
def otv (x : Option Addr) (r s : Nat) (c m : Int) : List Value   := .pointer x :: (bytn 32 r ++ (bytn 32 s ++ [.int .i64 c, .int .i64 m]))
theorem otv_r {fv : Option Addr} {r s : Nat} {c m : Int} {j : Nat} (hj : j < (bytn 32 r).length) : (otv fv r s c m)[1 + j]? = (bytn 32 r)[j]? := by
  rw [otv, Nat.add_comm 1 j, List.getElem?_cons_succ, List.getElem?_append_left hj]
theorem otv_s {fv : Option Addr} {r s : Nat} {c m : Int} {j : Nat} (hj : j < (bytn 32 s).length) : (otv fv r s c m)[33 + j]? = (bytn 32 s)[j]? := by
  rw [otv, show 33 + j = (32 + j) + 1 by omega, List.getElem?_cons_succ, List.getElem?_append_right (by rw [bytn_len]; omega), bytn_len, show 32 + j - 32 = j by omega, List.getElem?_append_left hj]
theorem otv_c (fv : Option Addr) (r s : Nat) (c m : Int) : (otv fv r s c m)[65]? = some (.int .i64 c) ∧ (otv fv r s c m)[66]? = some (.int .i64 m) := by
  constructor
  · rw [otv, show (65 : Nat) = 64 + 1 from rfl, List.getElem?_cons_succ, List.getElem?_append_right (by rw [bytn_len]; omega), bytn_len, List.getElem?_append_right (by rw [bytn_len]; omega), bytn_len]; rfl
  · rw [otv, show (66 : Nat) = 65 + 1 from rfl, List.getElem?_cons_succ, List.getElem?_append_right (by rw [bytn_len]; omega), bytn_len, List.getElem?_append_right (by rw [bytn_len]; omega), bytn_len]; rfl
theorem otv_set (fv : Option Addr) (r s : Nat) (c m c' : Int) : (otv fv r s c m).set 65 (.int .i64 c') = otv fv r s c' m := by
  rw [otv, otv, show (65 : Nat) = 64 + 1 from rfl, List.set_cons_succ, List.set_append_right _ _ (by rw [bytn_len]; omega), bytn_len, List.set_append_right _ _ (by rw [bytn_len]; omega), bytn_len]; rfl
set_option maxHeartbeats 2000000 in
set_option maxRecDepth 100000 in
theorem onew_any (fv : Option Addr) (r s n : Nat) (h0 : 0 < n) (hn : n ≤ 1000000) (w : World) :
    Calls Tryz.prog 47 #[.pointer fv, .agg (bytn 32 r).toArray, .agg (bytn 32 s).toArray, .int .i64 (n : Int)] w fun e w' => ∃ q, e = .returned (.pointer (some ⟨q, 0, none⟩)) ∧ w.heap.size ≤ q ∧ Arr w' q (otv fv r s 0 (n : Int)) ∧ Below w.heap.size w w' := by
  have n0 : (0 : Int) < (n : Int) := by omega
  have n1 : (n : Int) ≤ 1000000 := by omega
  obtain ⟨X, hX⟩ : ∃ X, otv fv r s 0 (n : Int) = X := ⟨_, rfl⟩
  rw [hX]
  replace hX := Lib.hid hX
  go_enter Tryz.func47, Tryz.ntmps47
  go_upto_region 1 with fail
  refine wp_new2 (fun W hsz k5 k6 kb => ?_)
  replace k5 : Arr W w.heap.size (bytn 32 r) := k5
  replace k6 : Arr W (w.heap.size + 1) (bytn 32 s) := k6
  clear hsz
  go_wp2_with (first | (refine wpList_load_arr2 rfl _ _ rfl _ rfl (by decide +kernel) _ k5 (by rw [bytn_len]; kernel_rfl) ?_) | (refine wpList_load_arr2 rfl _ _ rfl _ rfl (by decide +kernel) _ k6 (by rw [bytn_len]; kernel_rfl) ?_) | (refine wpList_builta rfl _ _ rfl (otv fv r s 0 (n : Int)).toArray (by kernel_rfl) ?_; rw [hX.out]))
  go_ret
  exact ⟨_, rfl, kb.size, Arr.new _ _ _, bel kb (below_alloc _ _)⟩
set_option maxHeartbeats 1000000 in
set_option maxRecDepth 100000 in
theorem oroot_any (q : Nat) (fv : Option Addr) (r s : Nat) (c m : Int) (w : World) (k0 : Arr w q (otv fv r s c m)) :
    Calls Tryz.prog 132 #[.pointer (some ⟨q, 0, none⟩)] w fun e w' => e = .returned (.agg (bytn 32 r).toArray) ∧ Below w.heap.size w w' := by
  have hr : Hid (∀ w', Arr w' q (otv fv r s c m) → w'.rangeAt q 1 (bytn 32 r)) := Lib.hid (fun w' h => h.range (fun j hj => otv_r hj))
  go_enter Tryz.func132, Tryz.ntmps132
  go_upto_region 1 with fail
  refine wp_new1 (fun W hsz k2 kb => ?_)
  replace k2 : Arr W w.heap.size (bytn 32 0) := k2
  have hr1 := hr.out W (k0.below kb)
  clear hsz k0 hr
  go_wp2_with (first | (refine wpList_load_mid2 rfl _ _ rfl _ _ rfl (by kernel_rfl) _ hr1 (by rw [bytn_len]; kernel_rfl) ?_) | (refine wpl_storeG rfl _ _ _ rfl _ (bytn 32 r) rfl rfl _ k2 (by rw [bytn_len]; kernel_rfl) (by rw [bytn_len, bytn_len]) (bytn_one _ _) (fun w9 k2 hg hsz => ?_)))
  have qb := below_gr kb hg (Nat.le_refl _) kb.size
  exact bodyPost_ret (results_arr2 Tryz.results132 _ _ _ rfl (by kernel_rfl) _ k2 (by rw [bytn_len]; kernel_rfl)) rfl ⟨rfl, qb⟩
set_option maxHeartbeats 1000000 in
set_option maxRecDepth 100000 in
theorem osecret_any (q : Nat) (fv : Option Addr) (r s : Nat) (c m : Int) (w : World) (k0 : Arr w q (otv fv r s c m)) :
    Calls Tryz.prog 133 #[.pointer (some ⟨q, 0, none⟩)] w fun e w' => e = .returned (.agg (bytn 32 s).toArray) ∧ Below w.heap.size w w' := by
  have hr : Hid (∀ w', Arr w' q (otv fv r s c m) → w'.rangeAt q 33 (bytn 32 s)) := Lib.hid (fun w' h => h.range (fun j hj => otv_s hj))
  go_enter Tryz.func133, Tryz.ntmps133
  go_upto_region 1 with fail
  refine wp_new1 (fun W hsz k2 kb => ?_)
  replace k2 : Arr W w.heap.size (bytn 32 0) := k2
  have hr1 := hr.out W (k0.below kb)
  clear hsz k0 hr
  go_wp2_with (first | (refine wpList_load_mid2 rfl _ _ rfl _ _ rfl (by kernel_rfl) _ hr1 (by rw [bytn_len]; kernel_rfl) ?_) | (refine wpl_storeG rfl _ _ _ rfl _ (bytn 32 s) rfl rfl _ k2 (by rw [bytn_len]; kernel_rfl) (by rw [bytn_len, bytn_len]) (bytn_one _ _) (fun w9 k2 hg hsz => ?_)))
  have qb := below_gr kb hg (Nat.le_refl _) kb.size
  exact bodyPost_ret (results_arr2 Tryz.results133 _ _ _ rfl (by kernel_rfl) _ k2 (by rw [bytn_len]; kernel_rfl)) rfl ⟨rfl, qb⟩
set_option maxHeartbeats 1000000 in
theorem ocount_any (q : Nat) (fv : Option Addr) (r s : Nat) (c m : Int) (w : World) (k0 : Arr w q (otv fv r s c m)) :
    Calls Tryz.prog 62 #[.pointer (some ⟨q, 0, none⟩)] w fun e w' => e = .returned (.int .i64 c) ∧ w' = w := by
  have hc := k0.cell (otv_c fv r s c m).1
  clear k0
  go_enter Tryz.func62, Tryz.ntmps62
  go_wp2_with fail
  go_ret
  exact ⟨rfl, rfl⟩
set_option maxHeartbeats 1000000 in
theorem omost_any (q : Nat) (fv : Option Addr) (r s : Nat) (c m : Int) (w : World) (k0 : Arr w q (otv fv r s c m)) :
    Calls Tryz.prog 226 #[.pointer (some ⟨q, 0, none⟩)] w fun e w' => e = .returned (.int .i64 m) ∧ w' = w := by
  have hc := k0.cell (otv_c fv r s c m).2
  clear k0
  go_enter Tryz.func226, Tryz.ntmps226
  go_wp2_with fail
  go_ret
  exact ⟨rfl, rfl⟩
set_option maxHeartbeats 2000000 in
set_option maxRecDepth 100000 in
/-- The counter's step, where the power never fails. -/
theorem ostep_never (q p g r s c m : Nat) (F : Fl) (w : World) (k0 : Arr w q (otv (some ⟨p, 0, none⟩) r s c m)) (kf : FlAt w p g F) (hop : F.op = -1) (hd : F.dead = false) (hcm : c < m) (hm : m ≤ 1000000) (hqp : q ≠ p) (hqg : q ≠ g) :
    Calls Tryz.prog 228 #[.pointer (some ⟨q, 0, none⟩)] w fun e w' => e = .returned (.int .i64 0) ∧ Arr w' q (otv (some ⟨p, 0, none⟩) r s ((c + 1 : Nat) : Int) m) ∧ FlAt w' p g F ∧ Ch [p, q] w w' := by
  obtain ⟨e1, e2⟩ := otv_c (some ⟨p, 0, none⟩) r s c m
  have e0 : (otv (some ⟨p, 0, none⟩) r s c m)[0]? = some (.pointer (some ⟨p, 0, none⟩)) := rfl
  replace e0 := Lib.hid e0
  replace e1 := Lib.hid e1
  replace e2 := Lib.hid e2
  have hset := Lib.hid (otv_set (some ⟨p, 0, none⟩) r s (c : Int) m ((c + 1 : Nat) : Int))
  have hne : ((c : Int) == (m : Int)) = false := by simp; omega
  have hc1 : (c : Int) < 1000000 := by omega
  have hc0 : (0 : Int) ≤ (c : Int) := by omega
  clear hcm hm
  replace hop := Lib.hid hop
  replace hd := Lib.hid hd
  go_enter Tryz.func228, Tryz.ntmps228
  go_upto_region 1 with fail
  refine Tx.start (fun w' => Below (w).heap.size (w) w') 9999 10 rfl (by kernel_rfl) ?_
  have hS_1 : Below (w).heap.size (w) (World.drew w) := (Below.refl _ _).drew
  refine Tx.seg (A := ?_) 0 1023 (by kernel_rfl) (by exact hS_1) [0, 1, 2, 3, 4, 5, 6, 7, 8, 9] (by kernel_rfl) ?_ ?_
  rotate_left
  · intro w' hB
    have f1 := (k0.below hB).cell e1.out
    have f2 := (k0.below hB).cell e2.out
    iterate 10 (first | (refine rd_skip rfl rfl ?_; simp only [Act.put, List.setIfInBounds_toArray, List.set_cons_zero, List.set_cons_succ]) | (refine rd_load_arr rfl rfl _ _ rfl _ rfl (by decide +kernel) _ (by assumption) (by first | (rw [lims_len]; kernel_rfl) | (rw [el_rep]; kernel_rfl) | (rw [el_len]; kernel_rfl) | (rw [byts_len]; kernel_rfl) | (rw [us_len]; kernel_rfl) | (rw [bytn_len]; kernel_rfl) | (rw [ens_len, digs_len]; kernel_rfl) | (rw [ptL_len]; kernel_rfl) | (rw [pcs_len]; kernel_rfl) | kernel_rfl) ?_; simp only [Act.put, List.setIfInBounds_toArray, List.set_cons_zero, List.set_cons_succ]) | (refine rd_take (v := ?_) rfl rfl ?_ ?_; rotate_left; (focus (go_simp; try (with_reducible rfl))); simp only [Act.put, List.setIfInBounds_toArray, List.set_cons_zero, List.set_cons_succ]))
    exact rd_nil
  refine Tx.done (by kernel_rfl) ?_
  have hch := Ch.of_below (M := [p, q]) hS_1
  replace k0 := k0.below hS_1
  replace kf := kf.below hS_1
  clear hS_1 hne e2
  obtain ⟨wq, hwq⟩ : ∃ wq : World, w.drew = wq := ⟨_, rfl⟩
  rw [hwq] at k0 kf hch ⊢
  clear hwq
  have c1 := Lib.hid (fturn_never p g F wq kf hop.out hd.out)
  have h0 := k0.cell e0.out
  go_wp2_with fail
  refine c1.out.mono ?_
  rintro e w1 ⟨rfl, kf1, hc⟩
  replace k0 := k0.ch hc (by simp; exact hqp)
  replace hch := hch.trans (hc.mono (by simp))
  clear c1 hc h0 kf
  have h1 := k0.cell e1.out
  have h2 := k0.frozen 65
  go_wp2_with fail
  go_ret
  have k1 := k0.set 65 (.int .i64 ((c + 1 : Nat) : Int))
  rw [hset.out] at k1
  have hc2 : Ch [p, q] w1 (w1.setCell ⟨q, 65, none⟩ (.int .i64 ((c + 1 : Nat) : Int))) := Ch.of_gr (gr_cell _ q 65 _) (by simp)
  exact ⟨rfl, k1, kf1.ch (Ch.of_gr (M := [q]) (gr_cell _ q 65 _) (by simp)) (by simp; exact Ne.symm hqp) (by simp; exact Ne.symm hqg), hch.trans hc2⟩
end Go.Proofs.YtibdgkhkhmdihaaGreatDoor


namespace Go.Proofs.YtibdgkhkhmdihaaGreatDoor
open Go.RowKit
theorem Sl.newMk (w : World) (A : Array Value) (T : TypeId) (fr : Nat × Nat) (g : Nat) (hg : g = w.heap.size) (n : Nat) (hn : A.size = n) (hm : n ≤ maxLen) : Sl (w.alloc (.cells A T fr)) (.slice (some ⟨g, 0, none⟩) n n) A.toList := by
  have hl : A.toList.length = n := by rw [← hn]; simp
  refine ⟨some ⟨g, 0, none⟩, n, by rw [hl], by rw [hl]; exact Nat.le_refl _, hm, (fun h => by cases h), fun x hx j u hu => ?_⟩
  cases hx
  subst hg
  rw [Addr.add_lit, Nat.zero_add, World.cell?_alloc_mark]
  simpa using hu
theorem Arr.belowB {B : Nat} {w w' : World} {g : Nat} {xs : List Value} (h : Arr w g xs) (hb : Below B w w') (hg : g < B) : Arr w' g xs := by
  obtain ⟨T, h⟩ := h
  exact ⟨T, by rw [hb.block g hg]; exact h⟩
def pcb1 : List UInt8 := [80, 67, 66, 49]
def bankL : List UInt8 := [98, 97, 110, 107]
/-- A record's bytes ahead of the sum; a record. -/
def recM (n : Int) (x : List UInt8) : List UInt8 := pcb1 ++ be8s [n, (x.length : Int)] ++ x
def recL (s : Nat) (n : Int) (x : List UInt8) : List UInt8 := recM n x ++ nb 32 (macN (nb 32 (keyN s bankL)) (recM n x))
theorem recM_len (n : Int) (x : List UInt8) : (recM n x).length = 20 + x.length := by simp [recM, pcb1, be8s_len]; omega
theorem recL_len (s : Nat) (n : Int) (x : List UInt8) : (recL s n x).length = 52 + x.length := by rw [recL, List.length_append, recM_len, nb_len]; omega
set_option maxHeartbeats 4000000 in
set_option maxRecDepth 100000 in
theorem record_any (s n : Nat) (a : Option Addr) (c : Nat) (x : List UInt8) (hn : n ≤ 1000000000) (hx : x.length ≤ 4096) (w : World) (hs : Sl w (.slice a x.length c) (u8s x)) :
    Calls Tryz.prog 277 #[.agg (bytn 32 s).toArray, .int .i64 (n : Int), .slice a x.length c] w fun e w' =>
      ∃ v, e = .returned (.tuple #[v, .int .i64 0]) ∧ w'.ownsRow w.heap.size 5 1 v (recL s n x).length (u8s (recL s n x)) ∧ Below w.heap.size w w' := by
  obtain ⟨R, hR⟩ : ∃ R, recL s n x = R := ⟨_, rfl⟩
  rw [hR]
  obtain ⟨M, hM⟩ : ∃ M, recM n x = M := ⟨_, rfl⟩
  obtain ⟨K, hK⟩ : ∃ K, keyN s bankL = K := ⟨_, rfl⟩
  have hMl : Hid (M.length = 20 + x.length) := Lib.hid (by rw [← hM]; exact recM_len _ _)
  have hR2 : Hid (R = M ++ nb 32 (macN (nb 32 K) M)) := Lib.hid (by rw [← hR, recL, hK, hM])
  have hM2 : Hid (pcb1 ++ be8s [(n : Int), (x.length : Int)] ++ x = M) := Lib.hid hM
  have ck := Lib.hid (show ∀ w, Calls Tryz.prog 198 #[.agg (bytn 32 s).toArray, .string ⟨#[98, 97, 110, 107]⟩] w fun e w' => e = .returned (.agg (bytn 32 K).toArray) ∧ Below w.heap.size w w' from fun w => by
    rw [← hK]
    exact key_any s ⟨#[98, 97, 110, 107]⟩ (by decide) w)
  have hcv := fun (w : World) (C : Array Value) (n c : Nat) => Lib.run_convert_bytes_const (P := Tryz.prog) w 26 5 C n c Tryz.underlying26 Tryz.underlying5
  obtain ⟨L, hL⟩ : ∃ L, x.length = L := ⟨_, rfl⟩
  rw [hL] at hx hs hM2 hMl ⊢
  have n0 : (0 : Int) ≤ (n : Int) := by omega
  have n1 : (n : Int) ≤ 1000000000 := by omega
  have l1 : (L : Int) ≤ 4096 := by omega
  replace hs := Lib.hid hs
  replace hL := Lib.hid hL
  have hx2 := Lib.hid hx
  clear hR hM hK hn hx
  obtain ⟨i, hi, hz0, hz1, hz2⟩ := info_parts info_u8
  replace hi := Lib.hid hi
  replace hz0 := Lib.hid hz0
  replace hz1 := Lib.hid hz1
  replace hz2 := Lib.hid hz2
  go_enter Tryz.func277, Tryz.ntmps277
  go_upto_region 1 with fail
  refine wp_new1 (fun W hsz k3 kb => ?_)
  replace k3 : Arr W w.heap.size (bytn 32 s) := k3
  obtain ⟨g3, hg3⟩ : ∃ g, w.heap.size = g := ⟨_, rfl⟩
  rw [hg3] at k3 ⊢
  have hW0 : g3 + 1 ≤ W.heap.size := by omega
  replace hg3 := Lib.hid hg3
  clear hsz
  go_wp2_with fail
  have n1' : Sl (W.alloc (.cells #[.int .u8 80, .int .u8 67, .int .u8 66, .int .u8 49] 5 (4, 5))) (.slice (some ⟨W.heap.size, 0, none⟩) 4 4) (u8s pcb1) := Sl.newMk _ _ _ _ _ rfl _ rfl (by decide)
  have n2 := n1'.alloc (.cells #[.int .i64 (n : Int), .int .i64 (L : Int)] 3)
  have n3 : Sl ((W.alloc (.cells #[.int .u8 80, .int .u8 67, .int .u8 66, .int .u8 49] 5 (4, 5))).alloc (.cells #[.int .i64 (n : Int), .int .i64 (L : Int)] 3)) (.slice (some ⟨W.heap.size + 1, 0, none⟩) 2 2) (([(n : Int), (L : Int)] : List Int).map (.int .i64)) := Sl.newMk _ _ _ _ _ (by simp) _ rfl (by decide)
  refine (packInt_any _ _ pcb1 [(n : Int), (L : Int)] _ n2 n3 (by simp [pcb1])).mono ?_
  rintro e w2 ⟨v2, rfl, o2, hb2⟩
  have hb3 := bel ((below_alloc W (.cells #[.int .u8 80, .int .u8 67, .int .u8 66, .int .u8 49] 5 (4, 5))).alloc (by simp) (.cells #[.int .i64 (n : Int), .int .i64 (L : Int)] 3)) hb2
  have hbW := hb3
  replace k3 := k3.below hb3
  have hsW := hs.out.below kb
  have hs2 := Lib.hid (hsW.below hb3)
  replace kb := bel kb hb3
  have hsz2 : g3 + 1 ≤ w2.heap.size := by have := hb3.size; omega
  have o2' := own_mono (base' := g3 + 1) o2 (by simp; omega)
  clear n1' n2 n3 hb2 hb3 o2 hsW hbW
  obtain ⟨P, hP⟩ : ∃ P, pcb1 ++ be8s [(n : Int), (L : Int)] = P := ⟨_, rfl⟩
  rw [hP] at o2' hM2
  have hPl : Hid (P.length = 20) := Lib.hid (by rw [← hP]; simp [pcb1, be8s_len])
  clear hP
  go_upto_region 6 with (at_builtin; refine wpList_append_sl rfl _ _ 26 rfl (g3 + 1) 5 Tryz.underlying26 hi.out hz0.out hz1.out hz2.out rfl _ _ _ rfl o2' _ (u8s x) rfl hs2.out (u8s_one x) ?c2 ?c3 hsz2 (fun v8 w3 hown hg => ?_))
  case c2 => rw [hPl.out, u8s_len, hL.out]; have := hx2.out; unfold maxLen; omega
  case c3 => rw [hPl.out, u8s_len, hL.out]; have := hx2.out; omega
  have hb4 : Below (g3 + 1) w2 w3 := below_grown (Below.refl _ _) o2' hsz2 hg
  replace k3 := k3.belowB hb4 (Nat.lt_succ_self _)
  replace kb := kb.trans (hb4.mono (by have := hg3.out; omega))
  have hsz3 : g3 + 1 ≤ w3.heap.size := by have := hb4.size; omega
  rw [u8s_len, ← List.length_append, ← u8s_append, hM2.out] at hown
  obtain ⟨a8, c8, he8, -⟩ := Sl.of_own hown
  rw [u8s_len] at he8
  subst he8
  have o8 := Lib.hid hown
  clear hown hg hb4 o2' hs2 hsz2 hM2 hPl
  go_wp2_with (refine wpList_load_arr2 rfl _ _ rfl _ rfl (by decide +kernel) _ k3 (by rw [bytn_len]; kernel_rfl) ?_)
  refine (ck.out _).mono ?_
  rintro e w4 ⟨rfl, hb⟩
  replace kb := bel kb hb
  have hsz4 : g3 + 1 ≤ w4.heap.size := by have := hb.size; omega
  have o9 := Lib.hid (own_below o8.out hb)
  clear hb k3 o8 hsz3 ck
  go_upto_region 7 with (refine wpl_storeG rfl _ _ _ rfl _ (bytn 32 K) rfl rfl _ (Arr.new _ _ _) (by rw [bytn_len]; kernel_rfl) (by rw [bytn_len]; rfl) (bytn_one _ _) (fun w5 k9 hg hsz => ?_))
  have hb := below_fresh hg
  replace kb := bel kb hb
  have hsz5 : g3 + 1 ≤ w5.heap.size := by have := hb.size; omega
  have o10 := Lib.hid (own_below o9.out hb)
  obtain ⟨g9, hg9⟩ : ∃ g, w4.heap.size = g := ⟨_, rfl⟩
  rw [hg9] at k9 ⊢
  clear hb hsz hg hg9 o9 hsz4
  rw [nb_u8s] at k9
  have h9 := Sl.ofArrN k9 (nb_len 32 K) (by decide)
  have hS8 := Sl.of_own o10.out
  have hSs : Sls (w5.alloc (.cells #[.slice a8 M.length c8] 26)) (.slice (some ⟨w5.heap.size, 0, none⟩) 1 1) [M] := Sls.new1 hS8 _
  obtain ⟨N, hN⟩ : ∃ N, macN (nb 32 K) M = N := ⟨_, rfl⟩
  have cm := macsum_any (some ⟨g9, 0, none⟩) (some ⟨w5.heap.size, 0, none⟩) 32 1 (nb 32 K) [M] (by simp) _ (by rw [nb_len]; exact h9.alloc _) hSs
  rw [nb_len, show [M].flatten = M by simp, hN, show [M].length = 1 from rfl] at cm
  replace cm := Lib.hid cm
  have hR3 : Hid (R = M ++ nb 32 N) := Lib.hid (by rw [hR2.out, hN])
  clear hSs hS8 h9 k9 hN hR2
  go_wp2_with fail
  refine cm.out.mono ?_
  rintro e w6 ⟨rfl, hb0⟩
  have hb := bel (below_alloc w5 (.cells #[.slice a8 M.length c8] 26)) hb0
  replace kb := bel kb hb
  have hsz6 : g3 + 1 ≤ w6.heap.size := by have := hb.size; omega
  have o11 := Lib.hid (own_below o10.out hb)
  clear hb0 hb o10 cm hsz5
  go_upto_region 8 with (refine wpl_storeG rfl _ _ _ rfl _ (bytn 32 N) rfl rfl _ (Arr.new _ _ _) (by rw [bytn_len]; kernel_rfl) (by rw [bytn_len]; rfl) (bytn_one _ _) (fun w7 k10 hg hsz => ?_))
  have hb := below_fresh hg
  replace kb := bel kb hb
  have hsz7 : g3 + 1 ≤ w7.heap.size := by have := hb.size; omega
  have o12 := Lib.hid (own_below o11.out hb)
  obtain ⟨g10, hg10⟩ : ∃ g, w6.heap.size = g := ⟨_, rfl⟩
  rw [hg10] at k10 ⊢
  clear hb hsz hg hg10 o11 hsz6
  rw [nb_u8s] at k10
  have h10 := Lib.hid (Sl.ofArrN k10 (nb_len 32 N) (by decide))
  clear k10
  go_wp2_with (at_builtin; refine wpList_append_sl rfl _ _ 26 rfl (g3 + 1) 5 Tryz.underlying26 hi.out hz0.out hz1.out hz2.out rfl _ _ _ rfl o12.out _ (u8s (nb 32 N)) rfl h10.out (u8s_one _) ?c2 ?c3 hsz7 (fun v9 w8 hown hg => ?_))
  case c2 => rw [hMl.out, u8s_len, nb_len]; have := hx2.out; unfold maxLen; omega
  case c3 => rw [hMl.out, u8s_len, nb_len]; have := hx2.out; omega
  have hb4 : Below (g3 + 1) w7 w8 := below_grown (Below.refl _ _) o12.out hsz7 hg
  replace kb := kb.trans (hb4.mono (by have := hg3.out; omega))
  rw [u8s_len, ← List.length_append, ← u8s_append, ← hR3.out] at hown
  go_wp2_with fail
  go_ret2
  exact ⟨v9, rfl, own_mono hown (by have := hg3.out; omega), kb⟩
end Go.Proofs.YtibdgkhkhmdihaaGreatDoor


namespace Go.Proofs.YtibdgkhkhmdihaaGreatDoor
/-- The number of bytes, the highest first. -/
def rdn (bs : List UInt8) : Nat := bs.foldl (fun a b => a * 256 + b.toNat) 0
theorem rdn_snoc (bs : List UInt8) (c : UInt8) : rdn (bs ++ [c]) = rdn bs * 256 + c.toNat := by simp [rdn]
end Go.Proofs.YtibdgkhkhmdihaaGreatDoor


namespace Go.Proofs.YtibdgkhkhmdihaaGreatDoor
open Go.RowKit
/-- What a cursor in block g has left, in memory that is not block g. -/
def CBuf (w : World) (g : Nat) (v : Value) (rest : List UInt8) : Prop :=
  (v = .slice none 0 0 ∧ rest = []) ∨
  ∃ b o cap, v = .slice (some ⟨b, o, none⟩) rest.length cap ∧ rest.length ≤ cap ∧ cap ≤ maxLen ∧ b < g ∧ b < w.heap.size ∧ ∀ j u, (u8s rest)[j]? = some u → w.cell? ⟨b, o + j, none⟩ = some u
/-- The cursor in block g: what is left, and whether it is bad. -/
def Cur (w : World) (g : Nat) (rest : List UInt8) (bad : Bool) : Prop :=
  ∃ v, w.cell? ⟨g, 0, none⟩ = some v ∧ w.cell? ⟨g, 1, none⟩ = some (.bool bad) ∧ w.frozen? ⟨g, 0, none⟩ = false ∧ w.frozen? ⟨g, 1, none⟩ = false ∧ CBuf w g v rest
/-- Behind a call that writes to nothing of old but a block that is not the buffer's. -/
theorem CBuf.grown {w w' : World} {g k : Nat} {v : Value} {rest : List UInt8} (h : CBuf w g v rest) (hg : w.grownBy w' (some k)) (hk : k = g ∨ w.heap.size ≤ k) : CBuf w' g v rest := by
  rcases h with h | ⟨b, o, cap, rfl, h1, h2, h3, h4, h5⟩
  · exact .inl h
  · refine .inr ⟨b, o, cap, rfl, h1, h2, h3, Nat.lt_of_lt_of_le h4 hg.size, fun j u hu => ?_⟩
    exact hg.cell (h5 j u hu) (by simp only [ne_eq, Option.some.injEq]; omega)
theorem CBuf.below {w w' : World} {g : Nat} {v : Value} {rest : List UInt8} (h : CBuf w g v rest) (hg : Below w.heap.size w w') : CBuf w' g v rest := by
  rcases h with h | ⟨b, o, cap, rfl, h1, h2, h3, h4, h5⟩
  · exact .inl h
  · refine .inr ⟨b, o, cap, rfl, h1, h2, h3, Nat.lt_of_lt_of_le h4 hg.size, fun j u hu => ?_⟩
    rw [hg.cell (p := ⟨b, o + j, none⟩) h4]
    exact h5 j u hu
theorem Cur.lt {w : World} {g : Nat} {rest : List UInt8} {bad : Bool} (h : Cur w g rest bad) : g < w.heap.size := by
  obtain ⟨v, h1, _⟩ := h
  exact World.block_lt_of_cell? w _ h1
theorem Cur.below {w w' : World} {g : Nat} {rest : List UInt8} {bad : Bool} (h : Cur w g rest bad) (hg : Below w.heap.size w w') : Cur w' g rest bad := by
  have hlt := h.lt
  obtain ⟨v, h1, h2, h3, h4, h5⟩ := h
  exact ⟨v, by rw [hg.cell (p := ⟨g, 0, none⟩) hlt]; exact h1, by rw [hg.cell (p := ⟨g, 1, none⟩) hlt]; exact h2, by rw [hg.frozen (p := ⟨g, 0, none⟩) hlt]; exact h3, by rw [hg.frozen (p := ⟨g, 1, none⟩) hlt]; exact h4, h5.below hg⟩
theorem below_grownBy {w w' : World} (h : Below w.heap.size w w') (row : Option Nat) : w.grownBy w' row := ⟨h.os, h.tape, h.output, h.size, fun k hk _ => h.block k hk⟩
theorem grownBy_trans {a b c : World} {row : Option Nat} (h : a.grownBy b row) (k : b.grownBy c row) : a.grownBy c row :=
  ⟨k.os.trans h.os, k.tape.trans h.tape, k.output.trans h.output, Nat.le_trans h.size k.size, fun i hi hn => (k.block i (Nat.lt_of_lt_of_le hi h.size) hn).trans (h.block i hi hn)⟩
theorem grownBy_set {w w' : World} {g o : Nat} {u : Value} (h : w.grownBy w' (some g)) : w.grownBy (w'.setCell ⟨g, o, none⟩ u) (some g) :=
  grownBy_trans h ⟨rfl, rfl, rfl, by simp [World.setCell], fun k _ hn => Below.heap_setCell _ _ _ _ (by simpa using hn)⟩
/-- pack.New: a cursor at the first byte. -/
theorem packNew_any (vb : Value) (bs : List UInt8) (w : World) (hb : Sl w vb (u8s bs)) (hr : bs.length ≤ 140737488355328) :
    Calls Tryz.prog 230 #[vb] w fun e w' => ∃ g, e = .returned (.pointer (some ⟨g, 0, none⟩)) ∧ w.heap.size ≤ g ∧ Cur w' g bs false ∧ Below w.heap.size w w' := by
  go_enter Tryz.func230, Tryz.ntmps230
  go_wp2_with fail
  refine (clone_any vb bs w hb hr).mono ?_
  rintro e w1 ⟨v1, rfl, hown, hbel, -⟩
  have hv : CBuf w1 w1.heap.size v1 bs := by
    rcases hown.2 with ⟨rfl, h0⟩ | ⟨gb, cap, cur, rfl, h1, h2, h3, h4, h5, h6⟩
    · exact .inl ⟨rfl, List.eq_nil_of_length_eq_zero h0⟩
    · refine .inr ⟨gb, 0, cap, rfl, h3, h4, ?_, (Array.getElem?_eq_some_iff.1 h2).1, fun j u hu => ?_⟩
      · have := (Array.getElem?_eq_some_iff.1 h2).1; omega
      · have := World.ownsRow.cells hown rfl j u hu
        rwa [Addr.add_lit] at this
  clear hown
  have hsh : ∃ a n c, v1 = .slice a n c := by rcases hv with ⟨rfl, _⟩ | ⟨b, o, cap, rfl, _⟩ <;> exact ⟨_, _, _, rfl⟩
  obtain ⟨a, n, c, rfl⟩ := hsh
  have hv' := Lib.hid hv
  clear hv
  go_wp2
  go_ret
  refine ⟨w1.heap.size, rfl, hbel.size, ⟨_, ?_, ?_, ?_, ?_, (hv'.out.below (below_alloc _ _))⟩, hbel.alloc hbel.size _⟩
  · rw [World.cell?_alloc_at _ _ _ _ rfl]; rfl
  · rw [World.cell?_alloc_at _ _ _ _ rfl]; rfl
  · exact World.frozen?_alloc_at _ _ _ _ rfl
  · exact World.frozen?_alloc_at _ _ _ _ rfl
end Go.Proofs.YtibdgkhkhmdihaaGreatDoor


namespace Go.Proofs.YtibdgkhkhmdihaaGreatDoor
section
variable {P : Program} {a : Act} {w : World} {Q : Exit → Act → World → Prop}
theorem jump_at {l : Nat} {A : Act} {W : World} : l = l ∧ A = A ∧ W = W := ⟨rfl, rfl, rfl⟩
/-- A scope that is left by a jump to one of its labels, once, from the state A, W. -/
theorem wp_scope_fwd {c rest : Code} (l : Nat) (A : Act) (W : World) (hf : findLabel c l = some rest) (first : c.wp P (Exit.jump l (fun a' w' => a' = A ∧ w' = W) Q) a w)
    (pass : rest.wp P (Exit.noGoto Q) A W) : (Code.scope c).wp P Q a w := by
  refine wp_scope_jumps l (fun a' w' => a' = A ∧ w' = W) (fun _ _ => 0) hf first ?_
  rintro a' w' ⟨rfl, rfl⟩
  refine Code.wp_mono ?_ pass
  intro e a w h
  cases e <;> first | exact h | exact (h : False).elim
/-- A scope through which the run goes without a jump. -/
theorem wp_scope_none {c : Code} (h : c.wp P (Exit.noGoto Q) a w) : (Code.scope c).wp P Q a w := wp_scope_straight h
end
end Go.Proofs.YtibdgkhkhmdihaaGreatDoor


namespace Go.Proofs.YtibdgkhkhmdihaaGreatDoor
open Go.RowKit
set_option maxHeartbeats 1000000 in
set_option maxRecDepth 100000 in
theorem raw_bad (g : Nat) (rest : List UInt8) (n : Int) (w : World) (hc : Cur w g rest true) :
    Calls Tryz.prog 231 #[.pointer (some ⟨g, 0, none⟩), .int .i64 n] w fun e w' => e = .returned (.slice none 0 0) ∧ w' = w := by
  obtain ⟨v, h0, h1, f0, f1, -⟩ := hc
  go_enter Tryz.func231, Tryz.ntmps231
  go_wp2_with fail
  go_step3
  go_wp2_with fail
  try rw [Exit.noGoto_ret]
  go_ret
  exact ⟨rfl, rfl⟩
theorem cur_gone {w : World} {g : Nat} {v : Value} {bad : Bool} (h0 : w.cell? ⟨g, 0, none⟩ = some v) (h1 : w.cell? ⟨g, 1, none⟩ = some (.bool bad)) (f0 : w.frozen? ⟨g, 0, none⟩ = false) (f1 : w.frozen? ⟨g, 1, none⟩ = false) :
    w.grownBy ((w.setCell ⟨g, 0, none⟩ (.slice none 0 0)).setCell ⟨g, 1, none⟩ (.bool true)) (some g) ∧ Cur ((w.setCell ⟨g, 0, none⟩ (.slice none 0 0)).setCell ⟨g, 1, none⟩ (.bool true)) g [] true := by
  have h1' : (w.setCell ⟨g, 0, none⟩ (.slice none 0 0)).cell? ⟨g, 1, none⟩ = some (.bool bad) := by
    rw [World.cell?_setCell_other _ _ _ _ (by simp)]; exact h1
  refine ⟨grownBy_set (grownBy_set (World.grownBy.refl _ _)), .slice none 0 0, ?_, ?_, ?_, ?_, .inl ⟨rfl, rfl⟩⟩
  · rw [World.cell?_setCell_other _ _ _ _ (by simp), World.cell?_setCell_same _ _ _ h0]
  · rw [World.cell?_setCell_same _ _ _ h1']
  · rw [World.frozen?_setCell, World.frozen?_setCell]; exact f0
  · rw [World.frozen?_setCell, World.frozen?_setCell]; exact f1
set_option maxHeartbeats 1000000 in
set_option maxRecDepth 100000 in
theorem raw_no (g : Nat) (rest : List UInt8) (n : Int) (w : World) (hc : Cur w g rest false) (hn : n < 0 ∨ (rest.length : Int) < n) :
    Calls Tryz.prog 231 #[.pointer (some ⟨g, 0, none⟩), .int .i64 n] w fun e w' => e = .returned (.slice none 0 0) ∧ w.grownBy w' (some g) ∧ Cur w' g [] true := by
  obtain ⟨v, h0, h1, f0, f1, hb⟩ := hc
  have hsh : ∃ a c, v = .slice a rest.length c := by rcases hb with ⟨rfl, rfl⟩ | ⟨b, o, cap, rfl, _⟩ <;> exact ⟨_, _, rfl⟩
  obtain ⟨a, c, rfl⟩ := hsh
  clear hb
  have hlt := World.block_lt_of_cell? w _ h0
  by_cases hneg : n < 0
  · clear hn
    go_enter Tryz.func231, Tryz.ntmps231
    go_wp2_with fail
    refine wp_scope_fwd 0 ?A1 ?W1 rfl ?first1 ?pass1
    case first1 =>
      go_wp2_with fail
      go_step3
      exact jump_at
    case pass1 =>
      go_wp2_with fail
      try rw [Exit.noGoto_ret]
      go_ret
      exact ⟨rfl, cur_gone h0 h1 f0 f1⟩
  · have hbig : (rest.length : Int) < n := hn.resolve_left hneg
    clear hn
    go_enter Tryz.func231, Tryz.ntmps231
    go_wp2_with fail
    refine wp_scope_fwd 0 ?A2 ?W2 rfl ?first2 ?pass2
    case first2 =>
      go_wp2_with fail
      go_step3
      exact jump_at
    case pass2 =>
      go_wp2_with fail
      try rw [Exit.noGoto_ret]
      go_ret
      exact ⟨rfl, cur_gone h0 h1 f0 f1⟩
end Go.Proofs.YtibdgkhkhmdihaaGreatDoor

