import Derived.Test.YtmlmggmnlgcbcaaGreatJb15
import Derived.Test.YtmlmggmnlgcbcaaGreatJb14
import Derived.Laws.IdiomStrings

namespace Go.Proofs.YtmlmggmnlgcbcaaGreat
open Go.RowKit
/-- A sector erased, so many bytes of it. -/
def erB (b : List UInt8) (o : Nat) : Nat → List UInt8
  | 0 => b
  | j + 1 => (erB b o j).set (o + j) 255
theorem erB_len (b : List UInt8) (o : Nat) : ∀ j, (erB b o j).length = b.length
  | 0 => rfl
  | j + 1 => by rw [erB, List.length_set, erB_len b o j]
/-- Bits cleared, of so many bytes. -/
def prB (b : List UInt8) (o : Nat) (xs : List UInt8) : Nat → List UInt8
  | 0 => b
  | j + 1 => (prB b o xs j).set (o + j) ((prB b o xs j).getD (o + j) 0 &&& xs.getD j 0)
theorem prB_len (b : List UInt8) (o : Nat) (xs : List UInt8) : ∀ j, (prB b o xs j).length = b.length
  | 0 => rfl
  | j + 1 => by rw [prB, List.length_set, prB_len b o xs j]
/-- A byte of the flash set. -/
theorem FlAt.byte {w : World} {p g : Nat} {F : Fl} (h : FlAt w p g F) (j : Nat) (x : UInt8) (hj : j < F.b.length) : FlAt (w.setCell ⟨g, j, none⟩ (.int .u8 (x.toNat : Int))) p g { F with b := F.b.set j x } ∧ Ch [p, g] w (w.setCell ⟨g, j, none⟩ (.int .u8 (x.toNat : Int))) := by
  obtain ⟨h1, ⟨pad, h2⟩, h3, h4, h5, h6⟩ := h
  refine ⟨⟨?_, ⟨pad, ?_⟩, h3, by rw [List.length_set]; exact h4, h5, h6⟩, Ch.of_gr (gr_cell w g j _) (by simp)⟩
  · have e : flv g { F with b := F.b.set j x } = flv g F := by simp [flv]
    rw [e]
    exact h1.other (a := ⟨g, j, none⟩) h3 _
  · have := h2.set j (.int .u8 (x.toNat : Int))
    rw [List.set_append_left _ _ (by rw [u8s_len]; exact hj)] at this
    have e : (u8s F.b).set j (.int .u8 (x.toNat : Int)) = u8s (F.b.set j x) := by simp [u8s, List.map_set]
    rwa [e] at this
theorem FlAt.cellb {w : World} {p g : Nat} {F : Fl} (h : FlAt w p g F) (j : Nat) (hj : j < F.b.length) : w.cell? ⟨g, j, none⟩ = some (.int .u8 ((F.b[j]).toNat : Int)) ∧ w.frozen? ⟨g, j, none⟩ = false := by
  obtain ⟨-, ⟨pad, h2⟩, -, -, -, -⟩ := h
  exact ⟨h2.cell (by rw [List.getElem?_append_left (by rw [u8s_len]; exact hj), u8s_get _ _ hj]), h2.frozen _⟩
theorem FlAt.v0 {w : World} {p g : Nat} {F : Fl} (h : FlAt w p g F) : w.cell? ⟨p, 0, none⟩ = some (.slice (some ⟨g, 0, none⟩) F.b.length F.b.length) := h.st.cell (j := 0) rfl
set_option maxHeartbeats 4000000 in
set_option maxRecDepth 100000 in
theorem ferase_never (p g s : Nat) (F : Fl) (w : World) (k0 : FlAt w p g F) (hop : F.op = -1) (hd : F.dead = false) (hs : 256 * s + 256 ≤ F.b.length) :
    Calls Tryz.prog 126 #[.pointer (some ⟨p, 0, none⟩), .int .i64 (s : Int)] w fun e w' => e = .returned (.bool true) ∧ (∃ er, FlAt w' p g { F with b := erB F.b (256 * s) 256, er := er }) ∧ Ch [p, g] w w' := by
  obtain ⟨⟨v0, v1, v2, v3, v4, v5⟩, ⟨f0, f1, f2, f3, f4, f5⟩⟩ : (w.cell? ⟨p, 0, none⟩ = some (.slice (some ⟨g, 0, none⟩) F.b.length F.b.length) ∧ w.cell? ⟨p, 1, none⟩ = some (.int .i64 F.op) ∧ w.cell? ⟨p, 2, none⟩ = some (.int .i64 F.cut) ∧ w.cell? ⟨p, 3, none⟩ = some (.bool F.dead) ∧ w.cell? ⟨p, 4, none⟩ = some (.int .i64 F.er) ∧ w.cell? ⟨p, 5, none⟩ = some (.int .i64 F.pr)) ∧
      (w.frozen? ⟨p, 0, none⟩ = false ∧ w.frozen? ⟨p, 1, none⟩ = false ∧ w.frozen? ⟨p, 2, none⟩ = false ∧ w.frozen? ⟨p, 3, none⟩ = false ∧ w.frozen? ⟨p, 4, none⟩ = false ∧ w.frozen? ⟨p, 5, none⟩ = false) :=
    ⟨⟨k0.st.cell (j := 0) rfl, k0.st.cell (j := 1) rfl, k0.st.cell (j := 2) rfl, k0.st.cell (j := 3) rfl, k0.st.cell (j := 4) rfl, k0.st.cell (j := 5) rfl⟩, ⟨k0.st.frozen _, k0.st.frozen _, k0.st.frozen _, k0.st.frozen _, k0.st.frozen _, k0.st.frozen _⟩⟩
  rw [hd] at v3
  have c1 := Lib.hid (fsize_any p g F w k0)
  have c2 := Lib.hid (show Calls Tryz.prog 27 #[.pointer (some ⟨p, 0, none⟩), .int .i64 256] w _ from fop_never p g 256 F w k0 hop)
  have hl := k0.len
  have s0 : (0 : Int) ≤ (s : Int) := by omega
  have s1 : (s : Int) < ((F.b.length / 256 : Nat) : Int) := by omega
  obtain ⟨q, hq⟩ : ∃ q, F.b.length / 256 = q := ⟨_, rfl⟩
  rw [hq] at c1 s1
  obtain ⟨o, ho⟩ : ∃ o, 256 * s = o := ⟨_, rfl⟩
  rw [ho] at hs ⊢
  have hoI : (s : Int) * 256 = (o : Int) := by omega
  have o0 : (0 : Int) ≤ (o : Int) := by omega
  have o1 : (o : Int) ≤ 261888 := by omega
  have hsH := Lib.hid hs
  have s2 : (s : Int) ≤ 1024 := by omega
  clear ho hq v0 v1 v2 v4 v5 f0 f1 f2 f3 f4 f5 k0 hd hs hl
  replace hop := Lib.hid hop
  go_enter Tryz.func126, Tryz.ntmps126
  go_wp2_with fail
  refine c1.out.mono ?_
  rintro e w1 ⟨rfl, hw⟩
  obtain rfl : w = w1 := hw.symm
  clear c1
  go_wp2_with fail
  refine c2.out.mono ?_
  rintro e w2 ⟨rfl, k0, hc⟩
  replace hc : Ch [p, g] w w2 := hc.mono (by simp)
  have hw0 := k0.lt
  clear c2
  go_wp2_with fail
  go_loopw [31] (fun iv wr => ∃ i : Nat, i ≤ 256 ∧ iv = .int .i64 i ∧ FlAt wr p g { F with b := erB F.b o i } ∧ Ch [p, g] w wr) (fun iv _ => 256 - (intOf iv).toNat)
  case atStart => exact ⟨0, by omega, rfl, k0, hc⟩
  case round =>
  clear k0 hc
  obtain ⟨i, hi, rfl, k0, hc⟩ := hrel
  have hi0 : (0 : Int) ≤ (i : Int) := by omega
  by_cases hin : i < 256
  · have hi1 : (i : Int) < 256 := by omega
    have hv0 := k0.v0
    rw [show ({ F with b := erB F.b o i } : Fl).b.length = F.b.length from erB_len _ _ _] at hv0
    obtain ⟨hcb, hfb⟩ := k0.cellb (o + i) (by show o + i < (erB F.b o i).length; rw [erB_len]; have := hsH.out; omega)
    generalize ((({ F with b := erB F.b o i } : Fl).b)[o + i]'_).toNat = y at hcb
    obtain ⟨L, hL⟩ : ∃ L, F.b.length = L := ⟨_, rfl⟩
    rw [hL] at hv0
    have hoi : (o : Int) + (i : Int) < (L : Int) := by have := hsH.out; omega
    obtain ⟨m, hm⟩ : ∃ m, o + i = m := ⟨_, rfl⟩
    have hmI : (o : Int) + (i : Int) = (m : Int) := by omega
    have hm0 : (0 : Int) ≤ (m : Int) := by omega
    have hm1 : (m : Int) < (L : Int) := by omega
    rw [hm] at hcb hfb
    have hLH := Lib.hid hL
    have hmH := Lib.hid hm
    clear hL hm
    go_wp2_with fail
    obtain ⟨k1, hc1⟩ := k0.byte m 255 (by show m < (erB F.b o i).length; rw [erB_len, hLH.out]; omega)
    have e1 : ({ F with b := (erB F.b o i).set m 255 } : Fl) = { F with b := erB F.b o (i + 1) } := by rw [erB, hmH.out]
    exact ⟨⟨i + 1, by omega, by go_num, by rw [← e1]; exact k1, hc.trans hc1⟩, by simp [intOf]; omega⟩
  · have dj : decide ((i : Int) < 256) = false := decide_eq_false (by omega)
    have hie : Hid (i = 256) := Lib.hid (by omega)
    rw [hie.out] at k0
    obtain ⟨G, hG⟩ : ∃ G : Fl, ({ F with b := erB F.b o 256 } : Fl) = G := ⟨_, rfl⟩
    have hv4 := k0.st.cell (j := 4) rfl
    have hf4 := k0.st.frozen 4
    have hE := k0.er
    rw [hG] at k0 hv4 hE
    obtain ⟨E, hEe⟩ : ∃ E, G.er = E := ⟨_, rfl⟩
    rw [hEe] at hv4 hE
    obtain ⟨hE0, hE1⟩ := hE
    have hGe : Hid (∀ er, ({ F with b := erB F.b o 256, er := er } : Fl) = { G with er := er }) := Lib.hid (fun er => by rw [← hG])
    replace hEe := Lib.hid hEe
    clear hG hie hi hin hi0 v3 s0 s1 hoI o0 o1 s2
    obtain ⟨ic, hic⟩ : ∃ ic : Int, (i : Int) = ic := ⟨_, rfl⟩
    rw [hic] at dj ⊢
    clear hic
    replace k0 := Lib.hid k0
    replace hc := Lib.hid hc
    by_cases hEl : E < 1099511627776
    · have e1 : E + 1 ≤ 1099511627776 := by omega
      have e2 : ¬ 1099511627776 < E + 1 := by omega
      go_wp2_with fail
      go_ret
      refine ⟨rfl, ⟨E + 1, ?_⟩, hc.out.trans (Ch.of_gr (gr_cell _ p 4 _) (by simp))⟩
      rw [hGe.out]
      obtain ⟨h1, ⟨pad, h2⟩, h3, h4, h5, h6⟩ := k0.out
      exact ⟨h1.set 4 (.int .i64 (E + 1)), ⟨pad, h2.other (a := ⟨p, 4, none⟩) (Ne.symm h3) _⟩, h3, h4, ⟨by show 0 ≤ E + 1; omega, e1⟩, h6⟩
    · obtain rfl : E = 1099511627776 := by omega
      go_wp2_with fail
      go_ret
      refine ⟨rfl, ⟨1099511627776, ?_⟩, hc.out.trans (Ch.of_gr (gr_cell _ p 4 _) (by simp))⟩
      rw [hGe.out]
      obtain ⟨h1, ⟨pad, h2⟩, h3, h4, h5, h6⟩ := k0.out
      exact ⟨h1.set 4 (.int .i64 1099511627776), ⟨pad, h2.other (a := ⟨p, 4, none⟩) (Ne.symm h3) _⟩, h3, h4, ⟨by simp, by simp⟩, h6⟩
theorem and_u8c {a b : Nat} (ha : a < 256) (hb : b < 256) : bits .and .u8 (a : Int) (b : Int) = ((a &&& b : Nat) : Int) := by
  have h8 : ∀ {a : Nat}, a < 256 → (BitVec.ofInt 8 (a : Int)).toNat = a := fun h => by
    rw [BitVec.ofInt_natCast, BitVec.toNat_ofNat]
    exact Nat.mod_eq_of_lt h
  show IntKind.u8.wrap ((BitVec.ofInt 8 (a : Int) &&& BitVec.ofInt 8 (b : Int)).toNat : Int) = _
  rw [BitVec.toNat_and, h8 ha, h8 hb, u8_mod, Nat.mod_eq_of_lt (Nat.lt_of_le_of_lt Nat.and_le_left ha)]
set_option maxHeartbeats 4000000 in
set_option maxRecDepth 100000 in
theorem fprogram_never (p g o : Nat) (F : Fl) (a : Option Addr) (c : Nat) (xs : List UInt8) (w : World) (k0 : FlAt w p g F) (hop : F.op = -1) (hd : F.dead = false) (ho : o + xs.length ≤ F.b.length) (hx0 : 0 < xs.length) (hsl : Sl w (.slice a xs.length c) (u8s xs)) (hv : ∀ x, a = some x → x.block ≠ p ∧ x.block ≠ g) :
    Calls Tryz.prog 127 #[.pointer (some ⟨p, 0, none⟩), .int .i64 (o : Int), .slice a xs.length c] w fun e w' => e = .returned (.bool true) ∧ (∃ pr, FlAt w' p g { F with b := prB F.b o xs xs.length, pr := pr }) ∧ Ch [p, g] w w' := by
  obtain ⟨⟨v0, v1, v2, v3, v4, v5⟩, ⟨f0, f1, f2, f3, f4, f5⟩⟩ : (w.cell? ⟨p, 0, none⟩ = some (.slice (some ⟨g, 0, none⟩) F.b.length F.b.length) ∧ w.cell? ⟨p, 1, none⟩ = some (.int .i64 F.op) ∧ w.cell? ⟨p, 2, none⟩ = some (.int .i64 F.cut) ∧ w.cell? ⟨p, 3, none⟩ = some (.bool F.dead) ∧ w.cell? ⟨p, 4, none⟩ = some (.int .i64 F.er) ∧ w.cell? ⟨p, 5, none⟩ = some (.int .i64 F.pr)) ∧
      (w.frozen? ⟨p, 0, none⟩ = false ∧ w.frozen? ⟨p, 1, none⟩ = false ∧ w.frozen? ⟨p, 2, none⟩ = false ∧ w.frozen? ⟨p, 3, none⟩ = false ∧ w.frozen? ⟨p, 4, none⟩ = false ∧ w.frozen? ⟨p, 5, none⟩ = false) :=
    ⟨⟨k0.st.cell (j := 0) rfl, k0.st.cell (j := 1) rfl, k0.st.cell (j := 2) rfl, k0.st.cell (j := 3) rfl, k0.st.cell (j := 4) rfl, k0.st.cell (j := 5) rfl⟩, ⟨k0.st.frozen _, k0.st.frozen _, k0.st.frozen _, k0.st.frozen _, k0.st.frozen _, k0.st.frozen _⟩⟩
  rw [hd] at v3
  obtain ⟨n, hn⟩ : ∃ n, xs.length = n := ⟨_, rfl⟩
  rw [hn] at ho hx0 hsl ⊢
  have c1 := Lib.hid (fis_yes p g o n F w k0 ho)
  have c2 := Lib.hid (show Calls Tryz.prog 27 #[.pointer (some ⟨p, 0, none⟩), .int .i64 (n : Int)] w _ from fop_never p g n F w k0 hop)
  have hl := k0.len
  have o0 : (0 : Int) ≤ (o : Int) := by omega
  have o1 : (o : Int) ≤ 262144 := by omega
  have n0 : (0 : Int) < (n : Int) := by omega
  have n1 : (n : Int) ≤ 262144 := by omega
  have hnc : n ≤ c ∧ c ≤ maxLen := by have := hsl.len; exact ⟨this.2.1, this.2.2⟩
  have hvn : (n : Int) ≤ (c : Int) := by omega
  replace ho := Lib.hid ho
  replace hn := Lib.hid hn
  replace hsl := Lib.hid hsl
  replace hv := Lib.hid hv
  replace hnc := Lib.hid hnc
  clear v0 v1 v2 v4 v5 f0 f1 f2 f3 f4 f5 k0 hd hl hx0
  replace hop := Lib.hid hop
  go_enter Tryz.func127, Tryz.ntmps127
  go_wp2_with fail
  refine c1.out.mono ?_
  rintro e w1 ⟨rfl, hw⟩
  obtain rfl : w = w1 := hw.symm
  clear c1
  go_wp2_with fail
  refine c2.out.mono ?_
  rintro e w2 ⟨rfl, k0, hc⟩
  replace hc : Ch [p, g] w w2 := hc.mono (by simp)
  clear c2
  go_wp2_with fail
  go_loopw [34] (fun iv wr => ∃ i : Nat, i ≤ n ∧ iv = .int .i64 i ∧ FlAt wr p g { F with b := prB F.b o xs i } ∧ Ch [p, g] w wr) (fun iv _ => n - (intOf iv).toNat)
  case atStart => exact ⟨0, by omega, rfl, k0, hc⟩
  case round =>
  clear k0 hc
  obtain ⟨i, hi, rfl, k0, hc⟩ := hrel
  have hi0 : (0 : Int) ≤ (i : Int) := by omega
  by_cases hin : i < n
  · have hi1 : (i : Int) < (n : Int) := by omega
    have hin2 : i < xs.length := by rw [hn.out]; exact hin
    have hS2 := hsl.out.ch hc (fun x m cc e => by
      simp only [Value.slice.injEq] at e
      have := hv.out x e.1
      simp
      exact this)
    obtain ⟨b2, o2, rfl, -, -, -, hcc⟩ := hS2.at (by rw [u8s_len]; omega)
    have hcx := hcc i _ (u8s_get xs i hin2)
    obtain ⟨x, hx⟩ : ∃ x, (xs[i]).toNat = x := ⟨_, rfl⟩
    have lx : x < 256 := by rw [← hx]; exact (xs[i]).toNat_lt
    rw [hx] at hcx
    have hv0 := k0.v0
    rw [show ({ F with b := prB F.b o xs i } : Fl).b.length = F.b.length from prB_len _ _ _ _] at hv0
    have hml : o + i < (prB F.b o xs i).length := by rw [prB_len]; have := ho.out; omega
    obtain ⟨hcb, hfb⟩ := k0.cellb (o + i) hml
    replace hcb : wr.cell? ⟨g, o + i, none⟩ = some (.int .u8 (((prB F.b o xs i)[o + i]).toNat : Int)) := hcb
    obtain ⟨y, hy⟩ : ∃ y, ((prB F.b o xs i)[o + i]).toNat = y := ⟨_, rfl⟩
    have ly : y < 256 := by rw [← hy]; exact ((prB F.b o xs i)[o + i]).toNat_lt
    have hz : Hid ((prB F.b o xs i).set (o + i) (UInt8.ofNat (y &&& x)) = prB F.b o xs (i + 1)) := Lib.hid (by
      rw [prB, List.getD_eq_getElem?_getD, List.getElem?_eq_getElem hml, List.getD_eq_getElem?_getD, List.getElem?_eq_getElem hin2, Option.getD_some, Option.getD_some, ← hx, ← hy, ← UInt8.toNat_and]
      simp)
    rw [hy] at hcb
    have fa := and_u8c ly lx
    obtain ⟨z, hze⟩ : ∃ z, y &&& x = z := ⟨_, rfl⟩
    have lz : z < 256 := by rw [← hze]; exact Nat.lt_of_le_of_lt Nat.and_le_left ly
    rw [hze] at fa hz
    obtain ⟨L, hL⟩ : ∃ L, F.b.length = L := ⟨_, rfl⟩
    rw [hL] at hv0
    obtain ⟨m, hm⟩ : ∃ m, o + i = m := ⟨_, rfl⟩
    have hmI : (o : Int) + (i : Int) = (m : Int) := by omega
    have hm0 : (0 : Int) ≤ (m : Int) := by omega
    have hm1 : (m : Int) < (L : Int) := by have := ho.out; omega
    rw [hm] at hcb hfb hz hml
    have hLH := Lib.hid hL
    have hmlH := Lib.hid hml
    clear hL hm hx hy hze hcc hml hin2 hS2
    go_wp2_with fail
    obtain ⟨k1, hc1⟩ := k0.byte m (UInt8.ofNat z) hmlH.out
    have e0 : ((UInt8.ofNat z).toNat : Int) = (z : Int) := by rw [UInt8.toNat_ofNat', Nat.mod_eq_of_lt lz]
    rw [e0] at k1 hc1
    have e1 : ({ F with b := (prB F.b o xs i).set m (UInt8.ofNat z) } : Fl) = { F with b := prB F.b o xs (i + 1) } := by rw [hz.out]
    exact ⟨⟨i + 1, by omega, by go_num, by rw [← e1]; exact k1, hc.trans hc1⟩, by simp [intOf]; omega⟩
  · have dj : decide ((i : Int) < (n : Int)) = false := decide_eq_false (by omega)
    have hie : Hid (i = n) := Lib.hid (by omega)
    rw [hie.out] at k0
    obtain ⟨G, hG⟩ : ∃ G : Fl, ({ F with b := prB F.b o xs n } : Fl) = G := ⟨_, rfl⟩
    have hv4 := k0.st.cell (j := 5) rfl
    have hf4 := k0.st.frozen 5
    have hE := k0.pr
    rw [hG] at k0 hv4 hE
    obtain ⟨E, hEe⟩ : ∃ E, G.pr = E := ⟨_, rfl⟩
    rw [hEe] at hv4 hE
    obtain ⟨hE0, hE1⟩ := hE
    have hGe : Hid (∀ er : Int, ({ F with b := prB F.b o xs n, pr := er } : Fl) = { G with pr := er }) := Lib.hid (fun er => by rw [← hG])
    replace hEe := Lib.hid hEe
    clear hG hie hi hin hi0 v3 o0 o1 hsl n0 n1 hvn
    obtain ⟨ic, hic⟩ : ∃ ic : Int, (i : Int) = ic := ⟨_, rfl⟩
    rw [hic] at dj ⊢
    clear hic
    replace k0 := Lib.hid k0
    replace hc := Lib.hid hc
    by_cases hEl : E < 1099511627776
    · have e1 : E + 1 ≤ 1099511627776 := by omega
      have e2 : ¬ 1099511627776 < E + 1 := by omega
      go_wp2_with fail
      go_ret
      refine ⟨rfl, ⟨E + 1, ?_⟩, hc.out.trans (Ch.of_gr (gr_cell _ p 5 _) (by simp))⟩
      rw [hGe.out]
      obtain ⟨h1, ⟨pad, h2⟩, h3, h4, h5, h6⟩ := k0.out
      exact ⟨h1.set 5 (.int .i64 (E + 1)), ⟨pad, h2.other (a := ⟨p, 5, none⟩) (Ne.symm h3) _⟩, h3, h4, h5, ⟨by show 0 ≤ E + 1; omega, e1⟩⟩
    · obtain rfl : E = 1099511627776 := by omega
      go_wp2_with fail
      go_ret
      refine ⟨rfl, ⟨1099511627776, ?_⟩, hc.out.trans (Ch.of_gr (gr_cell _ p 5 _) (by simp))⟩
      rw [hGe.out]
      obtain ⟨h1, ⟨pad, h2⟩, h3, h4, h5, h6⟩ := k0.out
      exact ⟨h1.set 5 (.int .i64 1099511627776), ⟨pad, h2.other (a := ⟨p, 5, none⟩) (Ne.symm h3) _⟩, h3, h4, h5, ⟨by simp, by simp⟩⟩
end Go.Proofs.YtmlmggmnlgcbcaaGreat


namespace Go.Proofs.YtmlmggmnlgcbcaaGreat
open Go.RowKit
/-- The key of a name, as a number. -/
def keyN (s : Nat) (name : List UInt8) : Nat := macN (nb 32 s) (name ++ [1])
theorem Sls.new3 {w : World} {v1 v2 v3 : Value} {b1 b2 b3 : List UInt8} (h1 : Sl w v1 (u8s b1)) (h2 : Sl w v2 (u8s b2)) (h3 : Sl w v3 (u8s b3)) (T : TypeId) : Sls (w.alloc (.cells #[v1, v2, v3] T)) (.slice (some ⟨w.heap.size, 0, none⟩) 3 3) [b1, b2, b3] := by
  refine ⟨[v1, v2, v3], ⟨_, 3, rfl, Nat.le_refl _, by decide, fun h => (by cases h), fun x hx => ?_⟩, rfl, ?_⟩
  · cases hx
    intro j u hu
    rw [Addr.add_lit, Nat.zero_add]
    exact (Arr.new w #[v1, v2, v3] T).cell hu
  · intro j a b' ha hb'
    match j with
    | 0 => simp only [List.getElem?_cons_zero, Option.some.injEq] at ha hb'; subst ha hb'; exact h1.alloc _
    | 1 => simp only [List.getElem?_cons_zero, List.getElem?_cons_succ, Option.some.injEq] at ha hb'; subst ha hb'; exact h2.alloc _
    | 2 => simp only [List.getElem?_cons_zero, List.getElem?_cons_succ, Option.some.injEq] at ha hb'; subst ha hb'; exact h3.alloc _
    | j + 3 => simp at ha
theorem own_range {w : World} {base : Nat} {e : TypeId} {v : Value} {n : Nat} {xs : List Value} (h : w.ownsRow base e 1 v n xs) (hn : 0 < n) : ∃ g cap, v = .slice (some ⟨g, 0, none⟩) n cap ∧ base ≤ g ∧ n ≤ cap ∧ cap ≤ maxLen ∧ w.rangeAt g 0 xs := by
  obtain ⟨h1, ⟨-, h2⟩ | ⟨g, cap, cur, rfl, hg, hh, h3, h4, h5, h6⟩⟩ := h
  · omega
  · refine ⟨g, cap, rfl, hg, h3, h4, fun j v hv => ?_⟩
    rw [cell_of_row w g _ _ _ _ hh]
    rw [← h6] at hv
    rw [List.getElem?_take] at hv
    split at hv
    · simpa using hv
    · cases hv
/-- What holds at a round's beginning. -/
def ExJ (N : Nat) (ov lv iv : Value) (wr : World) : Prop :=
  (iv = .int .i64 1 ∧ ov = .slice none 0 0 ∧ lv = .slice none 0 0) ∨ (iv = .int .i64 2 ∧ ∃ g cap, ov = .slice (some ⟨g, 0, none⟩) 32 cap ∧ 32 ≤ cap ∧ cap ≤ maxLen ∧ wr.rangeAt g 0 (bytn 32 N))
set_option maxHeartbeats 4000000 in
set_option maxRecDepth 100000 in
theorem expand_any (s : Nat) (a : Option Addr) (cap : Nat) (info : List UInt8) (w : World) (hs : Sl w (.slice a info.length cap) (u8s info)) :
    Calls Tryz.prog 178 #[.agg (bytn 32 s).toArray, .slice a info.length cap, .int .i64 32] w fun e w' =>
      ∃ g, e = .returned (.tuple #[.slice (some ⟨g, 0, none⟩) 32 32, .int .i64 0]) ∧ w'.rangeAt g 0 (bytn 32 (keyN s info)) ∧ Below w.heap.size w w' := by
  obtain ⟨N, hN⟩ : ∃ N, keyN s info = N := ⟨_, rfl⟩
  have cm := Lib.hid (show ∀ w a2 d, Sl w (.slice a2 32 32) (u8s (nb 32 s)) → Sls w (.slice d 3 3) [[], info, [1]] → Calls Tryz.prog 157 #[.slice a2 32 32, .slice d 3 3] w fun e w' => e = .returned (.agg (bytn 32 N).toArray) ∧ Below w.heap.size w w' from fun w a2 d h1 h2 => by
    have q := macsum_any a2 d 32 3 (nb 32 s) [[], info, [1]] (by simp) w (by rw [nb_len]; exact h1) h2
    rw [nb_len, show ([[], info, [1]] : List (List UInt8)).flatten = info ++ [1] by simp] at q
    rw [← hN]
    exact q)
  rw [hN]
  obtain ⟨n0, hn0⟩ : ∃ n, info.length = n := ⟨_, rfl⟩
  rw [hn0] at hs ⊢
  replace hs := Lib.hid hs
  clear hN hn0
  go_enter Tryz.func178, Tryz.ntmps178
  go_upto_region 1 with fail
  refine wp_new1 (fun wA hsz k3 kb => ?_)
  replace k3 : Arr wA w.heap.size (bytn 32 s) := k3
  obtain ⟨g3, hg3⟩ : ∃ g, w.heap.size = g := ⟨_, rfl⟩
  rw [hg3] at k3 ⊢
  clear hsz hg3
  replace hs := Lib.hid (hs.out.below kb)
  have h0 : ExJ N (.slice none 0 0) (.slice none 0 0) (.int .i64 1) wA := .inl ⟨rfl, rfl, rfl⟩
  replace h0 := Lib.hid h0
  go_wp2_with fail
  go_loopw [8, 9, 10] (fun ov lv iv wr => ExJ N ov lv iv wr ∧ Arr wr g3 (bytn 32 s) ∧ Sl wr (.slice a n0 cap) (u8s info) ∧ Below w.heap.size w wr) (fun _ _ iv _ => (2 - intOf iv).toNat)
  case atStart => exact ⟨h0.out, k3, hs.out, kb⟩
  case round =>
  clear k3 hs kb h0
  obtain ⟨hJ, k3, hs, kb⟩ := hrel
  have hw0 := kb.size
  rcases hJ with ⟨rfl, rfl, rfl⟩ | ⟨rfl, g, cp, rfl, hc1, hc2, hrg⟩
  · rw [nb_u8s] at k3
    have h3 := Sl.ofArrN k3 (nb_len 32 s) (by decide)
    have hS : Sls ((wr.alloc (.cells #[.int .u8 1] 5)).alloc (.cells #[.slice none 0 0, .slice a n0 cap, .slice (some ⟨wr.heap.size, 0, none⟩) 1 1] 26)) (.slice (some ⟨wr.heap.size + 1, 0, none⟩) 3 3) [[], info, [1]] := by
      have q := Sls.new3 (b1 := []) (b3 := [1]) (Sl.nil _) (hs.alloc (.cells #[.int .u8 1] 5)) (Sl.new1 wr (.int .u8 1) 5) 26
      rw [show (wr.alloc (.cells #[.int .u8 1] 5)).heap.size = wr.heap.size + 1 by simp] at q
      exact q
    have hcc := Lib.hid (cm.out _ _ _ ((h3.alloc _).alloc _) hS)
    have hb0 : Below wr.heap.size wr ((wr.alloc (.cells #[.int .u8 1] 5)).alloc (.cells #[.slice none 0 0, .slice a n0 cap, .slice (some ⟨wr.heap.size, 0, none⟩) 1 1] 26)) := (below_alloc _ _).alloc (by simp) _
    replace hs := Lib.hid hs
    clear hS h3
    go_wp2_with fail
    refine hcc.out.mono ?_
    rintro e wB ⟨rfl, hb⟩
    have hb1 := bel hb0 hb
    rw [← nb_u8s] at k3
    replace k3 := k3.below hb1
    replace hs := Lib.hid (hs.out.below hb1)
    replace kb := bel kb hb1
    clear hb hb0 hb1 hcc cm
    go_upto_region 8 with (refine wpl_storeG rfl _ _ _ rfl _ (bytn 32 N) rfl rfl _ (Arr.new _ _ _) (by rw [bytn_len]; kernel_rfl) (by rw [bytn_len]; rfl) (bytn_one _ _) (fun wC k11 hg hsz => ?_))
    have hb := below_fresh hg
    replace k3 := k3.below hb
    replace hs := Lib.hid (hs.out.below hb)
    replace kb := bel kb hb
    have hsC : w.heap.size ≤ wC.heap.size := kb.size
    obtain ⟨g11, hg11⟩ : ∃ g, wB.heap.size = g := ⟨_, rfl⟩
    rw [hg11] at k11 ⊢
    clear hb hsz hg hg11
    obtain ⟨i, hi, hz0, hz1, hz2⟩ := info_parts info_u8
    have h11 : Hid (Sl wC (.slice (some ⟨g11, 0, none⟩) 32 32) (bytn 32 N)) := Lib.hid (by rw [nb_u8s] at k11 ⊢; exact Sl.ofArrN k11 (nb_len 32 N) (by decide))
    have hone := Lib.hid (bytn_one 32 N)
    have hbl := Lib.hid (bytn_len 32 N)
    clear k11
    go_wp2_with (at_builtin; refine wpList_append_sl rfl _ _ 26 rfl wC.heap.size 5 Tryz.underlying26 hi hz0 hz1 hz2 rfl _ _ _ rfl (World.ownsRow_nil _ _ _ _) _ (bytn 32 N) rfl h11.out hone.out ?c2 ?c3 (Nat.le_refl _) (fun v' wD hown hg => ?_))
    case c2 => rw [hbl.out]; decide
    case c3 => rw [hbl.out]; decide
    rw [hbl.out] at hown
    obtain ⟨go, cpo, rfl, hgo, hco1, hco2, hro⟩ := own_range hown (by decide)
    have hbD : Below wC.heap.size wC wD := below_grown (Below.refl _ _) (World.ownsRow_nil _ _ 5 1) (Nat.le_refl _) hg
    replace k3 := k3.below hbD
    replace hs := hs.out.below hbD
    replace kb := bel kb hbD
    clear hown hg hbD h11
    go_wp2_with fail
    exact ⟨⟨.inr ⟨rfl, go, cpo, rfl, hco1, hco2, hro⟩, k3, hs, kb⟩, by simp [intOf]⟩
  · clear cm hs k3
    unfold maxLen at hc2
    replace hrg := Lib.hid hrg
    have hci : (32 : Int) ≤ (cp : Int) := by omega
    go_wp2_with fail
    go_ret2
    exact ⟨g, rfl, hrg.out, kb⟩
/-- '[]byte(s)' of a string. -/
theorem conv_str (w : World) (str : ByteArray) (hl : str.size ≤ maxLen) : ∃ c w', (convert 9 26 (.string str)).run Tryz.prog w = .ok (.slice (some ⟨w.heap.size, 0, none⟩) str.size c) w' ∧
    Sl w' (.slice (some ⟨w.heap.size, 0, none⟩) str.size c) (u8s str.data.toList) ∧ Below w.heap.size w w' := by
  have hr := run_bytes_of_string (P := Tryz.prog) w 9 26 5 str Tryz.underlying9 Tryz.underlying26 Tryz.underlying5
  have h1 := grownCap_ge w str.size 0 5
  have h2 := grownCap_le_maxLen w str.size 0 5 hl
  obtain ⟨c, hc⟩ : ∃ c, grownCap w str.size 0 5 = c := ⟨_, rfl⟩
  rw [hc] at hr h1 h2
  have hsz : str.data.toList.length = str.size := by simp
  refine ⟨_, _, hr, ⟨_, c, by rw [u8s_len, hsz], by rw [u8s_len, hsz]; exact h1, h2, fun h => (by cases h), fun x hx => ?_⟩, (Below.refl _ _).drew.alloc (Nat.le_refl _) _⟩
  cases hx
  intro j u hu
  rw [Addr.add_lit, Nat.zero_add]
  have hj : j < str.size := by
    have := (List.getElem?_eq_some_iff.1 hu).1
    rwa [u8s_len, hsz] at this
  have e : (w.drew.alloc (.cells (bytesRow str c) 5 ((bytesRow str c).size, (bytesRow str c).size + 1))).heap[w.heap.size]? = some (.cells (bytesRow str c) 5 ((bytesRow str c).size, (bytesRow str c).size + 1)) := by
    show (w.heap.push _)[w.heap.size]? = _
    simp
  rw [cell_of_row _ _ _ _ _ _ e, ← hu]
  simp [bytesRow, u8s, Array.getElem?_append]
  intro h
  omega
set_option maxHeartbeats 4000000 in
set_option maxRecDepth 100000 in
theorem key_any (s : Nat) (str : ByteArray) (hsz : str.size ≤ maxLen) (w : World) :
    Calls Tryz.prog 156 #[.agg (bytn 32 s).toArray, .string str] w fun e w' => e = .returned (.agg (bytn 32 (keyN s str.data.toList)).toArray) ∧ Below w.heap.size w w' := by
  have ce := Lib.hid (expand_any s)
  obtain ⟨L, hL⟩ : ∃ L, str.data.toList = L := ⟨_, rfl⟩
  obtain ⟨n, hn⟩ : ∃ n, str.size = n := ⟨_, rfl⟩
  have hLn : Hid (L.length = n) := Lib.hid (by rw [← hL, ← hn]; simp)
  have cv := Lib.hid (fun w => conv_str w str hsz)
  rw [hL, hn] at cv
  rw [hL]
  clear hL hn hsz
  go_enter Tryz.func156, Tryz.ntmps156
  go_upto_region 1 with fail
  refine wp_new2 (fun wA hsz k2 k4 kb => ?_)
  replace k2 : Arr wA w.heap.size (bytn 32 s) := k2
  replace k4 : Arr wA (w.heap.size + 1) (bytn 32 0) := k4
  obtain ⟨c, wB, hr, hS, hb⟩ := cv.out wA
  have hcc := ce.out _ c L wB (by rw [hLn.out]; exact hS)
  rw [hLn.out] at hcc
  replace hcc := Lib.hid hcc
  obtain ⟨g4, hg4⟩ : ∃ g, w.heap.size + 1 = g := ⟨_, rfl⟩
  rw [hg4] at k4 ⊢
  have hw4 : w.heap.size ≤ g4 := by omega
  clear hS ce hsz hg4
  go_wp2_with (refine wpList_load_arr2 rfl _ _ rfl _ rfl (by decide +kernel) _ k2 (by rw [bytn_len]; kernel_rfl) ?_)
  replace k4 := k4.below hb
  replace kb := bel kb hb
  clear hr k2 hb cv
  refine hcc.out.mono ?_
  rintro e wC ⟨g, rfl, hrg, hb⟩
  replace k4 := k4.below hb
  replace kb := bel kb hb
  clear hcc hb
  have hat : ∀ w, (Instr.arrayAt 23 (.slice (some ⟨g, 0, none⟩) 32 32)).run Tryz.prog w = .ok (.pointer (some ⟨g, 0, none⟩)) w := fun w => run_arrayAt w 23 5 32 _ 32 32 Tryz.underlying23 (by decide)
  go_wp2_with (first | (refine wpList_load_mid2 rfl _ _ rfl _ _ rfl (by kernel_rfl) _ hrg (by rw [bytn_len]; kernel_rfl) ?_) | (refine wpl_storeG rfl _ _ _ rfl g4 (bytn 32 (keyN s L)) rfl rfl _ k4 (by rw [bytn_len]; kernel_rfl) (by rw [bytn_len, bytn_len]) (bytn_one _ _) (fun w9 k4 hg hsz => ?_)))
  have qb := below_gr kb hg hw4 kb.size
  exact bodyPost_ret (results_arr2 Tryz.results156 _ _ _ rfl (by kernel_rfl) _ k4 (by rw [bytn_len]; kernel_rfl)) rfl ⟨rfl, qb⟩
end Go.Proofs.YtmlmggmnlgcbcaaGreat


namespace Go.Proofs.YtmlmggmnlgcbcaaGreat
open Go.RowKit
/-- An otp's cells. -/
def otv (x : Option Addr) (r s : Nat) (c m : Int) : List Value   := .pointer x :: (bytn 32 r ++ (bytn 32 s ++ [.int .i64 c, .int .i64 m]))
theorem otv_r {fv : Option Addr} {r s : Nat} {c m : Int} {j : Nat} (hj : j < (bytn 32 r).length) : (otv fv r s c m)[1 + j]? = (bytn 32 r)[j]? := by
  rw [otv, Nat.add_comm 1 j, List.getElem?_cons_succ, List.getElem?_append_left hj]
theorem otv_s {fv : Option Addr} {r s : Nat} {c m : Int} {j : Nat} (hj : j < (bytn 32 s).length) : (otv fv r s c m)[33 + j]? = (bytn 32 s)[j]? := by
  rw [otv, show 33 + j = (32 + j) + 1 by omega, List.getElem?_cons_succ, List.getElem?_append_right (by rw [bytn_len]; omega), bytn_len, show 32 + j - 32 = j by omega, List.getElem?_append_left hj]
theorem otv_c (fv : Option Addr) (r s : Nat) (c m : Int) : (otv fv r s c m)[65]? = some (.int .i64 c) ∧ (otv fv r s c m)[66]? = some (.int .i64 m) := by
  constructor
  · rw [otv, show (65 : Nat) = 64 + 1 from rfl, List.getElem?_cons_succ, List.getElem?_append_right (by rw [bytn_len]; omega), bytn_len, List.getElem?_append_right (by rw [bytn_len]; omega), bytn_len]; rfl
  · rw [otv, show (66 : Nat) = 65 + 1 from rfl, List.getElem?_cons_succ, List.getElem?_append_right (by rw [bytn_len]; omega), bytn_len, List.getElem?_append_right (by rw [bytn_len]; omega), bytn_len]; rfl
theorem otv_set (fv : Option Addr) (r s : Nat) (c m c' : Int) : (otv fv r s c m).set 65 (.int .i64 c') = otv fv r s c' m := by
  rw [otv, otv, show (65 : Nat) = 64 + 1 from rfl, List.set_cons_succ, List.set_append_right _ _ (by rw [bytn_len]; omega), bytn_len, List.set_append_right _ _ (by rw [bytn_len]; omega), bytn_len]; rfl
set_option maxHeartbeats 2000000 in
set_option maxRecDepth 100000 in
theorem onew_any (fv : Option Addr) (r s n : Nat) (h0 : 0 < n) (hn : n ≤ 1000000) (w : World) :
    Calls Tryz.prog 13 #[.pointer fv, .agg (bytn 32 r).toArray, .agg (bytn 32 s).toArray, .int .i64 (n : Int)] w fun e w' => ∃ q, e = .returned (.pointer (some ⟨q, 0, none⟩)) ∧ w.heap.size ≤ q ∧ Arr w' q (otv fv r s 0 (n : Int)) ∧ Below w.heap.size w w' := by
  have n0 : (0 : Int) < (n : Int) := by omega
  have n1 : (n : Int) ≤ 1000000 := by omega
  obtain ⟨X, hX⟩ : ∃ X, otv fv r s 0 (n : Int) = X := ⟨_, rfl⟩
  rw [hX]
  replace hX := Lib.hid hX
  go_enter Tryz.func13, Tryz.ntmps13
  go_upto_region 1 with fail
  refine wp_new2 (fun W hsz k5 k6 kb => ?_)
  replace k5 : Arr W w.heap.size (bytn 32 r) := k5
  replace k6 : Arr W (w.heap.size + 1) (bytn 32 s) := k6
  clear hsz
  go_wp2_with (first | (refine wpList_load_arr2 rfl _ _ rfl _ rfl (by decide +kernel) _ k5 (by rw [bytn_len]; kernel_rfl) ?_) | (refine wpList_load_arr2 rfl _ _ rfl _ rfl (by decide +kernel) _ k6 (by rw [bytn_len]; kernel_rfl) ?_) | (refine wpList_builta rfl _ _ rfl (otv fv r s 0 (n : Int)).toArray (by kernel_rfl) ?_; rw [hX.out]))
  go_ret
  exact ⟨_, rfl, kb.size, Arr.new _ _ _, bel kb (below_alloc _ _)⟩
set_option maxHeartbeats 1000000 in
set_option maxRecDepth 100000 in
theorem oroot_any (q : Nat) (fv : Option Addr) (r s : Nat) (c m : Int) (w : World) (k0 : Arr w q (otv fv r s c m)) :
    Calls Tryz.prog 34 #[.pointer (some ⟨q, 0, none⟩)] w fun e w' => e = .returned (.agg (bytn 32 r).toArray) ∧ Below w.heap.size w w' := by
  have hr : Hid (∀ w', Arr w' q (otv fv r s c m) → w'.rangeAt q 1 (bytn 32 r)) := Lib.hid (fun w' h => h.range (fun j hj => otv_r hj))
  go_enter Tryz.func34, Tryz.ntmps34
  go_upto_region 1 with fail
  refine wp_new1 (fun W hsz k2 kb => ?_)
  replace k2 : Arr W w.heap.size (bytn 32 0) := k2
  have hr1 := hr.out W (k0.below kb)
  clear hsz k0 hr
  go_wp2_with (first | (refine wpList_load_mid2 rfl _ _ rfl _ _ rfl (by kernel_rfl) _ hr1 (by rw [bytn_len]; kernel_rfl) ?_) | (refine wpl_storeG rfl _ _ _ rfl _ (bytn 32 r) rfl rfl _ k2 (by rw [bytn_len]; kernel_rfl) (by rw [bytn_len, bytn_len]) (bytn_one _ _) (fun w9 k2 hg hsz => ?_)))
  have qb := below_gr kb hg (Nat.le_refl _) kb.size
  exact bodyPost_ret (results_arr2 Tryz.results34 _ _ _ rfl (by kernel_rfl) _ k2 (by rw [bytn_len]; kernel_rfl)) rfl ⟨rfl, qb⟩
set_option maxHeartbeats 1000000 in
set_option maxRecDepth 100000 in
theorem osecret_any (q : Nat) (fv : Option Addr) (r s : Nat) (c m : Int) (w : World) (k0 : Arr w q (otv fv r s c m)) :
    Calls Tryz.prog 35 #[.pointer (some ⟨q, 0, none⟩)] w fun e w' => e = .returned (.agg (bytn 32 s).toArray) ∧ Below w.heap.size w w' := by
  have hr : Hid (∀ w', Arr w' q (otv fv r s c m) → w'.rangeAt q 33 (bytn 32 s)) := Lib.hid (fun w' h => h.range (fun j hj => otv_s hj))
  go_enter Tryz.func35, Tryz.ntmps35
  go_upto_region 1 with fail
  refine wp_new1 (fun W hsz k2 kb => ?_)
  replace k2 : Arr W w.heap.size (bytn 32 0) := k2
  have hr1 := hr.out W (k0.below kb)
  clear hsz k0 hr
  go_wp2_with (first | (refine wpList_load_mid2 rfl _ _ rfl _ _ rfl (by kernel_rfl) _ hr1 (by rw [bytn_len]; kernel_rfl) ?_) | (refine wpl_storeG rfl _ _ _ rfl _ (bytn 32 s) rfl rfl _ k2 (by rw [bytn_len]; kernel_rfl) (by rw [bytn_len, bytn_len]) (bytn_one _ _) (fun w9 k2 hg hsz => ?_)))
  have qb := below_gr kb hg (Nat.le_refl _) kb.size
  exact bodyPost_ret (results_arr2 Tryz.results35 _ _ _ rfl (by kernel_rfl) _ k2 (by rw [bytn_len]; kernel_rfl)) rfl ⟨rfl, qb⟩
set_option maxHeartbeats 1000000 in
theorem ocount_any (q : Nat) (fv : Option Addr) (r s : Nat) (c m : Int) (w : World) (k0 : Arr w q (otv fv r s c m)) :
    Calls Tryz.prog 20 #[.pointer (some ⟨q, 0, none⟩)] w fun e w' => e = .returned (.int .i64 c) ∧ w' = w := by
  have hc := k0.cell (otv_c fv r s c m).1
  clear k0
  go_enter Tryz.func20, Tryz.ntmps20
  go_wp2_with fail
  go_ret
  exact ⟨rfl, rfl⟩
set_option maxHeartbeats 1000000 in
theorem omost_any (q : Nat) (fv : Option Addr) (r s : Nat) (c m : Int) (w : World) (k0 : Arr w q (otv fv r s c m)) :
    Calls Tryz.prog 87 #[.pointer (some ⟨q, 0, none⟩)] w fun e w' => e = .returned (.int .i64 m) ∧ w' = w := by
  have hc := k0.cell (otv_c fv r s c m).2
  clear k0
  go_enter Tryz.func87, Tryz.ntmps87
  go_wp2_with fail
  go_ret
  exact ⟨rfl, rfl⟩
set_option maxHeartbeats 2000000 in
set_option maxRecDepth 100000 in
/-- The counter's step, where the power never fails. -/
theorem ostep_never (q p g r s c m : Nat) (F : Fl) (w : World) (k0 : Arr w q (otv (some ⟨p, 0, none⟩) r s c m)) (kf : FlAt w p g F) (hop : F.op = -1) (hd : F.dead = false) (hcm : c < m) (hm : m ≤ 1000000) (hqp : q ≠ p) (hqg : q ≠ g) :
    Calls Tryz.prog 89 #[.pointer (some ⟨q, 0, none⟩)] w fun e w' => e = .returned (.int .i64 0) ∧ Arr w' q (otv (some ⟨p, 0, none⟩) r s ((c + 1 : Nat) : Int) m) ∧ FlAt w' p g F ∧ Ch [p, q] w w' := by
  obtain ⟨e1, e2⟩ := otv_c (some ⟨p, 0, none⟩) r s c m
  have e0 : (otv (some ⟨p, 0, none⟩) r s c m)[0]? = some (.pointer (some ⟨p, 0, none⟩)) := rfl
  replace e0 := Lib.hid e0
  replace e1 := Lib.hid e1
  replace e2 := Lib.hid e2
  have hset := Lib.hid (otv_set (some ⟨p, 0, none⟩) r s (c : Int) m ((c + 1 : Nat) : Int))
  have hne : ((c : Int) == (m : Int)) = false := by simp; omega
  have hc1 : (c : Int) < 1000000 := by omega
  have hc0 : (0 : Int) ≤ (c : Int) := by omega
  clear hcm hm
  replace hop := Lib.hid hop
  replace hd := Lib.hid hd
  go_enter Tryz.func89, Tryz.ntmps89
  go_upto_region 1 with fail
  refine Tx.start (fun w' => Below (w).heap.size (w) w') 9999 10 rfl (by kernel_rfl) ?_
  have hS_1 : Below (w).heap.size (w) (World.drew w) := (Below.refl _ _).drew
  refine Tx.seg (A := ?_) 0 1023 (by kernel_rfl) (by exact hS_1) [0, 1, 2, 3, 4, 5, 6, 7, 8, 9] (by kernel_rfl) ?_ ?_
  rotate_left
  · intro w' hB
    have f1 := (k0.below hB).cell e1.out
    have f2 := (k0.below hB).cell e2.out
    iterate 10 (first | (refine rd_skip rfl rfl ?_; simp only [Act.put, List.setIfInBounds_toArray, List.set_cons_zero, List.set_cons_succ]) | (refine rd_load_arr rfl rfl _ _ rfl _ rfl (by decide +kernel) _ (by assumption) (by first | (rw [lims_len]; kernel_rfl) | (rw [el_rep]; kernel_rfl) | (rw [el_len]; kernel_rfl) | (rw [byts_len]; kernel_rfl) | (rw [us_len]; kernel_rfl) | (rw [bytn_len]; kernel_rfl) | (rw [ens_len, digs_len]; kernel_rfl) | kernel_rfl) ?_; simp only [Act.put, List.setIfInBounds_toArray, List.set_cons_zero, List.set_cons_succ]) | (refine rd_take (v := ?_) rfl rfl ?_ ?_; rotate_left; (focus (go_simp; try (with_reducible rfl))); simp only [Act.put, List.setIfInBounds_toArray, List.set_cons_zero, List.set_cons_succ]))
    exact rd_nil
  refine Tx.done (by kernel_rfl) ?_
  have hch := Ch.of_below (M := [p, q]) hS_1
  replace k0 := k0.below hS_1
  replace kf := kf.below hS_1
  clear hS_1 hne e2
  obtain ⟨wq, hwq⟩ : ∃ wq : World, w.drew = wq := ⟨_, rfl⟩
  rw [hwq] at k0 kf hch ⊢
  clear hwq
  have c1 := Lib.hid (fturn_never p g F wq kf hop.out hd.out)
  have h0 := k0.cell e0.out
  go_wp2_with fail
  refine c1.out.mono ?_
  rintro e w1 ⟨rfl, kf1, hc⟩
  replace k0 := k0.ch hc (by simp; exact hqp)
  replace hch := hch.trans (hc.mono (by simp))
  clear c1 hc h0 kf
  have h1 := k0.cell e1.out
  have h2 := k0.frozen 65
  go_wp2_with fail
  go_ret
  have k1 := k0.set 65 (.int .i64 ((c + 1 : Nat) : Int))
  rw [hset.out] at k1
  have hc2 : Ch [p, q] w1 (w1.setCell ⟨q, 65, none⟩ (.int .i64 ((c + 1 : Nat) : Int))) := Ch.of_gr (gr_cell _ q 65 _) (by simp)
  exact ⟨rfl, k1, kf1.ch (Ch.of_gr (M := [q]) (gr_cell _ q 65 _) (by simp)) (by simp; exact Ne.symm hqp) (by simp; exact Ne.symm hqg), hch.trans hc2⟩
end Go.Proofs.YtmlmggmnlgcbcaaGreat

