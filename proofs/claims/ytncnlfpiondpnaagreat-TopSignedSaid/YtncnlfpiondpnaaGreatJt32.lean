/- TopSigned: part 32 of its proof: lemmas and contracts, each with its conditions in its own statement; the last part holds the law itself. -/
import Derived.Test.YtncnlfpiondpnaaGreatJt31

set_option maxHeartbeats 4000000
set_option maxRecDepth 100000
namespace Go.Proofs.YtncnlfpiondpnaaGreat
open Go.RowKit
structure Ch (M : List Nat) (w w' : World) : Prop where
 os : w'.os = w.os
 tape : w'.tape = w.tape
 output : w'.output = w.output
 size : w.heap.size ≤ w'.heap.size
 block : ∀ k, k < w.heap.size → k ∉ M → w'.heap[k]? = w.heap[k]?
theorem Ch.refl (M : List Nat) (w : World) : Ch M w w := ⟨rfl, rfl, rfl, Nat.le_refl _, fun _ _ _ => rfl⟩
theorem Ch.trans {M : List Nat} {a b c : World} (h : Ch M a b) (k : Ch M b c) : Ch M a c :=
 ⟨k.os.trans h.os, k.tape.trans h.tape, k.output.trans h.output, Nat.le_trans h.size k.size, fun i hi hn => (k.block i (Nat.lt_of_lt_of_le hi h.size) hn).trans (h.block i hi hn)⟩
theorem Ch.mono {M M' : List Nat} {w w' : World} (h : Ch M w w') (hM : ∀ k, k ∈ M → k ∈ M') : Ch M' w w' := ⟨h.os, h.tape, h.output, h.size, fun k hk hn => h.block k hk (fun hm => hn (hM k hm))⟩
theorem Ch.of_below {M : List Nat} {w w' : World} (h : Below w.heap.size w w') : Ch M w w' := ⟨h.os, h.tape, h.output, h.size, fun k hk _ => h.block k hk⟩
theorem Ch.of_gr {M : List Nat} {g : Nat} {w w' : World} (h : w.grownBy w' (some g)) (hg : g ∈ M) : Ch M w w' := ⟨h.os, h.tape, h.output, h.size, fun k hk hn => h.block k hk (fun e => by injection e with e; subst e; exact hn hg)⟩
theorem Ch.to_below {M : List Nat} {B : Nat} {w0 w w' : World} (h0 : Below B w0 w) (h : Ch M w w') (hM : ∀ k, k ∈ M → B ≤ k) (hB : B ≤ w.heap.size) : Below B w0 w' :=
 h0.trans ⟨h.os, h.tape, h.output, h.size, fun k hk => h.block k (Nat.lt_of_lt_of_le hk hB) (fun hm => by have := hM k hm; omega)⟩
theorem Ch.drop {M M' : List Nat} {w0 w w' : World} (h0 : Ch M w0 w) (h : Ch M' w w') (hM : ∀ k, k ∈ M' → k ∈ M ∨ w0.heap.size ≤ k) : Ch M w0 w' :=
 ⟨h.os.trans h0.os, h.tape.trans h0.tape, h.output.trans h0.output, Nat.le_trans h0.size h.size, fun k hk hn => (h.block k (Nat.lt_of_lt_of_le hk h0.size) (fun hm => by rcases hM k hm with h1 | h1; exact hn h1; omega)).trans (h0.block k hk hn)⟩
theorem Arr.ch {M : List Nat} {w w' : World} {g : Nat} {xs : List Value} (h : Arr w g xs) (hc : Ch M w w') (hg : g ∉ M) : Arr w' g xs := by
 have := h.lt
 obtain ⟨T, h⟩ := h
 exact ⟨T, by rw [hc.block g this hg]; exact h⟩
theorem Sl.ch {M : List Nat} {w w' : World} {v : Value} {xs : List Value} (h : Sl w v xs) (hc : Ch M w w') (hv : ∀ a n c, v = .slice (some a) n c → a.block ∉ M) : Sl w' v xs := by
 obtain ⟨a, cap, rfl, h2, h3, h4, h5⟩ := h
 refine ⟨a, cap, rfl, h2, h3, h4, fun x hx j u hu => ?_⟩
 subst hx
 have h1 := h5 x rfl j u hu
 have hb := World.block_lt_of_cell? w (x.add j) h1
 have hbk : (x.add j).block = x.block := by unfold Addr.add; split <;> rfl
 rw [← h1]
 exact World.cell?_of_block (hc.block _ hb (by rw [hbk]; exact hv _ _ _ rfl))
structure Fl where
 b : List UInt8
 op : Int
 cut : Int
 dead : Bool
 er : Int
 pr : Int
def flv (g : Nat) (F : Fl) : List Value := [.slice (some ⟨g, 0, none⟩) F.b.length F.b.length, .int .i64 F.op, .int .i64 F.cut, .bool F.dead, .int .i64 F.er, .int .i64 F.pr]
structure FlAt (w : World) (p g : Nat) (F : Fl) : Prop where
 st : Arr w p (flv g F)
 bt : ∃ pad, Arr w g (u8s F.b ++ pad)
 ne : p ≠ g
 len : F.b.length ≤ 262144
 er : 0 ≤ F.er ∧ F.er ≤ 1099511627776
 pr : 0 ≤ F.pr ∧ F.pr ≤ 1099511627776
theorem FlAt.below {w w' : World} {p g : Nat} {F : Fl} (h : FlAt w p g F) (hb : Below w.heap.size w w') : FlAt w' p g F := by
 obtain ⟨h1, ⟨pad, h2⟩, h3, h4, h5, h6⟩ := h
 exact ⟨h1.below hb, ⟨pad, h2.below hb⟩, h3, h4, h5, h6⟩
theorem FlAt.ch {M : List Nat} {w w' : World} {p g : Nat} {F : Fl} (h : FlAt w p g F) (hc : Ch M w w') (hp : p ∉ M) (hg : g ∉ M) : FlAt w' p g F := by
 obtain ⟨h1, ⟨pad, h2⟩, h3, h4, h5, h6⟩ := h
 exact ⟨h1.ch hc hp, ⟨pad, h2.ch hc hg⟩, h3, h4, h5, h6⟩
theorem FlAt.lt {w : World} {p g : Nat} {F : Fl} (h : FlAt w p g F) : p < w.heap.size ∧ g < w.heap.size := by
 obtain ⟨h1, ⟨pad, h2⟩, -, -, -, -⟩ := h
 exact ⟨h1.lt, h2.lt⟩
theorem FlAt.set {w : World} {p g : Nat} {F F' : Fl} (h : FlAt w p g F) (j : Nat) (u : Value) (he : (flv g F).set j u = flv g F') (hb : F'.b = F.b) (he2 : F'.er = F.er := by rfl) (hp2 : F'.pr = F.pr := by rfl) : FlAt (w.setCell ⟨p, j, none⟩ u) p g F' ∧ Ch [p] w (w.setCell ⟨p, j, none⟩ u) := by
 obtain ⟨h1, ⟨pad, h2⟩, h3, h4, h5, h6⟩ := h
 refine ⟨⟨?_, ⟨pad, ?_⟩, h3, by rw [hb]; exact h4, by rw [he2]; exact h5, by rw [hp2]; exact h6⟩, Ch.of_gr (gr_cell w p j u) (by simp)⟩
 · rw [← he]
   exact h1.set j u
 · rw [hb]
   exact h2.other (a := ⟨p, j, none⟩) (Ne.symm h3) u
def Fl.new (n : Nat) : Fl := ⟨List.replicate (n * 256) 255, -1, 0, false, 0, 0⟩
theorem fnew_any (n : Nat) (hn : n ≤ 1024) (w : World) :
 Calls Tryz.prog 12 #[.int .i64 (n : Int)] w fun e w' => ∃ p g, e = .returned (.pointer (some ⟨p, 0, none⟩)) ∧ w.heap.size ≤ p ∧ w.heap.size ≤ g ∧ FlAt w' p g (Fl.new n) ∧ Below w.heap.size w w' := by
 have c1 := zH (show Calls Tryz.prog 43 #[.slice (some ⟨w.heap.size, 0, none⟩) 1 1, .int .i64 ((n * 256 : Nat) : Int)] (w.alloc (.cells #[.int .u8 255] 5)) _ from repeat_all (some ⟨w.heap.size, 0, none⟩) 255 (n * 256) zOm _ (Sl.new1 w (.int .u8 255) _))
 by_cases hz : n = 0
 · subst hz
   go_enter Tryz.func12, Tryz.ntmps12
   go_wp2_with fail
   refine (show Calls Tryz.prog 43 #[.slice (some ⟨w.heap.size, 0, none⟩) 1 1, .int .i64 0] (w.alloc (.cells #[.int .u8 255] 5)) _ from c1.out).mono ?_
   rintro e w1 ⟨g, pad, rfl, hg, kg, hb⟩
   have kb := bel (below_alloc w _) hb
   clear hb c1
   go_wp2_with fail
   go_ret
   exact ⟨w1.heap.size, g, rfl, kb.size, by simp at hg; omega, ⟨Arr.new _ _ _, ⟨pad, kg.alloc _⟩, by have := kg.lt; omega, by decide, by decide, by decide⟩, bel kb (below_alloc _ _)⟩
 have n0 : (0 : Int) < (n : Int) := by omega
 have n1 : (n : Int) ≤ 1024 := by omega
 have hlen : Hid (n * 256 = (Fl.new n).b.length) := zH (by simp [Fl.new])
 have hb : Hid ((Fl.new n).b = List.replicate (n * 256) 255) := zH rfl
 obtain ⟨F, hF⟩ : ∃ F, Fl.new n = F := ⟨_, rfl⟩
 have hFe : Hid (F = ⟨F.b, -1, 0, false, 0, 0⟩) := zH (by rw [← hF]; rfl)
 have hFl : Hid (F.b.length ≤ 262144) := zH (by rw [← hF]; simp [Fl.new]; omega)
 rw [hF] at hlen hb ⊢
 obtain ⟨m, hm⟩ : ∃ m, n * 256 = m := ⟨_, rfl⟩
 have hmI : (n : Int) * 256 = (m : Int) := by omega
 rw [hm] at c1 hlen hb
 clear hm hn hz hF
 go_enter Tryz.func12, Tryz.ntmps12
 go_wp2_with fail
 refine c1.out.mono ?_
 rintro e w1 ⟨g, pad, rfl, hg, kg, hb1⟩
 have kb := bel (below_alloc w _) hb1
 clear hb1 c1
 go_wp2_with fail
 go_ret
 refine ⟨w1.heap.size, g, rfl, kb.size, by simp at hg; omega, ⟨?_, ⟨pad, ?_⟩, by have := kg.lt; omega, hFl.out, by rw [hFe.out]; simp, by rw [hFe.out]; simp⟩, bel kb (below_alloc _ _)⟩
 · have q := Arr.new w1 #[.slice (some ⟨g, 0, none⟩) m m, .int .i64 (-1), .int .i64 0, .bool false, .int .i64 0, .int .i64 0] 104
   have e : flv g F = [.slice (some ⟨g, 0, none⟩) m m, .int .i64 (-1), .int .i64 0, .bool false, .int .i64 0, .int .i64 0] := by
    rw [hFe.out, flv, ← hlen.out]
   rw [e]
   exact q
 · rw [hb.out]
   exact kg.alloc _
theorem fsize_any (p g : Nat) (F : Fl) (w : World) (k0 : FlAt w p g F) : Calls Tryz.prog 44 #[.pointer (some ⟨p, 0, none⟩)] w fun e w' => e = .returned (.int .i64 ((F.b.length / 256 : Nat) : Int)) ∧ w' = w := by
 obtain ⟨⟨v0, v1, v2, v3, v4, v5⟩, ⟨f0, f1, f2, f3, f4, f5⟩⟩ : (w.cell? ⟨p, 0, none⟩ = some (.slice (some ⟨g, 0, none⟩) F.b.length F.b.length) ∧ w.cell? ⟨p, 1, none⟩ = some (.int .i64 F.op) ∧ w.cell? ⟨p, 2, none⟩ = some (.int .i64 F.cut) ∧ w.cell? ⟨p, 3, none⟩ = some (.bool F.dead) ∧ w.cell? ⟨p, 4, none⟩ = some (.int .i64 F.er) ∧ w.cell? ⟨p, 5, none⟩ = some (.int .i64 F.pr)) ∧
  (w.frozen? ⟨p, 0, none⟩ = false ∧ w.frozen? ⟨p, 1, none⟩ = false ∧ w.frozen? ⟨p, 2, none⟩ = false ∧ w.frozen? ⟨p, 3, none⟩ = false ∧ w.frozen? ⟨p, 4, none⟩ = false ∧ w.frozen? ⟨p, 5, none⟩ = false) :=
  ⟨⟨k0.st.cell (j := 0) rfl, k0.st.cell (j := 1) rfl, k0.st.cell (j := 2) rfl, k0.st.cell (j := 3) rfl, k0.st.cell (j := 4) rfl, k0.st.cell (j := 5) rfl⟩, ⟨k0.st.frozen _, k0.st.frozen _, k0.st.frozen _, k0.st.frozen _, k0.st.frozen _, k0.st.frozen _⟩⟩
 have hl := k0.len
 obtain ⟨L, hL⟩ : ∃ L, F.b.length = L := ⟨_, rfl⟩
 rw [hL] at v0 hl ⊢
 have fq : (L : Int) / 256 = ((L / 256 : Nat) : Int) := by omega
 have hq : (L : Int) ≤ 262144 := by omega
 obtain ⟨q, hq2⟩ : ∃ q, L / 256 = q := ⟨_, rfl⟩
 rw [hq2] at fq ⊢
 clear hq2 hL k0 v1 v2 v3 v4 v5 f0 f1 f2 f3 f4 f5
 go_enter Tryz.func44, Tryz.ntmps44
 go_wp2_with fail
 go_ret
 exact ⟨rfl, rfl⟩
theorem fdead_any (p g : Nat) (F : Fl) (w : World) (k0 : FlAt w p g F) : Calls Tryz.prog 52 #[.pointer (some ⟨p, 0, none⟩)] w fun e w' => e = .returned (.bool F.dead) ∧ w' = w := by
 obtain ⟨⟨v0, v1, v2, v3, v4, v5⟩, ⟨f0, f1, f2, f3, f4, f5⟩⟩ : (w.cell? ⟨p, 0, none⟩ = some (.slice (some ⟨g, 0, none⟩) F.b.length F.b.length) ∧ w.cell? ⟨p, 1, none⟩ = some (.int .i64 F.op) ∧ w.cell? ⟨p, 2, none⟩ = some (.int .i64 F.cut) ∧ w.cell? ⟨p, 3, none⟩ = some (.bool F.dead) ∧ w.cell? ⟨p, 4, none⟩ = some (.int .i64 F.er) ∧ w.cell? ⟨p, 5, none⟩ = some (.int .i64 F.pr)) ∧
  (w.frozen? ⟨p, 0, none⟩ = false ∧ w.frozen? ⟨p, 1, none⟩ = false ∧ w.frozen? ⟨p, 2, none⟩ = false ∧ w.frozen? ⟨p, 3, none⟩ = false ∧ w.frozen? ⟨p, 4, none⟩ = false ∧ w.frozen? ⟨p, 5, none⟩ = false) :=
  ⟨⟨k0.st.cell (j := 0) rfl, k0.st.cell (j := 1) rfl, k0.st.cell (j := 2) rfl, k0.st.cell (j := 3) rfl, k0.st.cell (j := 4) rfl, k0.st.cell (j := 5) rfl⟩, ⟨k0.st.frozen _, k0.st.frozen _, k0.st.frozen _, k0.st.frozen _, k0.st.frozen _, k0.st.frozen _⟩⟩
 obtain ⟨d, hd⟩ : ∃ d, F.dead = d := ⟨_, rfl⟩
 rw [hd] at v3 ⊢
 clear hd k0 v0 v1 v2 v4 v5 f0 f1 f2 f3 f4 f5
 go_enter Tryz.func52, Tryz.ntmps52
 go_wp2_with fail
 go_ret
 exact ⟨rfl, rfl⟩
theorem fis_yes (p g i n : Nat) (F : Fl) (w : World) (k0 : FlAt w p g F) (h : i + n ≤ F.b.length) : Calls Tryz.prog 209 #[.pointer (some ⟨p, 0, none⟩), .int .i64 (i : Int), .int .i64 (n : Int)] w fun e w' => e = .returned (.bool true) ∧ w' = w := by
 obtain ⟨⟨v0, v1, v2, v3, v4, v5⟩, ⟨f0, f1, f2, f3, f4, f5⟩⟩ : (w.cell? ⟨p, 0, none⟩ = some (.slice (some ⟨g, 0, none⟩) F.b.length F.b.length) ∧ w.cell? ⟨p, 1, none⟩ = some (.int .i64 F.op) ∧ w.cell? ⟨p, 2, none⟩ = some (.int .i64 F.cut) ∧ w.cell? ⟨p, 3, none⟩ = some (.bool F.dead) ∧ w.cell? ⟨p, 4, none⟩ = some (.int .i64 F.er) ∧ w.cell? ⟨p, 5, none⟩ = some (.int .i64 F.pr)) ∧
  (w.frozen? ⟨p, 0, none⟩ = false ∧ w.frozen? ⟨p, 1, none⟩ = false ∧ w.frozen? ⟨p, 2, none⟩ = false ∧ w.frozen? ⟨p, 3, none⟩ = false ∧ w.frozen? ⟨p, 4, none⟩ = false ∧ w.frozen? ⟨p, 5, none⟩ = false) :=
  ⟨⟨k0.st.cell (j := 0) rfl, k0.st.cell (j := 1) rfl, k0.st.cell (j := 2) rfl, k0.st.cell (j := 3) rfl, k0.st.cell (j := 4) rfl, k0.st.cell (j := 5) rfl⟩, ⟨k0.st.frozen _, k0.st.frozen _, k0.st.frozen _, k0.st.frozen _, k0.st.frozen _, k0.st.frozen _⟩⟩
 have hl := k0.len
 obtain ⟨L, hL⟩ : ∃ L, F.b.length = L := ⟨_, rfl⟩
 rw [hL] at v0 hl h
 have i0 : (0 : Int) ≤ (i : Int) := by omega
 have n0 : (0 : Int) ≤ (n : Int) := by omega
 have h1 : (i : Int) ≤ (L : Int) := by omega
 have h2 : (n : Int) ≤ (L : Int) - (i : Int) := by omega
 have h3 : i ≤ L := by omega
 clear hL k0 v1 v2 v3 v4 v5 f0 f1 f2 f3 f4 f5
 have hq : (L : Int) ≤ 262144 := by omega
 go_enter Tryz.func209, Tryz.ntmps209
 go_wp2_with fail
 go_ret
 exact ⟨rfl, rfl⟩
theorem fop_never (p g n : Nat) (F : Fl) (w : World) (k0 : FlAt w p g F) (h : F.op = -1) : Calls Tryz.prog 208 #[.pointer (some ⟨p, 0, none⟩), .int .i64 (n : Int)] w fun e w' => e = .returned (.tuple #[.int .i64 (n : Int), .bool true]) ∧ FlAt w' p g F ∧ Ch [p] w w' := by
 obtain ⟨⟨v0, v1, v2, v3, v4, v5⟩, ⟨f0, f1, f2, f3, f4, f5⟩⟩ : (w.cell? ⟨p, 0, none⟩ = some (.slice (some ⟨g, 0, none⟩) F.b.length F.b.length) ∧ w.cell? ⟨p, 1, none⟩ = some (.int .i64 F.op) ∧ w.cell? ⟨p, 2, none⟩ = some (.int .i64 F.cut) ∧ w.cell? ⟨p, 3, none⟩ = some (.bool F.dead) ∧ w.cell? ⟨p, 4, none⟩ = some (.int .i64 F.er) ∧ w.cell? ⟨p, 5, none⟩ = some (.int .i64 F.pr)) ∧
  (w.frozen? ⟨p, 0, none⟩ = false ∧ w.frozen? ⟨p, 1, none⟩ = false ∧ w.frozen? ⟨p, 2, none⟩ = false ∧ w.frozen? ⟨p, 3, none⟩ = false ∧ w.frozen? ⟨p, 4, none⟩ = false ∧ w.frozen? ⟨p, 5, none⟩ = false) :=
  ⟨⟨k0.st.cell (j := 0) rfl, k0.st.cell (j := 1) rfl, k0.st.cell (j := 2) rfl, k0.st.cell (j := 3) rfl, k0.st.cell (j := 4) rfl, k0.st.cell (j := 5) rfl⟩, ⟨k0.st.frozen _, k0.st.frozen _, k0.st.frozen _, k0.st.frozen _, k0.st.frozen _, k0.st.frozen _⟩⟩
 rw [h] at v1
 clear v0 v2 v3 v4 v5 f0 f2 f3 f4 f5
 have hset : (flv g F).set 1 (.int .i64 (-1)) = flv g F := by rw [flv, h]; rfl
 replace hset := zH hset
 replace k0 := zH k0
 clear h
 go_enter Tryz.func208, Tryz.ntmps208
 go_wp2_with fail
 go_ret2
 obtain ⟨k, hc⟩ := k0.out.set (F' := F) 1 (.int .i64 (-1)) hset.out rfl
 exact ⟨rfl, k, hc⟩
theorem fturn_never (p g : Nat) (F : Fl) (w : World) (k0 : FlAt w p g F) (h : F.op = -1) (hd : F.dead = false) : Calls Tryz.prog 175 #[.pointer (some ⟨p, 0, none⟩)] w fun e w' => e = .returned (.bool true) ∧ FlAt w' p g F ∧ Ch [p] w w' := by
 obtain ⟨⟨v0, v1, v2, v3, v4, v5⟩, ⟨f0, f1, f2, f3, f4, f5⟩⟩ : (w.cell? ⟨p, 0, none⟩ = some (.slice (some ⟨g, 0, none⟩) F.b.length F.b.length) ∧ w.cell? ⟨p, 1, none⟩ = some (.int .i64 F.op) ∧ w.cell? ⟨p, 2, none⟩ = some (.int .i64 F.cut) ∧ w.cell? ⟨p, 3, none⟩ = some (.bool F.dead) ∧ w.cell? ⟨p, 4, none⟩ = some (.int .i64 F.er) ∧ w.cell? ⟨p, 5, none⟩ = some (.int .i64 F.pr)) ∧
  (w.frozen? ⟨p, 0, none⟩ = false ∧ w.frozen? ⟨p, 1, none⟩ = false ∧ w.frozen? ⟨p, 2, none⟩ = false ∧ w.frozen? ⟨p, 3, none⟩ = false ∧ w.frozen? ⟨p, 4, none⟩ = false ∧ w.frozen? ⟨p, 5, none⟩ = false) :=
  ⟨⟨k0.st.cell (j := 0) rfl, k0.st.cell (j := 1) rfl, k0.st.cell (j := 2) rfl, k0.st.cell (j := 3) rfl, k0.st.cell (j := 4) rfl, k0.st.cell (j := 5) rfl⟩, ⟨k0.st.frozen _, k0.st.frozen _, k0.st.frozen _, k0.st.frozen _, k0.st.frozen _, k0.st.frozen _⟩⟩
 rw [hd] at v3
 have c1 := zH (show Calls Tryz.prog 208 #[.pointer (some ⟨p, 0, none⟩), .int .i64 0] w _ from fop_never p g 0 F w k0 h)
 clear v0 v1 v2 v4 v5 f0 f1 f2 f3 f4 f5 h hd k0
 go_enter Tryz.func175, Tryz.ntmps175
 go_wp2_with fail
 refine c1.out.mono ?_
 rintro e w1 ⟨rfl, k, hc⟩
 clear c1
 go_wp2_with fail
 go_ret
 exact ⟨rfl, k, hc⟩
theorem fread_any (p g i n : Nat) (F : Fl) (w : World) (k0 : FlAt w p g F) (hd : F.dead = false) (h : i + n ≤ F.b.length) (hi : i < F.b.length) : Calls Tryz.prog 206 #[.pointer (some ⟨p, 0, none⟩), .int .i64 (i : Int), .int .i64 (n : Int)] w fun e w' =>
 ∃ v, e = .returned (.tuple #[v, .bool true]) ∧ w'.ownsRow w.heap.size 5 1 v n (u8s ((F.b.drop i).take n)) ∧ Below w.heap.size w w' := by
 obtain ⟨⟨v0, v1, v2, v3, v4, v5⟩, ⟨f0, f1, f2, f3, f4, f5⟩⟩ : (w.cell? ⟨p, 0, none⟩ = some (.slice (some ⟨g, 0, none⟩) F.b.length F.b.length) ∧ w.cell? ⟨p, 1, none⟩ = some (.int .i64 F.op) ∧ w.cell? ⟨p, 2, none⟩ = some (.int .i64 F.cut) ∧ w.cell? ⟨p, 3, none⟩ = some (.bool F.dead) ∧ w.cell? ⟨p, 4, none⟩ = some (.int .i64 F.er) ∧ w.cell? ⟨p, 5, none⟩ = some (.int .i64 F.pr)) ∧
  (w.frozen? ⟨p, 0, none⟩ = false ∧ w.frozen? ⟨p, 1, none⟩ = false ∧ w.frozen? ⟨p, 2, none⟩ = false ∧ w.frozen? ⟨p, 3, none⟩ = false ∧ w.frozen? ⟨p, 4, none⟩ = false ∧ w.frozen? ⟨p, 5, none⟩ = false) :=
  ⟨⟨k0.st.cell (j := 0) rfl, k0.st.cell (j := 1) rfl, k0.st.cell (j := 2) rfl, k0.st.cell (j := 3) rfl, k0.st.cell (j := 4) rfl, k0.st.cell (j := 5) rfl⟩, ⟨k0.st.frozen _, k0.st.frozen _, k0.st.frozen _, k0.st.frozen _, k0.st.frozen _, k0.st.frozen _⟩⟩
 rw [hd] at v3
 have c1 := zH (fis_yes p g i n F w k0 h)
 have hl := k0.len
 have htl : ((F.b.drop i).take n).length = n := by rw [List.length_take, List.length_drop]; omega
 have hsl : Sl w (.slice (some ⟨g, i, none⟩) n (F.b.length - i)) (u8s ((F.b.drop i).take n)) := by
  obtain ⟨pad, kp⟩ := k0.bt
  refine Sl.of_part kp (by rw [u8s_len, htl]) zOm (by unfold maxLen; omega) (fun j hj => ?_)
  rw [u8s_len, htl] at hj
  rw [List.getElem?_append_left (by rw [u8s_len]; omega), u8s_get _ _ zOm, u8s_get _ _ (by rw [htl]; exact hj)]
  simp
 have c2 := zH (clone_any _ _ w hsl (by rw [htl]; omega))
 rw [htl] at c2
 obtain ⟨L, hL⟩ : ∃ L, F.b.length = L := ⟨_, rfl⟩
 rw [hL] at v0 hl h hi c2
 obtain ⟨X, hX⟩ : ∃ X, u8s ((F.b.drop i).take n) = X := ⟨_, rfl⟩
 rw [hX] at c2 ⊢
 have i0 : (0 : Int) ≤ (i : Int) := by omega
 have n0 : (0 : Int) ≤ (n : Int) := by omega
 have hin : (i : Int) + (n : Int) ≤ (L : Int) := by omega
 have hq : (L : Int) ≤ 262144 := by omega
 obtain ⟨m, hm⟩ : ∃ m, i + n = m := ⟨_, rfl⟩
 have hmI : (i : Int) + (n : Int) = (m : Int) := by omega
 have hmL : (m : Int) ≤ (L : Int) := by omega
 have him : (i : Int) ≤ (m : Int) := by omega
 have hm0 : (0 : Int) ≤ (m : Int) := by omega
 have hnL : ¬ L = i := by omega
 have hmi : m - i = n := by omega
 clear hL hX k0 v1 v2 v4 v5 f0 f1 f2 f3 f4 f5 hsl htl hd hm h hi hl hin
 go_enter Tryz.func206, Tryz.ntmps206
 go_wp2_with fail
 refine c1.out.mono ?_
 rintro e w2 ⟨rfl, hw⟩
 subst hw
 clear c1
 go_wp2_with fail
 refine c2.out.mono ?_
 rintro e w2 ⟨v, rfl, h1, h2, -⟩
 clear c2
 go_wp2_with fail
 go_ret2
 exact ⟨v, rfl, h1, h2⟩
def erB (b : List UInt8) (o : Nat) : Nat → List UInt8
 | 0 => b
 | j + 1 => (erB b o j).set (o + j) 255
theorem erB_len (b : List UInt8) (o : Nat) : ∀ j, (erB b o j).length = b.length
 | 0 => rfl
 | j + 1 => by rw [erB, List.length_set, erB_len b o j]
def prB (b : List UInt8) (o : Nat) (xs : List UInt8) : Nat → List UInt8
 | 0 => b
 | j + 1 => (prB b o xs j).set (o + j) ((prB b o xs j).getD (o + j) 0 &&& xs.getD j 0)
theorem prB_len (b : List UInt8) (o : Nat) (xs : List UInt8) : ∀ j, (prB b o xs j).length = b.length
 | 0 => rfl
 | j + 1 => by rw [prB, List.length_set, prB_len b o xs j]
theorem FlAt.byte {w : World} {p g : Nat} {F : Fl} (h : FlAt w p g F) (j : Nat) (x : UInt8) (hj : j < F.b.length) : FlAt (w.setCell ⟨g, j, none⟩ (.int .u8 (x.toNat : Int))) p g { F with b := F.b.set j x } ∧ Ch [p, g] w (w.setCell ⟨g, j, none⟩ (.int .u8 (x.toNat : Int))) := by
 obtain ⟨h1, ⟨pad, h2⟩, h3, h4, h5, h6⟩ := h
 refine ⟨⟨?_, ⟨pad, ?_⟩, h3, by rw [List.length_set]; exact h4, h5, h6⟩, Ch.of_gr (gr_cell w g j _) (by simp)⟩
 · have e : flv g { F with b := F.b.set j x } = flv g F := by simp [flv]
   rw [e]
   exact h1.other (a := ⟨g, j, none⟩) h3 _
 · have := h2.set j (.int .u8 (x.toNat : Int))
   rw [List.set_append_left _ _ (by rw [u8s_len]; exact hj)] at this
   have e : (u8s F.b).set j (.int .u8 (x.toNat : Int)) = u8s (F.b.set j x) := by simp [u8s, List.map_set]
   rwa [e] at this
theorem FlAt.cellb {w : World} {p g : Nat} {F : Fl} (h : FlAt w p g F) (j : Nat) (hj : j < F.b.length) : w.cell? ⟨g, j, none⟩ = some (.int .u8 ((F.b[j]).toNat : Int)) ∧ w.frozen? ⟨g, j, none⟩ = false := by
 obtain ⟨-, ⟨pad, h2⟩, -, -, -, -⟩ := h
 exact ⟨h2.cell (by rw [List.getElem?_append_left (by rw [u8s_len]; exact hj), u8s_get _ _ hj]), h2.frozen _⟩
theorem FlAt.v0 {w : World} {p g : Nat} {F : Fl} (h : FlAt w p g F) : w.cell? ⟨p, 0, none⟩ = some (.slice (some ⟨g, 0, none⟩) F.b.length F.b.length) := h.st.cell (j := 0) rfl
theorem ferase_never (p g s : Nat) (F : Fl) (w : World) (k0 : FlAt w p g F) (hop : F.op = -1) (hd : F.dead = false) (hs : 256 * s + 256 ≤ F.b.length) :
 Calls Tryz.prog 177 #[.pointer (some ⟨p, 0, none⟩), .int .i64 (s : Int)] w fun e w' => e = .returned (.bool true) ∧ (∃ er, FlAt w' p g { F with b := erB F.b (256 * s) 256, er := er }) ∧ Ch [p, g] w w' := by
 obtain ⟨⟨v0, v1, v2, v3, v4, v5⟩, ⟨f0, f1, f2, f3, f4, f5⟩⟩ : (w.cell? ⟨p, 0, none⟩ = some (.slice (some ⟨g, 0, none⟩) F.b.length F.b.length) ∧ w.cell? ⟨p, 1, none⟩ = some (.int .i64 F.op) ∧ w.cell? ⟨p, 2, none⟩ = some (.int .i64 F.cut) ∧ w.cell? ⟨p, 3, none⟩ = some (.bool F.dead) ∧ w.cell? ⟨p, 4, none⟩ = some (.int .i64 F.er) ∧ w.cell? ⟨p, 5, none⟩ = some (.int .i64 F.pr)) ∧
  (w.frozen? ⟨p, 0, none⟩ = false ∧ w.frozen? ⟨p, 1, none⟩ = false ∧ w.frozen? ⟨p, 2, none⟩ = false ∧ w.frozen? ⟨p, 3, none⟩ = false ∧ w.frozen? ⟨p, 4, none⟩ = false ∧ w.frozen? ⟨p, 5, none⟩ = false) :=
  ⟨⟨k0.st.cell (j := 0) rfl, k0.st.cell (j := 1) rfl, k0.st.cell (j := 2) rfl, k0.st.cell (j := 3) rfl, k0.st.cell (j := 4) rfl, k0.st.cell (j := 5) rfl⟩, ⟨k0.st.frozen _, k0.st.frozen _, k0.st.frozen _, k0.st.frozen _, k0.st.frozen _, k0.st.frozen _⟩⟩
 rw [hd] at v3
 have c1 := zH (fsize_any p g F w k0)
 have c2 := zH (show Calls Tryz.prog 208 #[.pointer (some ⟨p, 0, none⟩), .int .i64 256] w _ from fop_never p g 256 F w k0 hop)
 have hl := k0.len
 have s0 : (0 : Int) ≤ (s : Int) := by omega
 have s1 : (s : Int) < ((F.b.length / 256 : Nat) : Int) := by omega
 obtain ⟨q, hq⟩ : ∃ q, F.b.length / 256 = q := ⟨_, rfl⟩
 rw [hq] at c1 s1
 obtain ⟨o, ho⟩ : ∃ o, 256 * s = o := ⟨_, rfl⟩
 rw [ho] at hs ⊢
 have hoI : (s : Int) * 256 = (o : Int) := by omega
 have o0 : (0 : Int) ≤ (o : Int) := by omega
 have o1 : (o : Int) ≤ 261888 := by omega
 have hsH := zH hs
 have s2 : (s : Int) ≤ 1024 := by omega
 clear ho hq v0 v1 v2 v4 v5 f0 f1 f2 f3 f4 f5 k0 hd hs hl
 replace hop := zH hop
 go_enter Tryz.func177, Tryz.ntmps177
 go_wp2_with fail
 refine c1.out.mono ?_
 rintro e w1 ⟨rfl, hw⟩
 obtain rfl : w = w1 := hw.symm
 clear c1
 go_wp2_with fail
 refine c2.out.mono ?_
 rintro e w2 ⟨rfl, k0, hc⟩
 replace hc : Ch [p, g] w w2 := hc.mono (by simp)
 have hw0 := k0.lt
 clear c2
 go_wp2_with fail
 go_loopw [31] (fun iv wr => ∃ i : Nat, i ≤ 256 ∧ iv = .int .i64 i ∧ FlAt wr p g { F with b := erB F.b o i } ∧ Ch [p, g] w wr) (fun iv _ => 256 - (intOf iv).toNat)
 case atStart => exact ⟨0, by omega, rfl, k0, hc⟩
 case round =>
 clear k0 hc
 obtain ⟨i, hi, rfl, k0, hc⟩ := hrel
 have hi0 : (0 : Int) ≤ (i : Int) := by omega
 by_cases hin : i < 256
 · have hi1 : (i : Int) < 256 := by omega
   have hv0 := k0.v0
   rw [show ({ F with b := erB F.b o i } : Fl).b.length = F.b.length from erB_len _ _ _] at hv0
   obtain ⟨hcb, hfb⟩ := k0.cellb (o + i) (by show o + i < (erB F.b o i).length; rw [erB_len]; have := hsH.out; omega)
   generalize ((({ F with b := erB F.b o i } : Fl).b)[o + i]'_).toNat = y at hcb
   obtain ⟨L, hL⟩ : ∃ L, F.b.length = L := ⟨_, rfl⟩
   rw [hL] at hv0
   have hoi : (o : Int) + (i : Int) < (L : Int) := by have := hsH.out; omega
   obtain ⟨m, hm⟩ : ∃ m, o + i = m := ⟨_, rfl⟩
   have hmI : (o : Int) + (i : Int) = (m : Int) := by omega
   have hm0 : (0 : Int) ≤ (m : Int) := by omega
   have hm1 : (m : Int) < (L : Int) := by omega
   rw [hm] at hcb hfb
   have hLH := zH hL
   have hmH := zH hm
   clear hL hm
   go_wp2_with fail
   obtain ⟨k1, hc1⟩ := k0.byte m 255 (by show m < (erB F.b o i).length; rw [erB_len, hLH.out]; omega)
   have e1 : ({ F with b := (erB F.b o i).set m 255 } : Fl) = { F with b := erB F.b o (i + 1) } := by rw [erB, hmH.out]
   exact ⟨⟨i + 1, by omega, by go_num, by rw [← e1]; exact k1, hc.trans hc1⟩, by simp [intOf]; omega⟩
 · have dj : decide ((i : Int) < 256) = false := decide_eq_false zOm
   have hie : Hid (i = 256) := zH zOm
   rw [hie.out] at k0
   obtain ⟨G, hG⟩ : ∃ G : Fl, ({ F with b := erB F.b o 256 } : Fl) = G := ⟨_, rfl⟩
   have hv4 := k0.st.cell (j := 4) rfl
   have hf4 := k0.st.frozen 4
   have hE := k0.er
   rw [hG] at k0 hv4 hE
   obtain ⟨E, hEe⟩ : ∃ E, G.er = E := ⟨_, rfl⟩
   rw [hEe] at hv4 hE
   obtain ⟨hE0, hE1⟩ := hE
   have hGe : Hid (∀ er, ({ F with b := erB F.b o 256, er := er } : Fl) = { G with er := er }) := zH (fun er => by rw [← hG])
   replace hEe := zH hEe
   clear hG hie hi hin hi0 v3 s0 s1 hoI o0 o1 s2
   obtain ⟨ic, hic⟩ : ∃ ic : Int, (i : Int) = ic := ⟨_, rfl⟩
   rw [hic] at dj ⊢
   clear hic
   replace k0 := zH k0
   replace hc := zH hc
   by_cases hEl : E < 1099511627776
   · have e1 : E + 1 ≤ 1099511627776 := by omega
     have e2 : ¬ 1099511627776 < E + 1 := by omega
     go_wp2_with fail
     go_ret
     refine ⟨rfl, ⟨E + 1, ?_⟩, hc.out.trans (Ch.of_gr (gr_cell _ p 4 _) (by simp))⟩
     rw [hGe.out]
     obtain ⟨h1, ⟨pad, h2⟩, h3, h4, h5, h6⟩ := k0.out
     exact ⟨h1.set 4 (.int .i64 (E + 1)), ⟨pad, h2.other (a := ⟨p, 4, none⟩) (Ne.symm h3) _⟩, h3, h4, ⟨by show 0 ≤ E + 1; omega, e1⟩, h6⟩
   · obtain rfl : E = 1099511627776 := by omega
     go_wp2_with fail
     go_ret
     refine ⟨rfl, ⟨1099511627776, ?_⟩, hc.out.trans (Ch.of_gr (gr_cell _ p 4 _) (by simp))⟩
     rw [hGe.out]
     obtain ⟨h1, ⟨pad, h2⟩, h3, h4, h5, h6⟩ := k0.out
     exact ⟨h1.set 4 (.int .i64 1099511627776), ⟨pad, h2.other (a := ⟨p, 4, none⟩) (Ne.symm h3) _⟩, h3, h4, ⟨by simp, by simp⟩, h6⟩
theorem and_u8c {a b : Nat} (ha : a < 256) (hb : b < 256) : bits .and .u8 (a : Int) (b : Int) = ((a &&& b : Nat) : Int) := by
 have h8 : ∀ {a : Nat}, a < 256 → (BitVec.ofInt 8 (a : Int)).toNat = a := fun h => by
  rw [BitVec.ofInt_natCast, BitVec.toNat_ofNat]
  exact Nat.mod_eq_of_lt h
 show IntKind.u8.wrap ((BitVec.ofInt 8 (a : Int) &&& BitVec.ofInt 8 (b : Int)).toNat : Int) = _
 rw [BitVec.toNat_and, h8 ha, h8 hb, u8_mod, Nat.mod_eq_of_lt (Nat.lt_of_le_of_lt Nat.and_le_left ha)]
theorem fprogram_never (p g o : Nat) (F : Fl) (a : Option Addr) (c : Nat) (xs : List UInt8) (w : World) (k0 : FlAt w p g F) (hop : F.op = -1) (hd : F.dead = false) (ho : o + xs.length ≤ F.b.length) (hx0 : 0 < xs.length) (hsl : Sl w (.slice a xs.length c) (u8s xs)) (hv : ∀ x, a = some x → x.block ≠ p ∧ x.block ≠ g) :
 Calls Tryz.prog 178 #[.pointer (some ⟨p, 0, none⟩), .int .i64 (o : Int), .slice a xs.length c] w fun e w' => e = .returned (.bool true) ∧ (∃ pr, FlAt w' p g { F with b := prB F.b o xs xs.length, pr := pr }) ∧ Ch [p, g] w w' := by
 obtain ⟨⟨v0, v1, v2, v3, v4, v5⟩, ⟨f0, f1, f2, f3, f4, f5⟩⟩ : (w.cell? ⟨p, 0, none⟩ = some (.slice (some ⟨g, 0, none⟩) F.b.length F.b.length) ∧ w.cell? ⟨p, 1, none⟩ = some (.int .i64 F.op) ∧ w.cell? ⟨p, 2, none⟩ = some (.int .i64 F.cut) ∧ w.cell? ⟨p, 3, none⟩ = some (.bool F.dead) ∧ w.cell? ⟨p, 4, none⟩ = some (.int .i64 F.er) ∧ w.cell? ⟨p, 5, none⟩ = some (.int .i64 F.pr)) ∧
  (w.frozen? ⟨p, 0, none⟩ = false ∧ w.frozen? ⟨p, 1, none⟩ = false ∧ w.frozen? ⟨p, 2, none⟩ = false ∧ w.frozen? ⟨p, 3, none⟩ = false ∧ w.frozen? ⟨p, 4, none⟩ = false ∧ w.frozen? ⟨p, 5, none⟩ = false) :=
  ⟨⟨k0.st.cell (j := 0) rfl, k0.st.cell (j := 1) rfl, k0.st.cell (j := 2) rfl, k0.st.cell (j := 3) rfl, k0.st.cell (j := 4) rfl, k0.st.cell (j := 5) rfl⟩, ⟨k0.st.frozen _, k0.st.frozen _, k0.st.frozen _, k0.st.frozen _, k0.st.frozen _, k0.st.frozen _⟩⟩
 rw [hd] at v3
 obtain ⟨n, hn⟩ : ∃ n, xs.length = n := ⟨_, rfl⟩
 rw [hn] at ho hx0 hsl ⊢
 have c1 := zH (fis_yes p g o n F w k0 ho)
 have c2 := zH (show Calls Tryz.prog 208 #[.pointer (some ⟨p, 0, none⟩), .int .i64 (n : Int)] w _ from fop_never p g n F w k0 hop)
 have hl := k0.len
 have o0 : (0 : Int) ≤ (o : Int) := by omega
 have o1 : (o : Int) ≤ 262144 := by omega
 have n0 : (0 : Int) < (n : Int) := by omega
 have n1 : (n : Int) ≤ 262144 := by omega
 have hnc : n ≤ c ∧ c ≤ maxLen := by have := hsl.len; exact ⟨this.2.1, this.2.2⟩
 have hvn : (n : Int) ≤ (c : Int) := by omega
 replace ho := zH ho
 replace hn := zH hn
 replace hsl := zH hsl
 replace hv := zH hv
 replace hnc := zH hnc
 clear v0 v1 v2 v4 v5 f0 f1 f2 f3 f4 f5 k0 hd hl hx0
 replace hop := zH hop
 go_enter Tryz.func178, Tryz.ntmps178
 go_wp2_with fail
 refine c1.out.mono ?_
 rintro e w1 ⟨rfl, hw⟩
 obtain rfl : w = w1 := hw.symm
 clear c1
 go_wp2_with fail
 refine c2.out.mono ?_
 rintro e w2 ⟨rfl, k0, hc⟩
 replace hc : Ch [p, g] w w2 := hc.mono (by simp)
 clear c2
 go_wp2_with fail
 go_loopw [34] (fun iv wr => ∃ i : Nat, i ≤ n ∧ iv = .int .i64 i ∧ FlAt wr p g { F with b := prB F.b o xs i } ∧ Ch [p, g] w wr) (fun iv _ => n - (intOf iv).toNat)
 case atStart => exact ⟨0, by omega, rfl, k0, hc⟩
 case round =>
 clear k0 hc
 obtain ⟨i, hi, rfl, k0, hc⟩ := hrel
 have hi0 : (0 : Int) ≤ (i : Int) := by omega
 by_cases hin : i < n
 · have hi1 : (i : Int) < (n : Int) := by omega
   have hin2 : i < xs.length := by rw [hn.out]; exact hin
   have hS2 := hsl.out.ch hc (fun x m cc e => by
    simp only [Value.slice.injEq] at e
    have := hv.out x e.1
    simp
    exact this)
   obtain ⟨b2, o2, rfl, -, -, -, hcc⟩ := hS2.at (by rw [u8s_len]; omega)
   have hcx := hcc i _ (u8s_get xs i hin2)
   obtain ⟨x, hx⟩ : ∃ x, (xs[i]).toNat = x := ⟨_, rfl⟩
   have lx : x < 256 := by rw [← hx]; exact (xs[i]).toNat_lt
   rw [hx] at hcx
   have hv0 := k0.v0
   rw [show ({ F with b := prB F.b o xs i } : Fl).b.length = F.b.length from prB_len _ _ _ _] at hv0
   have hml : o + i < (prB F.b o xs i).length := by rw [prB_len]; have := ho.out; omega
   obtain ⟨hcb, hfb⟩ := k0.cellb (o + i) hml
   replace hcb : wr.cell? ⟨g, o + i, none⟩ = some (.int .u8 (((prB F.b o xs i)[o + i]).toNat : Int)) := hcb
   obtain ⟨y, hy⟩ : ∃ y, ((prB F.b o xs i)[o + i]).toNat = y := ⟨_, rfl⟩
   have ly : y < 256 := by rw [← hy]; exact ((prB F.b o xs i)[o + i]).toNat_lt
   have hz : Hid ((prB F.b o xs i).set (o + i) (UInt8.ofNat (y &&& x)) = prB F.b o xs (i + 1)) := zH (by
    rw [prB, List.getD_eq_getElem?_getD, List.getElem?_eq_getElem hml, List.getD_eq_getElem?_getD, List.getElem?_eq_getElem hin2, Option.getD_some, Option.getD_some, ← hx, ← hy, ← UInt8.toNat_and]
    simp)
   rw [hy] at hcb
   have fa := and_u8c ly lx
   obtain ⟨z, hze⟩ : ∃ z, y &&& x = z := ⟨_, rfl⟩
   have lz : z < 256 := by rw [← hze]; exact Nat.lt_of_le_of_lt Nat.and_le_left ly
   rw [hze] at fa hz
   obtain ⟨L, hL⟩ : ∃ L, F.b.length = L := ⟨_, rfl⟩
   rw [hL] at hv0
   obtain ⟨m, hm⟩ : ∃ m, o + i = m := ⟨_, rfl⟩
   have hmI : (o : Int) + (i : Int) = (m : Int) := by omega
   have hm0 : (0 : Int) ≤ (m : Int) := by omega
   have hm1 : (m : Int) < (L : Int) := by have := ho.out; omega
   rw [hm] at hcb hfb hz hml
   have hLH := zH hL
   have hmlH := zH hml
   clear hL hm hx hy hze hcc hml hin2 hS2
   go_wp2_with fail
   obtain ⟨k1, hc1⟩ := k0.byte m (UInt8.ofNat z) hmlH.out
   have e0 : ((UInt8.ofNat z).toNat : Int) = (z : Int) := by rw [UInt8.toNat_ofNat', Nat.mod_eq_of_lt lz]
   rw [e0] at k1 hc1
   have e1 : ({ F with b := (prB F.b o xs i).set m (UInt8.ofNat z) } : Fl) = { F with b := prB F.b o xs (i + 1) } := by rw [hz.out]
   exact ⟨⟨i + 1, by omega, by go_num, by rw [← e1]; exact k1, hc.trans hc1⟩, by simp [intOf]; omega⟩
 · have dj : decide ((i : Int) < (n : Int)) = false := decide_eq_false zOm
   have hie : Hid (i = n) := zH zOm
   rw [hie.out] at k0
   obtain ⟨G, hG⟩ : ∃ G : Fl, ({ F with b := prB F.b o xs n } : Fl) = G := ⟨_, rfl⟩
   have hv4 := k0.st.cell (j := 5) rfl
   have hf4 := k0.st.frozen 5
   have hE := k0.pr
   rw [hG] at k0 hv4 hE
   obtain ⟨E, hEe⟩ : ∃ E, G.pr = E := ⟨_, rfl⟩
   rw [hEe] at hv4 hE
   obtain ⟨hE0, hE1⟩ := hE
   have hGe : Hid (∀ er : Int, ({ F with b := prB F.b o xs n, pr := er } : Fl) = { G with pr := er }) := zH (fun er => by rw [← hG])
   replace hEe := zH hEe
   clear hG hie hi hin hi0 v3 o0 o1 hsl n0 n1 hvn
   obtain ⟨ic, hic⟩ : ∃ ic : Int, (i : Int) = ic := ⟨_, rfl⟩
   rw [hic] at dj ⊢
   clear hic
   replace k0 := zH k0
   replace hc := zH hc
   by_cases hEl : E < 1099511627776
   · have e1 : E + 1 ≤ 1099511627776 := by omega
     have e2 : ¬ 1099511627776 < E + 1 := by omega
     go_wp2_with fail
     go_ret
     refine ⟨rfl, ⟨E + 1, ?_⟩, hc.out.trans (Ch.of_gr (gr_cell _ p 5 _) (by simp))⟩
     rw [hGe.out]
     obtain ⟨h1, ⟨pad, h2⟩, h3, h4, h5, h6⟩ := k0.out
     exact ⟨h1.set 5 (.int .i64 (E + 1)), ⟨pad, h2.other (a := ⟨p, 5, none⟩) (Ne.symm h3) _⟩, h3, h4, h5, ⟨by show 0 ≤ E + 1; omega, e1⟩⟩
   · obtain rfl : E = 1099511627776 := by omega
     go_wp2_with fail
     go_ret
     refine ⟨rfl, ⟨1099511627776, ?_⟩, hc.out.trans (Ch.of_gr (gr_cell _ p 5 _) (by simp))⟩
     rw [hGe.out]
     obtain ⟨h1, ⟨pad, h2⟩, h3, h4, h5, h6⟩ := k0.out
     exact ⟨h1.set 5 (.int .i64 1099511627776), ⟨pad, h2.other (a := ⟨p, 5, none⟩) (Ne.symm h3) _⟩, h3, h4, h5, ⟨by simp, by simp⟩⟩
end Go.Proofs.YtncnlfpiondpnaaGreat
