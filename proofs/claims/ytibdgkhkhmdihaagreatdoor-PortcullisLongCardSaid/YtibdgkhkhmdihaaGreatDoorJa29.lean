import Derived.Test.YtibdgkhkhmdihaaGreatDoorJa28
import Derived.Test.YtibdgkhkhmdihaaGreatDoorJa11
import Derived.Test.YtibdgkhkhmdihaaGreatDoorJa04
import Derived.Shelf.Strings.Builder1

namespace Go.Proofs.YtibdgkhkhmdihaaGreatDoor
open Go.RowKit
/-- The commands: names, kinds, functions. -/
def cmdT : List (List UInt8 × List UInt8 × Nat) := [
  ([110, 101, 119], [78, 78], 22), ([105, 109, 97, 103, 101], [78, 78, 84], 23),
  ([102, 101, 101, 100], [], 24), ([98, 108, 111, 99, 107], [78], 25),
  ([98, 108, 111, 99, 107, 115], [], 26), ([99, 111, 109, 109, 105, 116], [], 27),
  ([99, 111, 110, 102, 105, 114, 109], [], 28), ([98, 111, 111, 116], [], 29),
  ([114, 101, 97, 100], [78], 30), ([114, 101, 118, 111, 107, 101], [78], 31),
  ([99, 114, 97, 115, 104], [78, 78], 32), ([99, 121, 99, 108, 101], [], 33),
  ([112, 111, 107, 101], [78, 84], 34), ([113, 117, 111, 116, 101], [], 35),
  ([115, 116, 97, 116, 101], [], 36)]
theorem cmdT_eq : cmdL = cmdT.map (fun p => (⟨p.1.toArray⟩, cmdV p.2.1 p.2.2)) := rfl
def cmdF (n : List UInt8) : List (List UInt8 × List UInt8 × Nat) → Option (List UInt8 × Nat)
  | [] => none
  | (m, k, f) :: l => if n == m then some (k, f) else cmdF n l
theorem mpF_cmd (n : List UInt8) : ∀ (l : List (List UInt8 × List UInt8 × Nat)) (i : Nat), (match cmdF n l with
    | some (k, f) => ∃ j, mpF ⟨n.toArray⟩ (l.map (fun p => (⟨p.1.toArray⟩, cmdV p.2.1 p.2.2))) i = some (j, cmdV k f)
    | none => mpF ⟨n.toArray⟩ (l.map (fun p => (⟨p.1.toArray⟩, cmdV p.2.1 p.2.2))) i = none)
  | [], _ => rfl
  | (m, k, f) :: l, i => by
    have ih := mpF_cmd n l (i + 1)
    unfold cmdF
    simp only [List.map_cons, mpF]
    by_cases h : (n == m) = true
    · rw [if_pos h]
      exact ⟨i, by rw [if_pos h]⟩
    · rw [if_neg h, if_neg h]
      exact ih
/-- What a command's words are, by their kinds. -/
noncomputable def prs : List UInt8 → List (List UInt8) → List Int × List (List UInt8) → Option (List Int × List (List UInt8))
  | [], _, st => some st
  | _ :: _, [], _ => none
  | k :: ks, x :: ws, st => if k = 78 then (match numF x with | some n => prs ks ws (st.1 ++ [n], st.2) | none => none) else if x = [] then none else prs ks ws (st.1, st.2 ++ [x])
/-- A line's command, its numbers and texts. -/
noncomputable def prsL : List (List UInt8) → Option (Nat × List Int × List (List UInt8))
  | [] => none
  | c :: r => match cmdF c cmdT with
    | none => none
    | some (k, f) => if r.length = k.length then (prs k r ([], [])).map (fun p => (f, p.1, p.2)) else none
def strs (xs : List (List UInt8)) : List Value := xs.map (fun l => Value.string ⟨l.toArray⟩)
/-- New blocks kept. -/
def Kp (n : Nat) (W W' : World) : Prop := W.heap.size ≤ W'.heap.size ∧ ∀ k, n ≤ k → k < W.heap.size → W'.heap[k]? = W.heap[k]?
/-- A refusal that is told leaves Q. -/
def Told (P n : Nat) (Q : World → Prop) (W : World) : Prop := ∀ W2 v, Below W.heap.size W W2 → Sts W2 v [errorL, Lib.decDigits n] →
  Calls Tryz.prog 38 #[.pointer (some ⟨P, 0, none⟩), v] W2 fun e w' => e = .returned (.tuple #[]) ∧ Q w'
/-- What a command does. -/
def Does (P base : Nat) (Q : World → Prop) (f : Nat) (nv tv : Value) (W : World) : Prop := Calls Tryz.prog f #[.pointer (some ⟨P, 0, none⟩), .agg #[nv, tv]] W fun e W' =>
  (e = .returned (.tuple #[]) ∧ Q W') ∨ (∃ n : Nat, n < 100 ∧ e = .panicked [{ v := refu n, recovered := false }] ∧ Kp base W W' ∧ Told P n Q W')
theorem sl_cellL {w : World} {g n c j : Nat} {vs : List Value} {u : Value} (h : Sl w (.slice (some ⟨g, 0, none⟩) n c) vs) (hj : vs[j]? = some u) : w.cell? ⟨g, j, none⟩ = some u := by
  obtain ⟨a, cap, he, -, -, -, h5⟩ := h
  injection he with h1 h2 h3
  have := h5 _ h1.symm j u hj
  rwa [Addr.add_lit, Nat.zero_add] at this
theorem below_cp {n p B : Nat} {w w1 w2 : World} (h : Below n w w1) (hc : Cp p B w1 w2) (hp : n ≤ p) (hB : n ≤ B) : Below n w w2 :=
  h.trans ⟨hc.os, hc.tape, hc.output, hc.size, fun k hk => hc.block k (by omega) (by omega)⟩
theorem Arr.gr {w w' : World} {g : Nat} {xs : List Value} {r : Option Nat} (h : Arr w g xs) (hg : w.grownBy w' r) (hne : ∀ b, r = some b → b ≠ g) : Arr w' g xs := by
  have hl := h.lt
  obtain ⟨T, h⟩ := h
  exact ⟨T, by rw [hg.block g hl (fun e => hne g e.symm rfl)]; exact h⟩
theorem strs_snoc (ts : List (List UInt8)) (x : List UInt8) : strs (ts ++ [x]) = strs ts ++ [.string ⟨x.toArray⟩] := by simp [strs]
theorem strs_len (ts : List (List UInt8)) : (strs ts).length = ts.length := by simp [strs]
/-- A loop's state: how many words are read, what they were, and where they lie. -/
def LpI (W5 : World) (B ga nr : Nat) (k : List UInt8) (R : List (List UInt8)) (OUT : Option (List Int × List (List UInt8))) (iv : Value) (wr : World) : Prop := ∃ (i : Nat) (ns : List Int) (ts : List (List UInt8)) (a1 a2 : Option Addr) (n1 c1 n2 c2 : Nat), i ≤ nr ∧ iv = .int .i64 (i : Int) ∧ ns.length ≤ i ∧ ts.length ≤ i ∧
  Arr wr ga [.slice a1 n1 c1, .slice a2 n2 c2] ∧ wr.ownsRow B 3 1 (.slice a1 n1 c1) (ns.map (Value.int .i64)).length (ns.map (Value.int .i64)) ∧ wr.ownsRow B 9 1 (.slice a2 n2 c2) (strs ts).length (strs ts) ∧
  (∀ g, (Value.slice a1 n1 c1).ownBlock = some g → (Value.slice a2 n2 c2).ownBlock ≠ some g) ∧ Cp ga B W5 wr ∧ prs (k.drop i) (R.drop i) (ns, ts) = OUT
/-- How a line's body ends, ahead of what was put off. -/
def LnQ (base P : Nat) (D : List Deferred) (Q : World → Prop) (e : Exit) (a : Act) (w : World) : Prop := a.defers = D ∧
  (((e = .normal ∨ e = .ret) ∧ Q w) ∨ (∃ n : Nat, n < 100 ∧ e = .panic [{ v := refu n, recovered := false }] ∧ base < w.heap.size ∧ w.cell? ⟨base, 0, none⟩ = some (.pointer (some ⟨P, 0, none⟩)) ∧ Told P n Q w))
set_option maxHeartbeats 4000000 in
set_option maxRecDepth 100000 in
theorem line_any (P r : Nat) (w : World) (kM : Mp w r cmdL) (s : ByteArray) (hs : s.size < 4294967281) (Q : World → Prop)
    (hbad : prsL (lns 32 s.data.toList) = none → ∀ W, Below w.heap.size w W → Told P 2 Q W)
    (hdo : ∀ f ns ts, prsL (lns 32 s.data.toList) = some (f, ns, ts) → ∀ W nv tv, Below w.heap.size w W → W.ownsRow w.heap.size 3 1 nv ns.length (ns.map (.int .i64)) → W.ownsRow w.heap.size 9 1 tv ts.length (strs ts) → Does P w.heap.size Q f nv tv W) :
    Calls Tryz.prog 15 #[.pointer (some ⟨P, 0, none⟩), .string s, .map (some r)] w fun e w' => e = .returned (.tuple #[]) ∧ Q w' := by
  have hmf : ∀ (fn : Fn) (first cap : Array Value) (w : World), (Instr.makeFunc fn first cap).run Tryz.prog w = .ok (.func fn first cap) w := fun _ _ _ _ => rfl
  have cS := Lib.hid (fun w => split_any 32 s w hs)
  replace kM := Lib.hid kM
  obtain ⟨WS, hWS⟩ : ∃ l, lns 32 s.data.toList = l := ⟨_, rfl⟩
  have hWl : WS ≠ [] := fun h => by have := lns_len 32 s.data.toList; rw [hWS, h] at this; simp at this
  have hWb : WS.length ≤ 4294967296 := by
    rw [← hWS, lns_len]
    have := List.count_le_length (a := (32 : UInt8)) (l := s.data.toList)
    have h2 : s.data.toList.length = s.size := by simp
    omega
  rw [hWS] at cS hbad hdo
  replace hbad := Lib.hid hbad
  replace hdo := Lib.hid hdo
  clear hWS hs
  refine calls_of_wp_defers Tryz.func15 rfl ?_
  refine Code.wp_mono (Q := LnQ w.heap.size P [{ target := .fn (.func 37) #[.pointer (some ⟨w.heap.size, 0, none⟩)], args := #[] }] Q) ?_ ?_
  · rintro e a w1 ⟨hd, h⟩
    rcases h with ⟨he, hq⟩ | ⟨n, hn, rfl, hlt, hcell, htd⟩
    · have hl : Leaves Tryz.prog Tryz.f15 a.tmps (fun e w' => e = .returned (.tuple #[]) ∧ Q w') a.defers .returning w1 := by
        rw [hd]
        refine leaves_cons (f := 37) (args := #[.pointer (some ⟨w.heap.size, 0, none⟩)]) (by simp) (by kernel_rfl) ?_
        refine (catch_idle _ _).mono ?_
        rintro e u' w2 ⟨rfl, rfl, rfl⟩
        simp [Leaves, settle, results, Tryz.results15, go_sem, hq]
      rcases he with rfl | rfl <;> exact hl
    · have hl : Leaves Tryz.prog Tryz.f15 a.tmps (fun e w' => e = .returned (.tuple #[]) ∧ Q w') a.defers (.panicking [{ v := refu n, recovered := false }]) w1 := by
        rw [hd]
        refine leaves_cons (f := 37) (args := #[.pointer (some ⟨w.heap.size, 0, none⟩)]) (by simp) (by kernel_rfl) ?_
        refine (catch_no P _ n hn w1 Q hcell htd).mono ?_
        rintro e u' w2 ⟨rfl, rfl, hq⟩
        simp [Leaves, settle, results, Tryz.results15, go_sem, hq]
      exact hl
  simp only [Tryz.ntmps15, List.size_toArray, List.length_cons, List.length_nil, Nat.reduceAdd, Nat.reduceSub, Array.replicate_succ, Array.replicate_zero, List.push_toArray, List.append_toArray, List.nil_append, List.cons_append]
  obtain ⟨DQ, hDQ⟩ : ∃ Z, LnQ w.heap.size P [{ target := .fn (.func 37) #[.pointer (some ⟨w.heap.size, 0, none⟩)], args := #[] }] Q = Z := ⟨_, rfl⟩
  rw [hDQ]
  replace hDQ := Lib.hid hDQ
  go_upto_region 1 with fail
  refine wp_new1 (fun W1 hsz kA kb => ?_)
  replace kA : Arr W1 w.heap.size [.pointer (some ⟨P, 0, none⟩)] := kA
  clear hsz hmf
  go_wp2_with fail
  refine (cS.out _).mono ?_
  rintro e w2 ⟨rfl, hw2⟩
  have kW : Arr w2 W1.heap.size (strs WS) := by rw [hw2]; exact Arr.new _ _ _
  have hb2 : Below W1.heap.size W1 w2 := by rw [hw2]; exact below_alloc _ _
  replace kb := bel kb hb2
  have kA := kA.below hb2
  have kM2 := Lib.hid (kM.out.below kb)
  obtain ⟨bw, hbw⟩ : ∃ k, W1.heap.size = k := ⟨_, rfl⟩
  rw [hbw] at kW ⊢
  clear hw2 hb2 cS hbw kM
  obtain ⟨c, R, rfl⟩ : ∃ c R, WS = c :: R := by
    cases WS with
    | nil => exact absurd rfl hWl
    | cons c R => exact ⟨c, R, rfl⟩
  clear hWl
  have y0 : w2.cell? ⟨bw, 0, none⟩ = some (.string ⟨c.toArray⟩) := kW.cell (j := 0) rfl
  have hcm := mpF_cmd c cmdT 0
  rw [← cmdT_eq] at hcm
  have cM := Lib.hid (must_no 2 (by decide))
  cases hc : cmdF c cmdT with
  | none =>
    rw [hc] at hcm
    have hlk := run_look_none (P := Tryz.prog) (w := w2) 47 9 58 r ⟨c.toArray⟩ (.agg #[.string ⟨#[]⟩, .nilFunc]) (by kernel_rfl) (by kernel_rfl) (by kernel_rfl) cmdL kM2.out hcm
    have hpn := Lib.hid (hbad.out (by simp only [prsL, hc]))
    clear hcm hdo hbad
    go_upto_region 4 with (refine wpl_storeG rfl _ _ _ rfl _ [.string ⟨#[]⟩, .nilFunc] rfl rfl _ (Arr.new _ _ _) (by kernel_rfl) rfl (by intro v hv; simp at hv; rcases hv with rfl | rfl <;> rfl) (fun w3 kC hg hsz => ?_))
    have hb3 := below_fresh hg
    have y1 := kC.cell (j := 0) rfl
    have kA3 := kA.below hb3
    have kb3 := bel kb hb3
    clear hg hsz hb3
    go_wp2_with fail
    refine (cM.out _).mono ?_
    rintro e w4 ⟨rfl, rfl⟩
    show DQ _ _ _
    rw [← hDQ.out]
    exact ⟨rfl, .inr ⟨2, by decide, rfl, kA3.lt, kA3.cell rfl, hpn.out _ kb3⟩⟩
  | some kf =>
    obtain ⟨k, f⟩ := kf
    rw [hc] at hcm
    obtain ⟨j, hj⟩ := hcm
    have hlk := run_look (P := Tryz.prog) (w := w2) 47 9 58 r ⟨c.toArray⟩ (by kernel_rfl) (by kernel_rfl) cmdL kM2.out hj
    unfold cmdV at hlk
    go_upto_region 4 with (refine wpl_storeG rfl _ _ _ rfl _ [.string ⟨k.toArray⟩, .func (.func f) #[] #[]] rfl rfl _ (Arr.new _ _ _) (by kernel_rfl) rfl (by intro v hv; simp at hv; rcases hv with rfl | rfl <;> rfl) (fun w3 kC hg hsz => ?_))
    have hb3 := below_fresh hg
    obtain ⟨gx, hgx⟩ : ∃ g, w2.heap.size = g := ⟨_, rfl⟩
    have kA3 := Lib.hid (kA.below hb3)
    have kW3 := Lib.hid (kW.below hb3)
    have kb3 := bel kb hb3
    rw [hgx] at kC ⊢
    clear hg hsz hb3 hlk y0 kA kW kM2 kb hgx hj
    have hk3 : k.length ≤ 3 := by
      have : ∀ (T : List (List UInt8 × List UInt8 × Nat)), (∀ p ∈ T, p.2.1.length ≤ 3) → ∀ k f, cmdF c T = some (k, f) → k.length ≤ 3 := by
        intro T
        induction T with
        | nil => intro _ k f h; cases h
        | cons p T ih =>
          intro hT k f h
          obtain ⟨m, k', f'⟩ := p
          unfold cmdF at h
          split at h
          · injection h with h
            injection h with h1 h2
            subst h1
            exact hT (m, k', f') (by simp)
          · exact ih (fun q hq => hT q (by simp [hq])) k f h
      exact this cmdT (by decide) k f hc
    obtain ⟨nr, hnr⟩ : ∃ n, R.length = n := ⟨_, rfl⟩
    obtain ⟨nk, hnk⟩ : ∃ n, k.length = n := ⟨_, rfl⟩
    have hks : (⟨k.toArray⟩ : ByteArray).size = nk := by rw [← hnk]; simp [ByteArray.size]
    have hRb : nr ≤ 4294967296 := by simp at hWb; omega
    have y1 := kC.cell (j := 0) rfl
    obtain ⟨KS, hKS⟩ : ∃ K : ByteArray, (⟨k.toArray⟩ : ByteArray) = K := ⟨_, rfl⟩
    rw [hKS] at hks y1 kC ⊢
    rw [hnr]
    rw [hnk] at hk3
    by_cases hlen : nr = nk
    · subst hlen
      go_upto_region 7 with fail
      have hb4 := below_alloc w3 (.cells #[.slice none 0 0, .slice none 0 0] 68)
      have kG : Arr (w3.alloc (.cells #[.slice none 0 0, .slice none 0 0] 68)) w3.heap.size [.slice none 0 0, .slice none 0 0] := Arr.new _ _ _
      obtain ⟨W4, hW4⟩ : ∃ W, w3.alloc (.cells #[.slice none 0 0, .slice none 0 0] 68) = W := ⟨_, rfl⟩
      obtain ⟨ga, hga⟩ : ∃ k, w3.heap.size = k := ⟨_, rfl⟩
      have hgaw : w.heap.size < ga := by have := kA3.out.lt; omega
      have hbwa : bw ≠ ga := by have := kW3.out.lt; omega
      have hgxa : gx ≠ ga := by have := kC.lt; omega
      rw [hW4] at hb4 kG ⊢
      rw [hga] at kG ⊢
      obtain ⟨cv, W5, hr, hS, hb5⟩ := conv_str W4 KS (by unfold maxLen; omega)
      have hb45 := bel hb4 hb5
      have kA5 := Lib.hid (kA3.out.below hb45)
      have kW5 := Lib.hid (kW3.out.below hb45)
      have kC5 := Lib.hid (kC.below hb45)
      have kb5 := bel kb3 hb45
      have kG5 := kG.below hb5
      have hKl : KS.data.toList = k := by rw [← hKS]
      rw [hKl] at hS
      have y2 := (kC.below hb4).cell (j := 0) rfl
      obtain ⟨gk, hgk⟩ : ∃ g, W4.heap.size = g := ⟨_, rfl⟩
      have hgka : gk ≠ ga := by have := kG.lt; omega
      have hgaB : ga < W5.heap.size := by have := kG5.lt; omega
      rw [hgk] at hr hS
      rw [hks] at hr hS
      clear kA3 kW3 kC hb4 hb45 hb5 kG hW4 hga hKl y1
      obtain ⟨B, hB⟩ : ∃ k, W5.heap.size = k := ⟨_, rfl⟩
      obtain ⟨OUT, hOUT⟩ : ∃ o, prs k R ([], []) = o := ⟨_, rfl⟩
      have hInit : LpI W5 B ga nr k R OUT (.int .i64 0) W5 := ⟨0, [], [], none, none, 0, 0, 0, 0, Nat.zero_le _, rfl, Nat.le_refl _, Nat.le_refl _, kG5, World.ownsRow_nil _ _ _ _, World.ownsRow_nil _ _ _ _, fun g h => (by cases h), Cp.refl _ _ _, by simpa using hOUT⟩
      replace hOUT := Lib.hid hOUT
      replace hS := Lib.hid hS
      clear kG5
      have hbwB : bw < B := by have := kW5.out.lt; omega
      go_upto_region 8 with fail
      clear hr y2
      go_loopw [40] (fun iv wr => LpI W5 B ga nr k R OUT iv wr) (fun iv _ => nr - (intOf iv).toNat)
      case atStart => exact hInit
      case round =>
      clear hInit
      obtain ⟨i, ns, ts, a1, a2, n1, c1, n2, c2, hi, rfl, hnl, htl, kG, o1, o2, hsep, hcp, hprs⟩ := hrel
      have hi0 : (0 : Int) ≤ (i : Int) := by omega
      replace o1 := Lib.hid o1
      replace o2 := Lib.hid o2
      replace hprs := Lib.hid hprs
      by_cases hin : i < nr
      · have hi1 : (i : Int) < (nr : Int) := by omega
        have hki : ∃ b, k[i]? = some b := ⟨_, List.getElem?_eq_getElem (by rw [hnk]; exact hin)⟩
        have hxi : ∃ x, R[i]? = some x := ⟨_, List.getElem?_eq_getElem (by rw [hnr]; exact hin)⟩
        obtain ⟨ki, hki⟩ := hki
        obtain ⟨x, hx⟩ := hxi
        have y3 : wr.cell? ⟨gk, i, none⟩ = some (.int .u8 (ki.toNat : Int)) := by
          have h1 := sl_cellL hS.out (j := i) (u := .int .u8 (ki.toNat : Int)) (by simp [u8s, hki])
          rw [← h1]
          have h2 := World.block_lt_of_cell? _ _ h1
          exact World.cell?_of_block (hcp.block gk (by rw [← hB]; exact h2) hgka)
        have y4 : wr.cell? ⟨bw, i + 1, none⟩ = some (.string ⟨x.toArray⟩) := (kW5.out.cp hcp hbwB hbwa).cell (by simp [strs, hx])
        have d1 : k.drop i = ki :: k.drop (i + 1) := by
          have h1 := (List.getElem?_eq_some_iff.1 hki)
          rw [List.drop_eq_getElem_cons h1.1, h1.2]
        have d2 : R.drop i = x :: R.drop (i + 1) := by
          have h1 := (List.getElem?_eq_some_iff.1 hx)
          rw [List.drop_eq_getElem_cons h1.1, h1.2]
        have hp := hprs.out
        rw [d1, d2] at hp
        unfold prs at hp
        clear d1 d2 hki hx
        go_upto_region 12 with fail
        by_cases h78 : ki = 78
        · rw [if_pos h78] at hp
          have h78z : ((ki.toNat : Int) == 78) = true := by rw [h78]; rfl
          have cN := num_any x
          replace hp := Lib.hid hp
          go_upto_region 13 with fail
          have hDp : ∀ c a d v w, DQ (.panic c) (Act.put a d v) w → DQ (.panic c) a w := by
            rw [← hDQ.out]
            intro c a d v w h
            cases d <;> exact h
          refine Txp.start (fun w' => Arr w' ga [.slice a1 n1 c1, .slice a2 n2 c2]) 7 8 rfl (by kernel_rfl) ?_
          have hb0 : Below wr.heap.size wr wr.drew := (Below.refl _ _).drew
          have hS0 : Arr wr.drew ga [.slice a1 n1 c1, .slice a2 n2 c2] := kG.below hb0
          cases hnx : numF x with
          | none =>
            rw [hnx] at hp
            have kAr := Lib.hid (kA5.out.cp hcp (by rw [← hB]; exact kA5.out.lt) (by omega))
            have hbr := below_cp kb5 hcp (by omega) (by have := kb5.size; omega)
            have hTd := Lib.hid (hbad.out (by simp only [prsL, hc]; rw [if_pos (by omega), hOUT.out, ← hp.out]; rfl))
            refine Txp.seg (A := ?_) 5 7 (by exact fun c a d v w h => hDp c a d v w h) (by kernel_rfl) (by exact hS0) [0, 1, 2] (by kernel_rfl) ?_ ?_
            rotate_left
            · intro w' hB'
              have y5 := Arr.cell hB' (j := 0) rfl
              iterate 3 (first | (refine rd_skip rfl rfl ?_; simp only [Act.put, List.setIfInBounds_toArray, List.set_cons_zero, List.set_cons_succ]) | (refine rd_take (v := ?_) rfl rfl ?_ ?_; rotate_left; (focus (go_simp; try (with_reducible rfl))); simp only [Act.put, List.setIfInBounds_toArray, List.set_cons_zero, List.set_cons_succ]))
              exact rd_nil
            refine Txp.eff 3 15 rfl (by decide +kernel) (fun K hK => ?_)
            go_simp
            refine (cN _).mono ?_
            rintro e w6 ⟨he, hb⟩
            rw [hnx] at he
            subst he
            show DQ _ _ _
            rw [← hDQ.out]
            have hb6 := bel hb0 hb
            have kA6 := kAr.out.below hb6
            exact ⟨rfl, .inr ⟨2, by decide, rfl, kA6.lt, kA6.cell rfl, hTd.out _ (bel hbr hb6)⟩⟩
          | some n =>
            rw [hnx] at hp
            obtain ⟨i0, hi0', hz0, hz1, hz2⟩ := info_parts (show (Tryz.prog.info? 3).map (fun i => (i.zero, i.size, i.bytes)) = some (some (.int .i64 0), 1, 8) by kernel_rfl)
            have hsB : B ≤ wr.heap.size := by rw [← hB]; exact hcp.size
            refine Txp.seg (A := ?_) 5 7 (by exact fun c a d v w h => hDp c a d v w h) (by kernel_rfl) (by exact hS0) [0, 1, 2] (by kernel_rfl) ?_ ?_
            rotate_left
            · intro w' hB'
              have y5 := Arr.cell hB' (j := 0) rfl
              iterate 3 (first | (refine rd_skip rfl rfl ?_; simp only [Act.put, List.setIfInBounds_toArray, List.set_cons_zero, List.set_cons_succ]) | (refine rd_take (v := ?_) rfl rfl ?_ ?_; rotate_left; (focus (go_simp; try (with_reducible rfl))); simp only [Act.put, List.setIfInBounds_toArray, List.set_cons_zero, List.set_cons_succ]))
              exact rd_nil
            refine Txp.eff 3 15 rfl (by decide +kernel) (fun K hK => ?_)
            go_simp
            refine (cN _).mono ?_
            rintro e w6 ⟨he, hb⟩
            rw [hnx] at he
            subst he
            have hb6 := bel hb0 hb
            have hS1 := kG.below hb6
            refine hK (fun w' => Arr w' ga [.slice a1 n1 c1, .slice a2 n2 c2]) _ _ hS1 (fun _ h => h) ?_
            clear hK K hb
            try simp only [Act.put, List.setIfInBounds_toArray, List.set_cons_zero, List.set_cons_succ]
            refine Txp.eff 4 31 rfl (by decide +kernel) (fun K hK => ?_)
            go_simp
            have hba := below_alloc w6 (.cells #[.int .i64 n] 3)
            have hb7 := bel hb6 hba
            refine hK (fun w' => Arr w' ga [.slice a1 n1 c1, .slice a2 n2 c2]) _ _ (kG.below hb7) (fun _ h => h) ?_
            clear hK K
            try simp only [Act.put, List.setIfInBounds_toArray, List.set_cons_zero, List.set_cons_succ]
            have hgX : Arr (w6.alloc (.cells #[.int .i64 n] 3)) w6.heap.size [.int .i64 n] := Arr.new _ _ _
            have hs6 : B ≤ (w6.alloc (.cells #[.int .i64 n] 3)).heap.size := Nat.le_trans hsB hb7.size
            have o17 := Lib.hid (own_below o1.out hb7)
            have o27 := Lib.hid (own_below o2.out hb7)
            have kG7 := kG.below hb7
            have hc7 : Cp ga B W5 (w6.alloc (.cells #[.int .i64 n] 3)) := hcp.trans (Cp.of_below hb7 hsB)
            generalize w6.alloc (.cells #[.int .i64 n] 3) = w7 at hgX hs6 o17 o27 kG7 hc7 ⊢
            clear hb7 hba hb6 hS1 hS0 hb0
            refine Txp.eff 5 63 rfl (by decide +kernel) (fun K hK => ?_)
            refine step_app1 rfl _ _ 66 rfl B 3 (by kernel_rfl) hi0' hz0 hz1 hz2 rfl _ rfl _ o17.out _ rfl _ hgX rfl (by rw [List.length_map]; omega) (by decide) hs6 ?_
            intro v' w8 o8 hg8 hat
            obtain ⟨a3, n3, c3, rfl⟩ : ∃ a n c, v' = .slice a n c := by
              rcases o8.2 with ⟨hv, _⟩ | ⟨g, cap, cur, hv, _⟩
              · exact ⟨_, _, _, hv⟩
              · exact ⟨_, _, _, hv⟩
            have kG8 := kG7.gr hg8 (fun b hb => by have := own_block o17.out b hb; omega)
            have o28 := o27.out.kept hg8 (by
              cases h1 : (Value.slice a2 n2 c2).ownBlock with
              | none => exact .inl rfl
              | some b => exact .inr (fun e => hsep b e.symm h1))
            have hc8 : Cp ga B W5 w8 := hc7.trans (Cp.of_gr hg8 hs6 (fun g hg => .inr (own_block o17.out g hg)))
            have hs8 : B ≤ w8.heap.size := Nat.le_trans hs6 hg8.size
            have hsep8 : ∀ g, (Value.slice a3 n3 c3).ownBlock = some g → (Value.slice a2 n2 c2).ownBlock ≠ some g := fun g hg e => by
              rcases hat with h | h
              · rw [h] at hg; exact hsep g hg e
              · rw [h] at hg
                injection hg with hg
                have h5 := (World.ownsRow.lt o27.out g e).2
                omega
            have y8 := kG8.cell (j := 0) rfl
            have f8 := kG8.frozen 0
            have hb1 := own_block o8
            have hb2 := own_block o28
            rw [show ns.map (Value.int .i64) ++ [.int .i64 n] = (ns ++ [n]).map (Value.int .i64) by simp] at o8
            replace o8 := Lib.hid o8
            replace o28 := Lib.hid o28
            refine hK (fun w' => Arr w' ga [.slice a1 n1 c1, .slice a2 n2 c2]) _ _ kG8 (fun _ h => h) ?_
            clear hK K hat hg8 o17 o27 hgX o1 o2 hi0' hz0 hz1 hz2 hcp hsep hc7 hs6 kG7
            try simp only [Act.put, List.setIfInBounds_toArray, List.set_cons_zero, List.set_cons_succ]
            refine Txp.seg (A := ?_) 1 127 (by exact fun c a d v w h => hDp c a d v w h) (by kernel_rfl) (by exact kG8) [6] (by kernel_rfl) ?_ ?_
            rotate_left
            · intro w' hB'
              iterate 1 (first | (refine rd_skip rfl rfl ?_; simp only [Act.put, List.setIfInBounds_toArray, List.set_cons_zero, List.set_cons_succ]) | (refine rd_take (v := ?_) rfl rfl ?_ ?_; rotate_left; (focus (go_simp; try (with_reducible rfl))); simp only [Act.put, List.setIfInBounds_toArray, List.set_cons_zero, List.set_cons_succ]))
              exact rd_nil
            refine Txp.bar 255 rfl (by decide +kernel) (fun K hK => ?_)
            go_simp
            refine hK (fun _ => True) 9999 _ _ ?_
            clear hK K
            try simp only [Act.put, List.setIfInBounds_toArray, List.set_cons_zero, List.set_cons_succ]
            refine Txp.done (by kernel_rfl) ?_
            go_wp2_with fail
            exact ⟨⟨i + 1, ns ++ [n], ts, a3, a2, n3, c3, n2, c2, by omega, by go_num, by simp; omega, by omega, kG8.set 0 _, o8.out.kept (gr_cell w8 ga 0 _) (.inr (fun e => by have := hb1 _ e; omega)),
              o28.out.kept (gr_cell w8 ga 0 _) (.inr (fun e => by have := hb2 _ e; omega)), hsep8, hc8.trans (Cp.of_gr (gr_cell w8 ga 0 _) hs8 (fun g h => .inl (by injection h with h; exact h.symm))), hp.out⟩, by simp [intOf]; omega⟩
        · rw [if_neg h78] at hp
          have h78z : ((ki.toNat : Int) == 78) = false := by
            have h48 : ki.toNat ≠ 78 := fun hh => h78 (UInt8.toNat_inj.1 hh)
            simp
            omega
          by_cases hx0 : x = []
          · rw [if_pos hx0] at hp
            subst hx0
            have kAr := Lib.hid (kA5.out.cp hcp (by rw [← hB]; exact kA5.out.lt) (by omega))
            have hTd := Lib.hid (hbad.out (by simp only [prsL, hc]; rw [if_pos (by omega), hOUT.out, ← hp]; rfl) _ (below_cp kb5 hcp (by omega) (by have := kb5.size; omega)))
            go_wp2_with fail
            refine (cM.out _).mono ?_
            rintro e w4 ⟨rfl, rfl⟩
            show DQ _ _ _
            rw [← hDQ.out]
            exact ⟨rfl, .inr ⟨2, by decide, rfl, kAr.out.lt, kAr.out.cell rfl, hTd.out⟩⟩
          · rw [if_neg hx0] at hp
            replace hp := Lib.hid hp
            have hxe : (⟨x.toArray⟩ : ByteArray).toList.isEmpty = false := isE (by
              cases x with
              | nil => exact absurd rfl hx0
              | cons _ _ => rfl)
            obtain ⟨XS, hXS⟩ : ∃ X : ByteArray, (⟨x.toArray⟩ : ByteArray) = X := ⟨_, rfl⟩
            rw [hXS] at hxe y4 ⊢
            obtain ⟨i0, hi0', hz0, hz1, hz2⟩ := info_parts (show (Tryz.prog.info? 9).map (fun i => (i.zero, i.size, i.bytes)) = some (some (.string ByteArray.empty), 1, 16) by kernel_rfl)
            have y5 := kG.cell (j := 1) rfl
            have hb6 := below_alloc wr (.cells #[.string XS] 9)
            have hsB : B ≤ wr.heap.size := by rw [← hB]; exact hcp.size
            have o26 := Lib.hid (own_below o2.out hb6)
            have hgX : Arr (wr.alloc (.cells #[.string XS] 9)) wr.heap.size [.string XS] := Arr.new _ _ _
            go_upto_region 11 with fail
            go_wp2_with (at_builtin; refine wpl_app1 rfl _ _ 28 rfl B 9 (by kernel_rfl) hi0' hz0 hz1 hz2 rfl _ rfl _ o26.out _ rfl _ hgX rfl (by rw [strs_len]; omega) (by decide) (Nat.le_trans hsB hb6.size) ?_)
            intro v' w7 o7 hg7 hat
            obtain ⟨a3, n3, c3, rfl⟩ : ∃ a n c, v' = .slice a n c := by
              rcases o7.2 with ⟨hv, _⟩ | ⟨g, cap, cur, hv, _⟩
              · exact ⟨_, _, _, hv⟩
              · exact ⟨_, _, _, hv⟩
            have kG7 := (kG.below hb6).gr hg7 (fun b hb => by have := own_block o26.out b hb; omega)
            have o17 := (own_below o1.out hb6).kept hg7 (by
              cases h1 : (Value.slice a1 n1 c1).ownBlock with
              | none => exact .inl rfl
              | some b => exact .inr (fun e => hsep b h1 e.symm))
            have hc7 : Cp ga B W5 w7 := (hcp.trans (Cp.of_below hb6 hsB)).trans (Cp.of_gr hg7 (Nat.le_trans hsB hb6.size) (fun g hg => .inr (own_block o26.out g hg)))
            have hs7 : B ≤ w7.heap.size := Nat.le_trans (Nat.le_trans hsB hb6.size) hg7.size
            have hsep7 : ∀ g, (Value.slice a1 n1 c1).ownBlock = some g → (Value.slice a3 n3 c3).ownBlock ≠ some g := fun g hg e => by
              rcases hat with h | h
              · rw [h] at e; exact hsep g hg e
              · rw [h] at e
                injection e with e
                have h5 := (World.ownsRow.lt o1.out g hg).2
                have h6 := hb6.size
                omega
            have y7 := kG7.cell (j := 1) rfl
            have f7 := kG7.frozen 1
            have hb1 := own_block o7
            have hb2 := own_block o17
            rw [← hXS, ← strs_snoc, show (strs ts).length + 1 = (strs (ts ++ [x])).length by simp [strs]] at o7
            replace o7 := Lib.hid o7
            replace o17 := Lib.hid o17
            replace kG7 := Lib.hid kG7
            clear hat hg7 y5 o26 hgX hb6 o1 o2 hi0' hz0 hz1 hz2 hcp hsep
            go_wp2_with fail
            exact ⟨⟨i + 1, ns, ts ++ [x], a1, a3, n1, c1, n3, c3, by omega, by go_num, by omega, by simp; omega, kG7.out.set 1 _, o17.out.kept (gr_cell w7 ga 1 _) (.inr (fun e => by have := hb2 _ e; omega)),
              o7.out.kept (gr_cell w7 ga 1 _) (.inr (fun e => by have := hb1 _ e; omega)), hsep7, hc7.trans (Cp.of_gr (gr_cell w7 ga 1 _) hs7 (fun g h => .inl (by injection h with h; exact h.symm))), hp.out⟩, by simp [intOf]; omega⟩
      · obtain rfl : i = nr := by omega
        have hp := hprs.out
        rw [List.drop_of_length_le (by omega), List.drop_of_length_le (by omega)] at hp
        unfold prs at hp
        have hent : ∀ args w, (callFunc f args).run Tryz.prog w = .ok (.enter f args) w := by
          have : ∀ (T : List (List UInt8 × List UInt8 × Nat)), (∀ p ∈ T, ∀ args w, (callFunc p.2.2 args).run Tryz.prog w = .ok (.enter p.2.2 args) w) → ∀ k f, cmdF c T = some (k, f) → ∀ args w, (callFunc f args).run Tryz.prog w = .ok (.enter f args) w := by
            intro T
            induction T with
            | nil => intro _ k f h; cases h
            | cons p T ih =>
              intro hT k f h
              obtain ⟨m, k', f'⟩ := p
              unfold cmdF at h
              split at h
              · injection h with h
                injection h with h1 h2
                subst h2
                exact hT (m, k', f') (by simp)
              · exact ih (fun q hq => hT q (by simp [hq])) k f h
          refine this cmdT (fun p hp => ?_) k f hc
          simp only [cmdT, List.mem_cons, List.not_mem_nil, or_false] at hp
          rcases hp with h | h | h | h | h | h | h | h | h | h | h | h | h | h | h <;> (subst h; intro args w; kernel_rfl)
        have hdz := Lib.hid (hdo.out f ns ts (by simp only [prsL, hc]; rw [if_pos (by omega), hOUT.out, ← hp]; rfl) wr (.slice a1 n1 c1) (.slice a2 n2 c2) (below_cp kb5 hcp (by omega) (by have := kb5.size; omega))
          (own_mono (by have := o1.out; rwa [List.length_map] at this) (by have := kb5.size; omega)) (own_mono (by have := o2.out; rwa [strs_len] at this) (by have := kb5.size; omega)))
        have kAr := Lib.hid (kA5.out.cp hcp (by rw [← hB]; exact kA5.out.lt) (by omega))
        have z1 := (kC5.out.cp hcp (by rw [← hB]; exact kC5.out.lt) hgxa).cell (j := 1) rfl
        have z2 := kAr.out.cell (j := 0) rfl
        go_wp2_with (refine wpList_load_arr2 rfl _ _ rfl _ rfl (by decide +kernel) _ kG (by kernel_rfl) ?_)
        refine hdz.out.mono ?_
        rintro e w9 (⟨rfl, hq⟩ | ⟨n, hn, rfl, hkp, htd⟩)
        · go_wp2_with fail
          show DQ _ _ _
          rw [← hDQ.out]
          exact ⟨rfl, .inl ⟨.inl rfl, hq⟩⟩
        · show DQ _ _ _
          rw [← hDQ.out]
          have kA9 : Arr w9 w.heap.size [.pointer (some ⟨P, 0, none⟩)] := by
            have hl := kAr.out.lt
            obtain ⟨T, h⟩ := kAr.out
            exact ⟨T, by rw [hkp.2 _ (Nat.le_refl _) hl]; exact h⟩
          exact ⟨rfl, .inr ⟨n, hn, rfl, kA9.lt, kA9.cell rfl, htd⟩⟩
    · have hlz : ((nr : Int) == (nk : Int)) = false := by simp; omega
      go_wp2_with fail
      refine (cM.out _).mono ?_
      rintro e w4 ⟨rfl, rfl⟩
      show DQ _ _ _
      rw [← hDQ.out]
      exact ⟨rfl, .inr ⟨2, by decide, rfl, kA3.out.lt, kA3.out.cell rfl, hbad.out (by simp only [prsL, hc]; rw [if_neg (by omega)]) _ kb3⟩⟩
end Go.Proofs.YtibdgkhkhmdihaaGreatDoor


namespace Go.Proofs.YtibdgkhkhmdihaaGreatDoor
open Go.RowKit
set_option maxHeartbeats 2000000 in
set_option maxRecDepth 100000 in
theorem bstr_nil (P : Nat) (X : Plr) (a : Value) (w : World) (kp : Pl w P (X.cs a (.slice none 0 0))) :
    Calls Tryz.prog 16 #[.pointer (some ⟨P, 133, none⟩)] w fun e w' => e = .returned (.string ⟨#[]⟩) ∧ Below w.heap.size w w' := by
  have hUS := Lib.run_unsafeString_none (P := Tryz.prog) w.drew 70 3 9 none
  have c1 : w.drew.cell? ⟨P, 134, none⟩ = some (.slice none 0 0) := (kp.below (Below.refl _ _).drew).arr.cell (Plr.at X _ _ (j := 6))
  have hSD : (Builtin.unsafeSliceData_ #[26] 70 #[.slice none 0 0]).run Tryz.prog w.drew = .ok (.pointer none) w.drew := rfl
  go_enter Tryz.func16, Tryz.ntmps16
  go_upto_region 1 with fail
  refine Tx.start (fun w' => w' = w.drew) 9999 12 rfl (by kernel_rfl) ?_
  refine Tx.seg (A := ?_) 0 4095 (by kernel_rfl) (by exact rfl) [0, 1, 2, 3, 4, 5, 6, 7, 8, 9, 10, 11] (by kernel_rfl) ?_ ?_
  rotate_left
  · intro w' hB
    subst hB
    iterate 12 (first | (refine rd_skip rfl rfl ?_; simp only [Act.put, List.setIfInBounds_toArray, List.set_cons_zero, List.set_cons_succ]) | (refine rd_load_arr rfl rfl _ _ rfl _ rfl (by decide +kernel) _ (by assumption) (by first | (rw [lims_len]; kernel_rfl) | (rw [el_rep]; kernel_rfl) | (rw [el_len]; kernel_rfl) | (rw [byts_len]; kernel_rfl) | (rw [us_len]; kernel_rfl) | (rw [bytn_len]; kernel_rfl) | (rw [ens_len, digs_len]; kernel_rfl) | (rw [ptL_len]; kernel_rfl) | (rw [pcs_len]; kernel_rfl) | kernel_rfl) ?_; simp only [Act.put, List.setIfInBounds_toArray, List.set_cons_zero, List.set_cons_succ]) | (refine rd_take (v := ?_) rfl rfl ?_ ?_; rotate_left; (focus (go_simp; try (with_reducible rfl))); simp only [Act.put, List.setIfInBounds_toArray, List.set_cons_zero, List.set_cons_succ]))
    exact rd_nil
  refine Tx.done (by kernel_rfl) ?_
  go_wp2_with fail
  go_ret
  exact ⟨rfl, (Below.refl _ w).drew⟩
set_option maxHeartbeats 2000000 in
set_option maxRecDepth 100000 in
theorem bstr_some (P B : Nat) (X : Plr) (a u : Value) (l : List UInt8) (w : World) (kp : Pl w P (X.cs a u)) (hown : w.ownsRow B 5 1 u l.length (u8s l)) (h0 : l ≠ []) :
    Calls Tryz.prog 16 #[.pointer (some ⟨P, 133, none⟩)] w fun e w' => e = .returned (.string ⟨l.toArray⟩) ∧ Below B w w' := by
  have hl0 : l.length ≠ 0 := by simpa using h0
  obtain ⟨g, cap, cur, rfl, hbg, hg, hnc, hcm, hcs, htake⟩ : ∃ g cap cur, u = .slice (some ⟨g, 0, none⟩) l.length cap ∧ B ≤ g ∧ w.heap[g]? = some (.cells cur 5 (0, 0)) ∧ l.length ≤ cap ∧ cap ≤ maxLen ∧ cur.size = cap * 1 ∧ cur.toList.take (l.length * 1) = u8s l := by
    rcases hown.2 with ⟨_, hz⟩ | ⟨g, cap, cur, hv, r⟩
    · exact absurd hz hl0
    · exact ⟨g, cap, cur, hv, r⟩
  have c1 : w.drew.cell? ⟨P, 134, none⟩ = some (.slice (some ⟨g, 0, none⟩) l.length cap) := (kp.below (Below.refl _ _).drew).arr.cell (Plr.at X _ _ (j := 6))
  have hSD : (Builtin.unsafeSliceData_ #[26] 70 #[.slice (some ⟨g, 0, none⟩) l.length cap]).run Tryz.prog w.drew = .ok (.pointer (some ⟨g, 0, none⟩)) w.drew :=
    Lib.run_unsafeSliceData_row _ _ _ _ _ _ (by omega)
  have hUS : (Builtin.unsafeString_ #[70, 3] 9 #[.pointer (some ⟨g, 0, none⟩), .int .i64 l.length]).run Tryz.prog w.drew = .ok (.string ⟨l.toArray⟩) (w.drew.freeze ⟨g, 0, none⟩ l.length) := by
    refine Lib.run_unsafeString_row w.drew 70 3 9 5 (by kernel_rfl) (by kernel_rfl) g cur.size (by have hg' : w.drew.heap[g]? = some (.cells cur 5 (0, 0)) := hg; simp [World.shape?, hg']) l h0 (by omega) (by unfold maxLen at hcm; omega) ?_
    intro j x hx
    have := hown.cells (g := g) rfl j (.int .u8 x.toNat) (by simp [u8s, hx])
    exact this
  obtain ⟨n, hn⟩ : ∃ n, l.length = n := ⟨_, rfl⟩
  rw [hn] at c1 hSD hUS
  clear hown hg hcs htake kp hn hl0 h0
  go_enter Tryz.func16, Tryz.ntmps16
  go_upto_region 1 with fail
  refine Tx.start (fun w' => w' = w.drew) 10 12 rfl (by kernel_rfl) ?_
  refine Tx.seg2 (A := ?_) 2 1023 (by kernel_rfl) (by exact rfl) [0, 1, 2, 3, 4, 5, 6, 7, 8, 9] (by kernel_rfl) ?_ ?_
  rotate_left
  · intro w' hB
    subst hB
    iterate 10 (first | (refine rd_skip rfl rfl ?_; simp only [Act.put, List.setIfInBounds_toArray, List.set_cons_zero, List.set_cons_succ]) | (refine rd_take (v := ?_) rfl rfl ?_ ?_; rotate_left; (focus (go_simp; try (with_reducible rfl))); simp only [Act.put, List.setIfInBounds_toArray, List.set_cons_zero, List.set_cons_succ]))
    exact rd_nil
  refine Tx.bar 2047 rfl (by decide +kernel) (fun K hK => ?_)
  go_simp
  refine hK (fun _ => True) 9999 _ _ ?_
  clear hK K
  try simp only [Act.put, List.setIfInBounds_toArray, List.set_cons_zero, List.set_cons_succ]
  refine Tx.seg (A := ?_) 0 4095 (by kernel_rfl) (by exact trivial) [11] (by kernel_rfl) ?_ ?_
  rotate_left
  · intro w' hB
    iterate 1 (first | (refine rd_skip rfl rfl ?_; simp only [Act.put, List.setIfInBounds_toArray, List.set_cons_zero, List.set_cons_succ]) | (refine rd_load_arr rfl rfl _ _ rfl _ rfl (by decide +kernel) _ (by assumption) (by first | (rw [lims_len]; kernel_rfl) | (rw [el_rep]; kernel_rfl) | (rw [el_len]; kernel_rfl) | (rw [byts_len]; kernel_rfl) | (rw [us_len]; kernel_rfl) | (rw [bytn_len]; kernel_rfl) | (rw [ens_len, digs_len]; kernel_rfl) | (rw [ptL_len]; kernel_rfl) | (rw [pcs_len]; kernel_rfl) | kernel_rfl) ?_; simp only [Act.put, List.setIfInBounds_toArray, List.set_cons_zero, List.set_cons_succ]) | (refine rd_take (v := ?_) rfl rfl ?_ ?_; rotate_left; (focus (go_simp; try (with_reducible rfl))); simp only [Act.put, List.setIfInBounds_toArray, List.set_cons_zero, List.set_cons_succ]))
    exact rd_nil
  refine Tx.done (by kernel_rfl) ?_
  go_wp2_with fail
  go_ret
  exact ⟨rfl, Lib.below_freeze (Below.drew (Below.refl B w)) (p := ⟨g, 0, none⟩) hbg _⟩
/-- How many lines a text has. -/
def nLn (l : List UInt8) : Nat := if (lns 10 l)[l.count 10]? = some [] then l.count 10 else l.count 10 + 1
set_option maxHeartbeats 1000000 in
set_option maxRecDepth 100000 in
theorem lines_any (s : ByteArray) (w : World) (hs : s.size < 4294967281) :
    Calls Tryz.prog 11 #[.string s] w fun e w' => ∃ g c, e = .returned (.slice (some ⟨g, 0, none⟩) (nLn s.data.toList) c) ∧ w.heap.size ≤ g ∧ Arr w' g (strs (lns 10 s.data.toList)) ∧ Below w.heap.size w w' := by
  have cS := Lib.hid (split_any 10 s w hs)
  obtain ⟨n, hn⟩ : ∃ n, s.data.toList.count 10 = n := ⟨_, rfl⟩
  have hln := lns_len 10 s.data.toList
  have hcl : n ≤ s.size := by
    rw [← hn]
    have := List.count_le_length (a := (10 : UInt8)) (l := s.data.toList)
    simpa using this
  rw [hn] at hln
  unfold nLn
  rw [hn]
  obtain ⟨L, hL⟩ : ∃ L, lns 10 s.data.toList = L := ⟨_, rfl⟩
  rw [hL] at cS hln ⊢
  rw [hln] at cS
  obtain ⟨x, hx⟩ : ∃ x, L[n]? = some x := ⟨_, List.getElem?_eq_getElem (by omega)⟩
  rw [hx]
  obtain ⟨N, hN⟩ : ∃ N, (if some x = some [] then n else n + 1) = N := ⟨_, rfl⟩
  rw [hN]
  replace hN := Lib.hid hN
  replace hln := Lib.hid hln
  clear hL hn
  go_enter Tryz.func11, Tryz.ntmps11
  go_wp2_with fail
  refine cS.out.mono ?_
  rintro e w1 ⟨rfl, hw1⟩
  have kL : Arr w1 w.heap.size (strs L) := by rw [hw1]; exact Arr.new _ _ _
  have kb : Below w.heap.size w w1 := by rw [hw1]; exact below_alloc _ _
  have y := kL.cell (j := n) (u := .string ⟨x.toArray⟩) (by simp [strs, hx])
  have ew : IntKind.i64.wrap ((n : Int) + 1 - 1) = n := by rw [show (n : Int) + 1 - 1 = n by omega]; exact i64_in (by omega)
  clear hw1 cS
  by_cases hx0 : x = []
  · subst hx0
    have hNn := hN.out
    rw [if_pos rfl] at hNn
    subst hNn
    go_wp2_with fail
    go_ret
    exact ⟨_, _, rfl, Nat.le_refl _, kL, kb⟩
  · have hNn := hN.out
    rw [if_neg (by simpa using hx0)] at hNn
    subst hNn
    have hxe : (⟨x.toArray⟩ : ByteArray).toList.isEmpty = false := isE (by
      cases x with
      | nil => exact absurd rfl hx0
      | cons _ _ => rfl)
    obtain ⟨XS, hXS⟩ : ∃ X : ByteArray, (⟨x.toArray⟩ : ByteArray) = X := ⟨_, rfl⟩
    rw [hXS] at hxe y
    go_wp2_with fail
    go_ret
    exact ⟨_, _, rfl, Nat.le_refl _, kL, kb⟩
end Go.Proofs.YtibdgkhkhmdihaaGreatDoor

