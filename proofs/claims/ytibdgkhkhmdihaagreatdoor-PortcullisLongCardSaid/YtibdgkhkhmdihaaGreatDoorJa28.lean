import Derived.Test.YtibdgkhkhmdihaaGreatDoorJa27
import Derived.WideMake
import Derived.Test.YtibdgkhkhmdihaaGreatDoorJa04
import Derived.Recover
import Derived.Test.YtibdgkhkhmdihaaGreatDoorJa03
import Derived.Maps.AppendAt

namespace Go.Proofs.YtibdgkhkhmdihaaGreatDoor
open Go.RowKit
/-- A map's entries. -/
def mpE : List (ByteArray × Value) → Nat → List MapEntry
  | [], _ => []
  | (s, v) :: l, n => { key := .string s, val := v, born := n } :: mpE l (n + 1)
/-- A map with texts as keys, at block r. -/
def Mp (w : World) (r : Nat) (l : List (ByteArray × Value)) : Prop := w.heap[r]? = some (.map (mpE l 0).toArray l.length)
theorem Mp.lt {w : World} {r : Nat} {l : List (ByteArray × Value)} (h : Mp w r l) : r < w.heap.size := (Array.getElem?_eq_some_iff.1 h).1
theorem Mp.below {w w' : World} {r : Nat} {l : List (ByteArray × Value)} (h : Mp w r l) (hb : Below w.heap.size w w') : Mp w' r l := by
  unfold Mp; rw [hb.block r h.lt]; exact h
theorem Mp.ch {M : List Nat} {w w' : World} {r : Nat} {l : List (ByteArray × Value)} (h : Mp w r l) (hb : Ch M w w') (hr : r ∉ M) : Mp w' r l := by
  unfold Mp; rw [hb.block r h.lt hr]; exact h
theorem Mp.cp {p B : Nat} {w w' : World} {r : Nat} {l : List (ByteArray × Value)} (h : Mp w r l) (hb : Cp p B w w') (hr : r < B) (hp : r ≠ p) : Mp w' r l := by
  unfold Mp; rw [hb.block r hr hp]; exact h
/-- What stands at a key, and where. -/
def mpF (s : ByteArray) : List (ByteArray × Value) → Nat → Option (Nat × Value)
  | [], _ => none
  | (k, v) :: l, i => if s.data.toList == k.data.toList then some (i, v) else mpF s l (i + 1)
theorem ba_beq (s k : ByteArray) : (s == k) = (s.data.toList == k.data.toList) := by
  obtain ⟨a⟩ := s
  obtain ⟨b⟩ := k
  show (a == b) = (a.toList == b.toList)
  rw [Bool.eq_iff_iff, beq_iff_eq, beq_iff_eq, Array.toList_inj]
theorem findNow_mp (s : ByteArray) : ∀ (l : List (ByteArray × Value)) (n i : Nat), Instr.findNow .string (.string s) (mpE l n) i = some (mpF s l i)
  | [], _, _ => rfl
  | (k, v) :: l, n, i => by
    unfold mpE Instr.findNow mpF
    simp only [Instr.sameNow]
    rw [ba_beq]
    cases h : s.data.toList == k.data.toList
    · simpa using findNow_mp s l (n + 1) (i + 1)
    · rfl
theorem mpE_snoc (s : ByteArray) (v : Value) : ∀ (l : List (ByteArray × Value)) (n : Nat), mpE (l ++ [(s, v)]) n = mpE l n ++ [{ key := .string s, val := v, born := n + l.length }]
  | [], _ => rfl
  | (k, u) :: l, n => by
    simp only [List.cons_append, mpE, mpE_snoc s v l (n + 1), List.length_cons]
    rw [show n + 1 + l.length = n + (l.length + 1) by omega]
theorem run_insert {P : Program} {w : World} (mty kt et : TypeId) (r : Nat) (s : ByteArray) (v : Value) (hm : P.underlying mty = some (.map kt et)) (hk : P.underlying kt = some .string) (l : List (ByteArray × Value)) (hb : Mp w r l) (hn : mpF s l 0 = none) :
    (Instr.mapUpdate mty (.map (some r)) (.string s) v).run P w = .ok () { w with heap := w.heap.setIfInBounds r (.map (mpE (l ++ [(s, v)]) 0).toArray (l ++ [(s, v)]).length) } := by
  have hf : Instr.findNow .string (.string s) (mpE l 0).toArray.toList 0 = some none := by rw [show (mpE l 0).toArray.toList = mpE l 0 from rfl, findNow_mp, hn]
  have hc : (Instr.checkKey false 10000 kt (.string s)).run P w = .ok () w := MapKept.run_checkKey (k := .string s) hk (by simp [MapKept.IsKey]) false 9999
  have hb' : w.heap[r]? = some (.map (mpE l 0).toArray l.length) := hb
  simp [Instr.mapUpdate, run_underlying hm, MapKept.run_getObj_map hb', hc, MapKept.run_findKey hk hf, MapKept.run_setObj_map _ hb', Result.andThen, mpE_snoc]
theorem mp_put {w : World} {r : Nat} {l l' : List (ByteArray × Value)} (hb : Mp w r l) : Mp { w with heap := w.heap.setIfInBounds r (.map (mpE l' 0).toArray l'.length) } r l' := by
  have := hb.lt
  simp [Mp, this]
theorem gr_put {w : World} {r : Nat} (o : Obj) : w.grownBy { w with heap := w.heap.setIfInBounds r o } (some r) :=
  ⟨rfl, rfl, rfl, by simp, fun k hk hn => by
    simp only [Array.getElem?_setIfInBounds]
    rw [if_neg (fun h => hn (by rw [h]))]⟩
theorem wpl_insert {P : Program} {w : World} {ops : Array Oper} {rest : List Oper} {o : Oper} {a : Act} {Q : Exit → Act → World → Prop} (hgd : o.guard = none) (mty kt et : TypeId) (m k x : Operand) (ho : o.op = .insert mty m k x)
    (r : Nat) (s : ByteArray) (v : Value) (hmv : a.eval m = .map (some r)) (hkv : a.eval k = .string s) (hxv : a.eval x = v) (hm : P.underlying mty = some (.map kt et)) (hk : P.underlying kt = some .string) (l : List (ByteArray × Value)) (hb : Mp w r l) (hn : mpF s l 0 = none)
    (h : ∀ W, Mp W r (l ++ [(s, v)]) → w.grownBy W (some r) → wpList P ops Q rest (a.put o.dst undef) W) : wpList P ops Q (o :: rest) a w := by
  refine wpList_plain hgd fun K hK => ?_
  unfold Oper.wp execOp
  simp only [ho, hmv, hkv, hxv, Sem.run_bind, Sem.run_pure, Result.andThen_ok, run_insert mty kt et r s v hm hk l hb hn]
  exact hK _ _ (h _ (mp_put hb) (gr_put _))
theorem run_look {P : Program} {w : World} (mty kt et : TypeId) (r : Nat) (s : ByteArray) (hm : P.underlying mty = some (.map kt et)) (hk : P.underlying kt = some .string) (l : List (ByteArray × Value)) (hb : Mp w r l) {i : Nat} {v : Value} (hn : mpF s l 0 = some (i, v)) :
    (Instr.lookup mty (.map (some r)) (.string s) true).run P w = .ok (.tuple #[v, .bool true]) w := by
  have hf : Instr.findNow .string (.string s) (mpE l 0).toArray.toList 0 = some (some (i, v)) := by rw [show (mpE l 0).toArray.toList = mpE l 0 from rfl, findNow_mp, hn]
  have hc : ∀ b, (Instr.checkKey b 10000 kt (.string s)).run P w = .ok () w := fun b => MapKept.run_checkKey (k := .string s) hk (by simp [MapKept.IsKey]) b 9999
  have hb' : w.heap[r]? = some (.map (mpE l 0).toArray l.length) := hb
  simp [Instr.lookup, run_underlying hm, MapKept.run_getObj_map hb', hc, MapKept.run_findKey hk hf, Result.andThen]
theorem run_look_none {P : Program} {w : World} (mty kt et : TypeId) (r : Nat) (s : ByteArray) (z : Value) (hm : P.underlying mty = some (.map kt et)) (hk : P.underlying kt = some .string) (hz : (zeroValue et).run P w = .ok z w) (l : List (ByteArray × Value)) (hb : Mp w r l) (hn : mpF s l 0 = none) :
    (Instr.lookup mty (.map (some r)) (.string s) true).run P w = .ok (.tuple #[z, .bool false]) w := by
  have hf : Instr.findNow .string (.string s) (mpE l 0).toArray.toList 0 = some none := by rw [show (mpE l 0).toArray.toList = mpE l 0 from rfl, findNow_mp, hn]
  have hc : ∀ b, (Instr.checkKey b 10000 kt (.string s)).run P w = .ok () w := fun b => MapKept.run_checkKey (k := .string s) hk (by simp [MapKept.IsKey]) b 9999
  have hb' : w.heap[r]? = some (.map (mpE l 0).toArray l.length) := hb
  simp [Instr.lookup, run_underlying hm, MapKept.run_getObj_map hb', hc, MapKept.run_findKey hk hf, Result.andThen, hz]
def cmdV (k : List UInt8) (f : Nat) : Value := .agg #[.string ⟨k.toArray⟩, .func (.func f) #[] #[]]
/-- The commands: their names, the kinds of their words, what they do. -/
def cmdL : List (ByteArray × Value) := [
  (⟨#[110, 101, 119]⟩, cmdV [78, 78] 22), (⟨#[105, 109, 97, 103, 101]⟩, cmdV [78, 78, 84] 23),
  (⟨#[102, 101, 101, 100]⟩, cmdV [] 24), (⟨#[98, 108, 111, 99, 107]⟩, cmdV [78] 25),
  (⟨#[98, 108, 111, 99, 107, 115]⟩, cmdV [] 26), (⟨#[99, 111, 109, 109, 105, 116]⟩, cmdV [] 27),
  (⟨#[99, 111, 110, 102, 105, 114, 109]⟩, cmdV [] 28), (⟨#[98, 111, 111, 116]⟩, cmdV [] 29),
  (⟨#[114, 101, 97, 100]⟩, cmdV [78] 30), (⟨#[114, 101, 118, 111, 107, 101]⟩, cmdV [78] 31),
  (⟨#[99, 114, 97, 115, 104]⟩, cmdV [78, 78] 32), (⟨#[99, 121, 99, 108, 101]⟩, cmdV [] 33),
  (⟨#[112, 111, 107, 101]⟩, cmdV [78, 84] 34), (⟨#[113, 117, 111, 116, 101]⟩, cmdV [] 35),
  (⟨#[115, 116, 97, 116, 101]⟩, cmdV [] 36)]
set_option maxHeartbeats 4000000 in
set_option maxRecDepth 100000 in
theorem commands_any (w : World) :
    Calls Tryz.prog 14 #[] w fun e w' => e = .returned (.map (some w.heap.size)) ∧ Mp w' w.heap.size cmdL ∧ Below w.heap.size w w' := by
  have hmm := @run_makeMap Tryz.prog
  go_enter Tryz.func14, Tryz.ntmps14
  have kM : Mp (w.alloc (.map #[] 0)) w.heap.size [] := heap_alloc_new w _
  have kb : Below w.heap.size w (w.alloc (.map #[] 0)) := below_alloc _ _
  go_wp2_with (refine wpl_insert rfl 47 9 58 _ _ _ rfl _ _ _ rfl rfl rfl (by kernel_rfl) (by kernel_rfl) _ kM (by kernel_rfl) (fun W k2 hg => ?_); have kb2 := below_gr kb hg (Nat.le_refl _) kb.size; clear kM kb hg; have kM := k2; have kb := kb2; clear k2 kb2)
  go_ret
  exact ⟨rfl, kM, kb⟩
end Go.Proofs.YtibdgkhkhmdihaaGreatDoor


namespace Go.Proofs.YtibdgkhkhmdihaaGreatDoor
open Go.RowKit
def errorL : List UInt8 := [101, 114, 114, 111, 114]
theorem catch_idle (bp : Nat) (w : World) :
    CallsD Tryz.prog 37 #[.pointer (some ⟨bp, 0, none⟩)] .returning w fun e u' w' => e = .returned (.tuple #[]) ∧ u' = .returning ∧ w' = w := by
  refine callsD_of_wpS Tryz.func37 rfl fun c₀ cs hu => ?_
  apply wpS_seq
  apply wpS_region
  simp [wpOpsS, go_sem, recoverD, hu, Tryz.ntmps37, Exit.thenS]
  refine wpS_of_wp ?_
  refine Code.wp_mono (Q := fun e a' w' => e = .normal ∧ a'.defers = [] ∧ w' = w) ?_ ?_
  · rintro e a' w' ⟨rfl, hd, rfl⟩
    cases c₀
    simp_all [bodyPostS, results, Tryz.results37]
  simp only [Array.replicate_succ, Array.replicate_zero, List.push_toArray, List.append_toArray, List.nil_append, List.cons_append, List.setIfInBounds_toArray, List.set_cons_zero, List.set_cons_succ]
  go_wp2
set_option maxHeartbeats 1000000 in
set_option maxRecDepth 100000 in
theorem catch_no (P bp n : Nat) (hn : n < 100) (w : World) (Q : World → Prop) (hc : w.cell? ⟨bp, 0, none⟩ = some (.pointer (some ⟨P, 0, none⟩)))
    (hsay : ∀ W v, Below w.heap.size w W → Sts W v [errorL, Lib.decDigits n] → Calls Tryz.prog 38 #[.pointer (some ⟨P, 0, none⟩), v] W fun e w' => e = .returned (.tuple #[]) ∧ Q w') :
    CallsD Tryz.prog 37 #[.pointer (some ⟨bp, 0, none⟩)] (.panicking [{ v := refu n, recovered := false }]) w fun e u' w' => e = .returned (.tuple #[]) ∧ u' = .panicking [{ v := refu n, recovered := true }] ∧ Q w' := by
  refine callsD_of_wpS Tryz.func37 rfl fun c₀ cs hu => ?_
  apply wpS_seq
  apply wpS_region
  unfold refu at hu ⊢
  simp [wpOpsS, go_sem, recoverD, hu, Tryz.ntmps37, Exit.thenS]
  refine wpS_of_wp ?_
  refine Code.wp_mono (Q := fun e a' w' => e = .normal ∧ a'.defers = [] ∧ Q w') ?_ ?_
  · rintro e a' w' ⟨rfl, hd, hq⟩
    simp_all [bodyPostS, results, Tryz.results37]
  simp only [Array.replicate_succ, Array.replicate_zero, List.push_toArray, List.append_toArray, List.nil_append, List.cons_append, List.setIfInBounds_toArray, List.set_cons_zero, List.set_cons_succ]
  clear hu
  replace hsay := Lib.hid hsay
  have hta : ∀ w, (Instr.typeAssert (.iface 61 (.agg #[.int .i64 (n : Int)])) 20 61 true).run Tryz.prog w = .ok (.tuple #[.agg #[.int .i64 (n : Int)], .bool true]) w := fun _ => by kernel_rfl
  have hcl := World.block_lt_of_cell? w _ hc
  go_upto_region 5 with fail
  have kb := below_alloc w (.cells #[.int .i64 (n : Int)] 61)
  have kA : Arr (w.alloc (.cells #[.int .i64 (n : Int)] 61)) w.heap.size [.int .i64 (n : Int)] := Arr.new _ _ _
  have hcc : Hid (Cells w ⟨bp, 0, none⟩ [.pointer (some ⟨P, 0, none⟩)]) := Lib.hid (fun j u hu => by
    match j, hu with
    | 0, hu => simp at hu; subst hu; exact hc)
  have cD := Lib.hid (fun w => show Calls Tryz.prog 12 #[.int .i64 (n : Int)] w fun e w' => e = .returned (.string ⟨(Lib.decDigits n).toArray⟩) ∧ Below w.heap.size w w' from (dec_small n hn w).mono (fun e w' ⟨he, hw⟩ => ⟨he, hw ▸ Below.refl _ _⟩))
  obtain ⟨W, hW⟩ : ∃ W, w.alloc (.cells #[.int .i64 (n : Int)] 61) = W := ⟨_, rfl⟩
  rw [hW] at kb kA ⊢
  obtain ⟨D, hD⟩ : ∃ D, Lib.decDigits n = D := ⟨_, rfl⟩
  rw [hD] at cD hsay
  clear hW hD hc hta
  refine Tx.start (fun w' => Below (W).heap.size (W) w') 5 6 rfl (by kernel_rfl) ?_
  have hS_1 : Below (W).heap.size (W) (World.drew W) := (Below.refl _ _).drew
  refine Tx.seg2 (A := ?_) 3 7 (by kernel_rfl) (by exact hS_1) [0, 1, 2] (by kernel_rfl) ?_ ?_
  rotate_left
  · intro w' hB
    have y0 : w'.cell? ⟨bp, 0, none⟩ = some (.pointer (some ⟨P, 0, none⟩)) := by
      have := (hcc.out.below (bel kb hB)) 0 _ rfl
      simpa [Addr.add] using this
    have y2 := (kA.below hB).cell (j := 0) rfl
    iterate 3 (first | (refine rd_skip rfl rfl ?_; simp only [Act.put, List.setIfInBounds_toArray, List.set_cons_zero, List.set_cons_succ]) | (refine rd_load_arr rfl rfl _ _ rfl _ rfl (by decide +kernel) _ (by assumption) (by first | (rw [lims_len]; kernel_rfl) | (rw [el_rep]; kernel_rfl) | (rw [el_len]; kernel_rfl) | (rw [byts_len]; kernel_rfl) | (rw [us_len]; kernel_rfl) | (rw [bytn_len]; kernel_rfl) | (rw [ens_len, digs_len]; kernel_rfl) | (rw [ptL_len]; kernel_rfl) | (rw [pcs_len]; kernel_rfl) | kernel_rfl) ?_; simp only [Act.put, List.setIfInBounds_toArray, List.set_cons_zero, List.set_cons_succ]) | (refine rd_take (v := ?_) rfl rfl ?_ ?_; rotate_left; (focus (go_simp; try (with_reducible rfl))); simp only [Act.put, List.setIfInBounds_toArray, List.set_cons_zero, List.set_cons_succ]))
    exact rd_nil
  refine Tx.eff 3 15 rfl (by decide +kernel) (fun K hK => ?_)
  go_simp
  refine (cD.out _).mono ?_
  rintro e w_2 ⟨rfl, hb_2⟩
  have hS_2 := ext_trans hS_1 (Nat.le_refl _) hb_2
  refine hK (fun w' => Below (W).heap.size (W) w') _ _ hS_2 (fun _ h => h) ?_
  clear hK K hb_2 hS_1
  try simp only [Act.put, List.setIfInBounds_toArray, List.set_cons_zero, List.set_cons_succ]
  refine Tx.eff 4 31 rfl (by decide +kernel) (fun K hK => ?_)
  go_simp
  refine hK (fun w' => Below (W).heap.size (W) w') _ _ (ext_trans hS_2 (Nat.le_refl _) (below_alloc _ _)) (fun _ h => h) ?_
  clear hK K
  try simp only [Act.put, List.setIfInBounds_toArray, List.set_cons_zero, List.set_cons_succ]
  refine Tx.newF (F := fun w' => Sts w' (.slice (some ⟨(w_2).heap.size, 0, none⟩) 2 2) [errorL, D]) (w0 := w_2) (Sts.new2 _ _ _ _) (fun w1 h => h.below (Below.refl _ _).drew) (by first | exact .inl rfl | exact .inr rfl) (fun w_3 kS hb_3 => ?_)
  have hS_3 : Below (W).heap.size (W) w_3 := by first | exact hb_3 | exact ext_trans hS_2 (Nat.le_refl _) hb_3
  clear hS_2
  have kb5 := bel kb (show Below W.heap.size W w_3 by assumption)
  refine Tx.bar 63 rfl (by decide +kernel) (fun K hK => ?_)
  go_simp
  refine (hsay.out _ _ kb5 kS).mono ?_
  rintro e w9 ⟨rfl, hq⟩
  refine hK (fun _ => True) 9999 _ _ ?_
  clear hK K
  try simp only [Act.put]
  try simp only [List.setIfInBounds_toArray, List.set_cons_zero, List.set_cons_succ]
  refine Tx.done (by kernel_rfl) ?_
  exact ⟨rfl, rfl, hq⟩
end Go.Proofs.YtibdgkhkhmdihaaGreatDoor


namespace Go.Proofs.YtibdgkhkhmdihaaGreatDoor
open Go.RowKit
def digL : List UInt8 := [48, 49, 50, 51, 52, 53, 54, 55, 56, 57]
theorem trim_digits {l : List UInt8} (h : ∀ b ∈ l, b ∈ digL) : Lib.trimS l digL = [] := by
  have hl : ∀ m : List UInt8, (∀ b ∈ m, b ∈ digL) → Lib.trimLeftS m digL = [] := by
    intro m hm
    unfold Lib.trimLeftS
    induction m with
    | nil => rfl
    | cons b m ih =>
      rw [List.dropWhile_cons_of_pos (by simpa using hm b (by simp))]
      exact ih (fun x hx => hm x (by simp [hx]))
  unfold Lib.trimS
  apply hl
  intro b hb
  apply h
  unfold Lib.trimRightS at hb
  simp only [List.mem_reverse] at hb
  exact List.mem_reverse.1 ((List.dropWhile_sublist _).subset hb)
theorem below_bytes (w : World) (e : TypeId) (t : ByteArray) : Below w.heap.size w (Lib.bytesWorld w e t) := by
  unfold Lib.bytesWorld
  exact Lib.below_freeze (((Below.refl _ _).drew).alloc (Nat.le_refl _) _) (Nat.le_refl _) _
set_option maxHeartbeats 1000000 in
set_option maxRecDepth 100000 in
theorem number_ok (s : ByteArray) (n : Int) (c : UInt8) (hd : ∀ b ∈ s.data.toList, b ∈ digL) (h0 : s.data.toList[0]? = some c) (h6 : s.size ≤ 6) (hz : s = ⟨#[48]⟩ ∨ c ≠ 48) (ha : Lib.atoi s.data.toList = some n) (w : World) :
    Calls Tryz.prog 40 #[.string s] w fun e w' => e = .returned (.int .i64 n) ∧ Below w.heap.size w w' := by
  have cT := Lib.hid (fun (w : World) => show Calls Tryz.prog 66 #[.string s, .string ⟨#[48, 49, 50, 51, 52, 53, 54, 55, 56, 57]⟩] w fun e w' => e = .returned (.string ⟨#[]⟩) ∧ Below w.heap.size w w' from by
    have q := Any.strings_Trim_laid sh_lays160 (by kernel_rfl) s ⟨#[48, 49, 50, 51, 52, 53, 54, 55, 56, 57]⟩ w (by omega) (by decide) (fun j b hb => by
      have : b ∈ digL := List.mem_of_getElem? hb
      simp only [digL, List.mem_cons, List.not_mem_nil, or_false] at this
      rcases this with h | h | h | h | h | h | h | h | h | h <;> (subst h; decide))
    rw [show (⟨#[48, 49, 50, 51, 52, 53, 54, 55, 56, 57]⟩ : ByteArray).data.toList = digL from rfl, trim_digits hd] at q
    exact q)
  have cA := Lib.hid (fun (w : World) => show Calls Tryz.prog 67 #[.string s] w fun e w' => e = .returned (.tuple #[.int .i64 n, .nilIface]) ∧ Below w.heap.size w w' from by
    refine (Any.strconv_Atoi sh_lays172 s n (by omega) ha w).mono ?_
    rintro e w' ⟨he, t, rfl⟩
    exact ⟨he, below_bytes _ _ _⟩)
  have hs1 : 1 ≤ s.size := by
    rcases Nat.eq_zero_or_pos s.size with h | h
    · have : s.data.toList = [] := List.eq_nil_of_length_eq_zero (by simpa using h)
      rw [this] at h0
      simp at h0
    · exact h
  have he : s.toList.isEmpty = false := by
    rw [Lib.toList_data]
    cases h : s.data.toList with
    | nil => rw [h] at h0; simp at h0
    | cons _ _ => rfl
  clear hd ha
  rcases hz with rfl | hz
  · clear h0 h6 hs1 he
    go_enter Tryz.func40, Tryz.ntmps40
    go_wp2_with fail
    refine (cT.out _).mono ?_
    rintro e w1 ⟨rfl, hb⟩
    clear cT
    go_wp2_with fail
    refine (cA.out _).mono ?_
    rintro e w2 ⟨rfl, hb2⟩
    clear cA
    have hb3 := bel hb hb2
    clear hb hb2
    go_wp2_with fail
    go_ret
    exact ⟨rfl, hb3⟩
  · obtain ⟨k, hk⟩ : ∃ k : Int, (s.size : Int) = k := ⟨_, rfl⟩
    have hk6 : ¬ (6 < k) := by omega
    have hq : ∀ h : 0 < s.size, (((s[0]'h).toNat : Int) == 48) = false := by
      intro h
      have hsc : s[0] = c := by
        have h1 : s.data.toList[0]? = some s[0] := by
          rw [List.getElem?_eq_getElem (by simpa using h)]
          rfl
        rw [h1] at h0
        injection h0
      have h48 : c.toNat ≠ 48 := fun hh => hz (UInt8.toNat_inj.1 hh)
      have : ((c.toNat : Nat) : Int) ≠ 48 := by omega
      rw [hsc]
      simpa using this
    clear h0 hz h6
    go_enter Tryz.func40, Tryz.ntmps40
    go_wp2_with fail
    refine (cT.out _).mono ?_
    rintro e w1 ⟨rfl, hb⟩
    clear cT
    go_wp2_with fail
    refine (cA.out _).mono ?_
    rintro e w2 ⟨rfl, hb2⟩
    clear cA
    have hb3 := bel hb hb2
    clear hb hb2
    go_wp2_with fail
    go_ret
    exact ⟨rfl, hb3⟩
end Go.Proofs.YtibdgkhkhmdihaaGreatDoor


namespace Go.Proofs.YtibdgkhkhmdihaaGreatDoor
open Go.RowKit
theorem isE {s : ByteArray} {b : Bool} (h : s.data.toList.isEmpty = b) : s.toList.isEmpty = b := by rw [Lib.toList_data]; exact h
theorem trim_ne {l : List UInt8} (h : ∃ b ∈ l, b ∉ digL) : Lib.trimS l digL ≠ [] := by
  intro h0
  have hd : ∀ m : List UInt8, Lib.trimLeftS m digL = [] → ∀ b ∈ m, b ∈ digL := by
    intro m
    unfold Lib.trimLeftS
    induction m with
    | nil => simp
    | cons c m ih =>
      intro hm b hb
      by_cases hc : digL.contains c = true
      · rw [List.dropWhile_cons_of_pos hc] at hm
        rcases List.mem_cons.1 hb with rfl | hb
        · simpa using hc
        · exact ih hm b hb
      · rw [List.dropWhile_cons_of_neg hc] at hm
        cases hm
  obtain ⟨b, hb, hn⟩ := h
  unfold Lib.trimS at h0
  have h1 := hd _ h0
  unfold Lib.trimRightS at h1
  have h2 : ∀ m : List UInt8, (∀ x ∈ m.dropWhile (digL.contains ·), x ∈ digL) → ∀ x ∈ m, x ∈ digL := by
    intro m
    induction m with
    | nil => simp
    | cons c m ih =>
      intro hm x hx
      by_cases hc : digL.contains c = true
      · rw [List.dropWhile_cons_of_pos hc] at hm
        rcases List.mem_cons.1 hx with rfl | hx
        · simpa using hc
        · exact ih hm x hx
      · rw [List.dropWhile_cons_of_neg hc] at hm
        exact hm x hx
  exact hn (h2 l.reverse (fun x hx => h1 x (List.mem_reverse.2 hx)) b (List.mem_reverse.2 hb))
/-- Why a text is no number. -/
def NoNum (s : ByteArray) : Prop := s.data.toList = [] ∨ 6 < s.size ∨ (∃ b ∈ s.data.toList, b ∉ digL) ∨ (s.data.toList[0]? = some 48 ∧ s.data.toList ≠ [48])
set_option maxHeartbeats 1000000 in
set_option maxRecDepth 100000 in
theorem number_no (s : ByteArray) (hno : NoNum s) (w : World) :
    Calls Tryz.prog 40 #[.string s] w fun e w' => e = .panicked [{ v := refu 2, recovered := false }] ∧ Below w.heap.size w w' := by
  have cM := Lib.hid (must_no 2 (by decide))
  by_cases h0 : s.data.toList = []
  · have he := isE (s := s) (b := true) (by rw [h0]; rfl)
    clear hno h0
    go_enter Tryz.func40, Tryz.ntmps40
    go_wp2_with fail
    refine (cM.out _).mono ?_
    rintro e w1 ⟨rfl, rfl⟩
    exact ⟨rfl, rfl, Below.refl _ _⟩
  have he := isE (s := s) (b := false) (by cases h : s.data.toList with | nil => exact absurd h h0 | cons _ _ => rfl)
  have hs1 : 1 ≤ s.size := by
    rcases Nat.eq_zero_or_pos s.size with h | h
    · exact absurd (List.eq_nil_of_length_eq_zero (by simpa using h)) h0
    · exact h
  obtain ⟨k, hk⟩ : ∃ k : Int, (s.size : Int) = k := ⟨_, rfl⟩
  by_cases h6 : 6 < s.size
  · have hk6 : 6 < k := by omega
    clear hno h0 h6
    go_enter Tryz.func40, Tryz.ntmps40
    go_wp2_with fail
    refine (cM.out _).mono ?_
    rintro e w1 ⟨rfl, rfl⟩
    exact ⟨rfl, rfl, Below.refl _ _⟩
  have hk6 : ¬ 6 < k := by omega
  obtain ⟨T, hT⟩ : ∃ T, Lib.trimS s.data.toList digL = T := ⟨_, rfl⟩
  have cT := Lib.hid (fun (w : World) => show Calls Tryz.prog 66 #[.string s, .string ⟨#[48, 49, 50, 51, 52, 53, 54, 55, 56, 57]⟩] w fun e w' => e = .returned (.string ⟨T.toArray⟩) ∧ Below w.heap.size w w' from by
    have q := Any.strings_Trim_laid sh_lays160 (by kernel_rfl) s ⟨#[48, 49, 50, 51, 52, 53, 54, 55, 56, 57]⟩ w (by omega) (by decide) (fun j b hb => by
      have : b ∈ digL := List.mem_of_getElem? hb
      simp only [digL, List.mem_cons, List.not_mem_nil, or_false] at this
      rcases this with h | h | h | h | h | h | h | h | h | h <;> (subst h; decide))
    rw [show (⟨#[48, 49, 50, 51, 52, 53, 54, 55, 56, 57]⟩ : ByteArray).data.toList = digL from rfl, hT] at q
    exact q)
  by_cases hd : ∃ b ∈ s.data.toList, b ∉ digL
  · have hTn := trim_ne hd
    rw [hT] at hTn
    have hTe : (⟨T.toArray⟩ : ByteArray).toList.isEmpty = false := isE (by
      cases T with
      | nil => exact absurd rfl hTn
      | cons _ _ => rfl)
    obtain ⟨TA, hTA⟩ : ∃ TA : ByteArray, (⟨T.toArray⟩ : ByteArray) = TA := ⟨_, rfl⟩
    rw [hTA] at cT hTe
    clear hno h0 h6 hd hTn hT hTA
    go_enter Tryz.func40, Tryz.ntmps40
    go_wp2_with fail
    refine (cT.out _).mono ?_
    rintro e w1 ⟨rfl, hb⟩
    clear cT
    go_wp2_with fail
    refine (cM.out _).mono ?_
    rintro e w2 ⟨rfl, rfl⟩
    exact ⟨rfl, rfl, hb⟩
  have hz : s.data.toList[0]? = some 48 ∧ s.data.toList ≠ [48] := by
    rcases hno with h | h | h | h
    · exact absurd h h0
    · exact absurd h h6
    · exact absurd h hd
    · exact h
  have hTe : T = [] := by
    rw [← hT]
    exact trim_digits (fun b hb => Classical.byContradiction fun h => hd ⟨b, hb, h⟩)
  subst hTe
  have hq : ∀ h : 0 < s.size, (((s[0]'h).toNat : Int) == 48) = true := by
    intro h
    have hsc : s[0] = 48 := by
      have h1 : s.data.toList[0]? = some s[0] := by
        rw [List.getElem?_eq_getElem (by simpa using h)]
        rfl
      rw [hz.1] at h1
      injection h1 with h1
      exact h1.symm
    rw [hsc]
    rfl
  have hs0 : (s.toList == [48]) = false := by
    rw [Lib.toList_data]
    simpa using hz.2
  clear hno h0 h6 hd hT hz
  go_enter Tryz.func40, Tryz.ntmps40
  go_wp2_with fail
  refine (cT.out _).mono ?_
  rintro e w1 ⟨rfl, hb⟩
  clear cT
  go_wp2_with fail
  refine (cM.out _).mono ?_
  rintro e w2 ⟨rfl, rfl⟩
  exact ⟨rfl, rfl, hb⟩
theorem dec_digits {l : List UInt8} (h : ∀ b ∈ l, b ∈ digL) : ∀ acc, ∃ n, Lib.decFrom acc l = some n := by
  induction l with
  | nil => intro acc; exact ⟨acc, rfl⟩
  | cons b l ih =>
    intro acc
    have hb : b ∈ digL := h b (by simp)
    have hd : ∃ d, Lib.digitVal b = some d := by
      simp only [digL, List.mem_cons, List.not_mem_nil, or_false] at hb
      rcases hb with h | h | h | h | h | h | h | h | h | h <;> (subst h; exact ⟨_, rfl⟩)
    obtain ⟨d, hd⟩ := hd
    unfold Lib.decFrom
    rw [hd]
    exact ih (fun x hx => h x (by simp [hx])) _
theorem atoi_digits {l : List UInt8} (h : ∀ b ∈ l, b ∈ digL) (h0 : l ≠ []) : ∃ n, Lib.atoi l = some n := by
  cases l with
  | nil => exact absurd rfl h0
  | cons b l =>
    have hb : b ∈ digL := h b (by simp)
    have h45 : (b == 45) = false ∧ (b == 43) = false := by
      simp only [digL, List.mem_cons, List.not_mem_nil, or_false] at hb
      rcases hb with h | h | h | h | h | h | h | h | h | h <;> (subst h; exact ⟨rfl, rfl⟩)
    obtain ⟨n, hn⟩ := dec_digits h 0
    refine ⟨(n : Int), ?_⟩
    unfold Lib.atoi Lib.decNat
    simp [h45.1, h45.2, hn]
/-- A number that is written. -/
noncomputable def numF (l : List UInt8) : Option Int := by
  classical
  exact if NoNum ⟨l.toArray⟩ then none else Lib.atoi l
theorem num_any (l : List UInt8) (w : World) :
    Calls Tryz.prog 40 #[.string ⟨l.toArray⟩] w fun e w' => (match numF l with | some n => e = .returned (.int .i64 n) | none => e = .panicked [{ v := refu 2, recovered := false }]) ∧ Below w.heap.size w w' := by
  classical
  unfold numF
  by_cases h : NoNum ⟨l.toArray⟩
  · rw [if_pos h]
    exact number_no ⟨l.toArray⟩ h w
  · rw [if_neg h]
    have hn : ¬ (l = [] ∨ 6 < l.length ∨ (∃ b ∈ l, b ∉ digL) ∨ (l[0]? = some 48 ∧ l ≠ [48])) := h
    have h0 : l ≠ [] := fun e => hn (.inl e)
    have h6 : l.length ≤ 6 := Nat.le_of_not_lt (fun e => hn (.inr (.inl e)))
    have hd : ∀ b ∈ l, b ∈ digL := fun b hb => Classical.byContradiction fun e => hn (.inr (.inr (.inl ⟨b, hb, e⟩)))
    obtain ⟨n, ha⟩ := atoi_digits hd h0
    rw [ha]
    obtain ⟨c, hc⟩ : ∃ c, l[0]? = some c := by
      cases l with
      | nil => exact absurd rfl h0
      | cons b l => exact ⟨b, rfl⟩
    exact number_ok ⟨l.toArray⟩ n c hd hc h6 (by
      by_cases h48 : c = 48
      · left
        subst h48
        have : l = [48] := Classical.byContradiction fun e => hn (.inr (.inr (.inr ⟨hc, e⟩)))
        rw [this]
      · exact .inr h48) ha w
end Go.Proofs.YtibdgkhkhmdihaaGreatDoor


namespace Go.Proofs.YtibdgkhkhmdihaaGreatDoor
open Go.RowKit
section
variable {P : Program} {Q : Exit → Act → World → Prop}
/-- As Tx; at a panic Q may say something. -/
def Txp (P : Program) (l : List Oper) (Q : Exit → Act → World → Prop) (S : World → Prop) (B f d : Nat) (a : Act) (w : World) : Prop :=
  wpAnyB P .any l.toArray Q S B f (mask l.length d) a w
theorem Txp.start {l : List Oper} {id : Nat} {a : Act} {w : World} (S : World → Prop) (B n : Nat) (hn : l.length = n) (hm : P.follows .mixedOrders = true) (h : Txp P l Q S B n 0 a w.drew) : (Code.region id l.toArray true).wp P Q a w := by
  refine wp_region_any hm ?_
  subst hn
  have e : l.toArray.size = l.length := by simp
  rw [e, mask_zero]
  exact wpAny_of_B _ _ _ _ h
theorem Txp.seg {l : List Oper} {S : World → Prop} {B : Nat} {w : World} {A : Act} (f' d' : Nat) (hQ : ∀ c a d v w, Q (.panic c) (Act.put a d v) w → Q (.panic c) a w) (hs : Region.noSelect l.toArray = true) (hS : S w) :
    ∀ (is : List Nat) {f d : Nat} {a : Act}, (segOk l a.tmps.size f' f d is d' && is.all (barOk l B)) = true → (∀ w', S w' → rd P l w' is a A) → Txp P l Q S B f' d' A w → Txp P l Q S B f d a w
  | [], f, d, a, hok, h, H => by
    simp only [segOk, Bool.and_eq_true, beq_iff_eq] at hok
    obtain ⟨⟨rfl, rfl⟩, -⟩ := hok
    rw [show a = A from h w hS]; exact H
  | i :: is, 0, d, a, hok, h, H => by simp [segOk] at hok
  | i :: is, f + 1, d, a, hok, h, H => by
    simp only [segOk, Bool.and_eq_true, List.all_cons] at hok
    obtain ⟨⟨⟨⟨hrest, hf⟩, hr⟩, hd⟩, hb1, hb2⟩ := hok
    cases hi : l[i]? with
    | none => rw [hi] at hd; cases hd
    | some o =>
      rw [hi] at hd
      cases hdst : o.dst with
      | none => simp [hdst] at hd
      | some e =>
        simp only [hdst] at hd
        simp only [Bool.and_eq_true, decide_eq_true_eq, Bool.not_eq_true'] at hd
        obtain ⟨v, hy, hgo⟩ := rd_step (P := P) hi hdst hd.1 hd.2 hS h
        have ih := Txp.seg f' d' hQ hs hS is (f := f) (d := d ||| 2 ^ i) (a := a.put o.dst v) (by rw [put_size, hrest, hb2]; rfl) hgo H
        unfold Txp
        simp only [barOk, Bool.and_eq_true, bne_iff_ne, ne_eq] at hb1
        refine wpAnyB_first (oi := o) (v := v) (by simpa using hi) (Region.noSelect_spec hs) (fun c a w hq => hQ _ _ _ _ _ hq) hb1.1 (fun oB hoB => ?_) f _ a w (Region.free_spec (by simpa using hi) hf) (by simpa using hr) hy hS ?_
        · have h2 := hb1.2
          rw [show l[B]? = some oB by simpa using hoB] at h2
          obtain ⟨k, hk, hkb⟩ := Array.any_eq_true.1 h2
          simp only [Bool.and_eq_true, beq_iff_eq] at hkb
          exact ⟨_, Array.getElem_mem hk, hkb.1, hkb.2⟩
        · rw [mask_set]
          exact ih
theorem Txp.eff {l : List Oper} {S : World → Prop} {B : Nat} {w : World} {f d : Nat} {a : Act} {o : Oper} (i d' : Nat) (ho : l[i]? = some o) (hr : (Region.ready .any l.toArray (mask l.length d) == [i] && (d ||| 2 ^ i) == d' && i != B) = true)
    (h : ∀ K : Act → World → Prop, (∀ (S' : World → Prop) a' w', S w' → (∀ w'', S' w'' → S w'') → Txp P l Q S' B f d' a' w' → K a' w') → if Region.wanted o (yielded l.toArray a.tmps) = true then Oper.wp P o a w K Q else K (a.put o.dst undef) w) : Txp P l Q S B (f + 1) d a w := by
  simp only [Bool.and_eq_true, beq_iff_eq, bne_iff_ne, ne_eq] at hr
  obtain ⟨⟨hr, rfl⟩, hiB⟩ := hr
  unfold Txp
  refine ⟨fun h0 => (by rw [hr] at h0; cases h0), ?_⟩
  rw [hr]
  intro j hj
  simp only [List.mem_singleton] at hj
  subst hj
  refine wpOp_step (o := o) (by simpa using ho) fun K hK => ?_
  refine h K fun S' a' w' h1 h2 h3 => hK _ _ ?_
  rw [if_neg hiB]
  refine ⟨h1, ?_⟩
  rw [mask_set]
  exact wpAnyB_weaken h2 _ _ _ _ h3
theorem Txp.bar {l : List Oper} {S : World → Prop} {B : Nat} {w : World} {f d : Nat} {a : Act} {o : Oper} (d' : Nat) (ho : l[B]? = some o) (hr : (Region.ready .any l.toArray (mask l.length d) == [B] && (d ||| 2 ^ B) == d') = true)
    (h : ∀ K : Act → World → Prop, (∀ (S' : World → Prop) (B' : Nat) a' w', Txp P l Q S' B' f d' a' w' → K a' w') → if Region.wanted o (yielded l.toArray a.tmps) = true then Oper.wp P o a w K Q else K (a.put o.dst undef) w) : Txp P l Q S B (f + 1) d a w := by
  simp only [Bool.and_eq_true, beq_iff_eq] at hr
  obtain ⟨hr, rfl⟩ := hr
  unfold Txp
  refine ⟨fun h0 => (by rw [hr] at h0; cases h0), ?_⟩
  rw [hr]
  intro j hj
  simp only [List.mem_singleton] at hj
  subst hj
  refine wpOp_step (o := o) (by simpa using ho) fun K hK => ?_
  refine h K fun S' B' a' w' h3 => hK _ _ ?_
  rw [if_pos rfl, mask_set]
  exact wpAny_of_B _ _ _ _ h3
theorem Txp.done {l : List Oper} {S : World → Prop} {B : Nat} {w : World} {f d : Nat} {a : Act} (hk : Region.ready .any l.toArray (mask l.length d) = []) (h : Q .normal a w) : Txp P l Q S B f d a w :=
  wpAnyB_done hk h _
/-- One element appended to a row of one's own. -/
theorem run_app1 {w : World} (base : Nat) (t ty e : TypeId) {i : TypeInfo} {z : Value} {bytes : Nat} (ht : P.underlying t = some (.slice e)) (hi : P.info? e = some i) (hz : i.zero = some z)
    (hsize : i.size = 1) (hby : i.bytes = bytes) (hzs : z.cells.size = 1) (v : Value) (xs : List Value) (hown : w.ownsRow base e 1 v xs.length xs) (g : Nat) (u : Value) (hg : Arr w g [u]) (hu : u.oneCell' = true)
    (hb : (xs.length + 1) * bytes ≤ 140737488355328) (hbb : 1 ≤ bytes) (hbase : base ≤ w.heap.size) :
    ∃ v' w', (Builtin.append_ #[t, t] ty #[v, .slice (some ⟨g, 0, none⟩) 1 1]).run P w = .ok v' w' ∧ w'.ownsRow base e 1 v' (xs ++ [u]).length (xs ++ [u]) ∧ w.grownBy w' v.ownBlock ∧ (v'.ownBlock = v.ownBlock ∨ v'.ownBlock = some w.heap.size) := by
  have hn : xs.length + 1 ≤ 140737488355328 := Nat.le_trans (Nat.le_mul_of_pos_right _ hbb) hb
  obtain ⟨v', w', h1, h2, h3, -, h5⟩ := run_append_own_at (P := P) w base t ty e i z 1 bytes ht hi hz hsize hby hzs (by decide) v xs.length xs hown ⟨g, 0, none⟩ 1 1 [u] rfl
    (fun j x hj => by
      match j, hj with
      | 0, hj =>
        simp only [List.getElem?_cons_zero, Option.some.injEq] at hj
        subst hj
        have := hg.cell (j := 0) rfl
        simpa [Addr.add] using this)
    (by intro x hx; simp at hx; subst hx; exact hu) (by unfold maxLen; omega) hb hbase
  exact ⟨v', w', h1, by rw [List.length_append]; exact h2, h3, h5⟩
theorem wpl_app1 {w : World} {ops : Array Oper} {rest : List Oper} {o : Oper} {a : Act} (hgd : o.guard = none) (s x : Operand) (t : TypeId) (ho : o.op = .call { callee := .builtin .append, args := #[s, x], argTypes := #[t, t] })
    (base : Nat) (e : TypeId) {i : TypeInfo} {z : Value} {bytes : Nat} (ht : P.underlying t = some (.slice e)) (hi : P.info? e = some i) (hz : i.zero = some z)
    (hsize : i.size = 1) (hby : i.bytes = bytes) (hzs : z.cells.size = 1) (v : Value) (hs : a.eval s = v) (xs : List Value) (hown : w.ownsRow base e 1 v xs.length xs) (g : Nat) (hx : a.eval x = .slice (some ⟨g, 0, none⟩) 1 1) (u : Value) (hg : Arr w g [u]) (hu : u.oneCell' = true)
    (hb : (xs.length + 1) * bytes ≤ 140737488355328) (hbb : 1 ≤ bytes) (hbase : base ≤ w.heap.size)
    (h : ∀ v' w', w'.ownsRow base e 1 v' (xs ++ [u]).length (xs ++ [u]) → w.grownBy w' v.ownBlock → (v'.ownBlock = v.ownBlock ∨ v'.ownBlock = some w.heap.size) → wpList P ops Q rest (a.put o.dst v') w') : wpList P ops Q (o :: rest) a w := by
  refine wpList_plain hgd fun K hK => ?_
  obtain ⟨v', w', hr, h2, h3, h4⟩ := run_app1 (P := P) base t o.type e ht hi hz hsize hby hzs v xs hown g u hg hu hb hbb hbase
  unfold Oper.wp execOp
  simp only [ho, resolve, invoke, builtin, Sem.run_bind, Sem.run_pure, Result.andThen_ok, List.map_toArray, List.map_cons, List.map_nil, hs, hx, hr]
  exact hK _ _ (h v' w' h2 h3 h4)
theorem step_app1 {w : World} {ops : Array Oper} {o : Oper} {a : Act} {K : Act → World → Prop} {E : Prop} (hgd : o.guard = none) (s x : Operand) (t : TypeId) (ho : o.op = .call { callee := .builtin .append, args := #[s, x], argTypes := #[t, t] })
    (base : Nat) (e : TypeId) {i : TypeInfo} {z : Value} {bytes : Nat} (ht : P.underlying t = some (.slice e)) (hi : P.info? e = some i) (hz : i.zero = some z)
    (hsize : i.size = 1) (hby : i.bytes = bytes) (hzs : z.cells.size = 1) (v : Value) (hs : a.eval s = v) (xs : List Value) (hown : w.ownsRow base e 1 v xs.length xs) (g : Nat) (hx : a.eval x = .slice (some ⟨g, 0, none⟩) 1 1) (u : Value) (hg : Arr w g [u]) (hu : u.oneCell' = true)
    (hb : (xs.length + 1) * bytes ≤ 140737488355328) (hbb : 1 ≤ bytes) (hbase : base ≤ w.heap.size)
    (h : ∀ v' w', w'.ownsRow base e 1 v' (xs ++ [u]).length (xs ++ [u]) → w.grownBy w' v.ownBlock → (v'.ownBlock = v.ownBlock ∨ v'.ownBlock = some w.heap.size) → K (a.put o.dst v') w') : if Region.wanted o (yielded ops a.tmps) = true then Oper.wp P o a w K Q else E := by
  rw [if_pos (by simp [Region.wanted, hgd])]
  obtain ⟨v', w', hr, h2, h3, h4⟩ := run_app1 (P := P) base t o.type e ht hi hz hsize hby hzs v xs hown g u hg hu hb hbb hbase
  unfold Oper.wp execOp
  simp only [ho, resolve, invoke, builtin, Sem.run_bind, Sem.run_pure, Result.andThen_ok, List.map_toArray, List.map_cons, List.map_nil, hs, hx, hr]
  exact h v' w' h2 h3 h4
end
end Go.Proofs.YtibdgkhkhmdihaaGreatDoor

