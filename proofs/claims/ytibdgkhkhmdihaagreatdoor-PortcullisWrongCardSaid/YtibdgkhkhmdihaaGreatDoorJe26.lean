/- PortcullisWrong: part 26 of its proof: lemmas and contracts, each with its conditions in its own statement; the last part holds the law itself. -/
import Derived.Test.YtibdgkhkhmdihaaGreatDoorJe25
import Derived.Maps.AppendAt
import Derived.Shelf.Strings.Builder1
import Derived.Test.YtibdgkhkhmdihaaGreatDoorJe18

set_option maxHeartbeats 4000000
set_option maxRecDepth 100000
namespace Go.Proofs.YtibdgkhkhmdihaaGreatDoor
open Go.RowKit
theorem isE {s : ByteArray} {b : Bool} (h : s.data.toList.isEmpty = b) : s.toList.isEmpty = b := by rw [Lib.toList_data]; exact h
theorem trim_ne {l : List UInt8} (h : ∃ b ∈ l, b ∉ digL) : Lib.trimS l digL ≠ [] := by
 intro h0
 have hd : ∀ m : List UInt8, Lib.trimLeftS m digL = [] → ∀ b ∈ m, b ∈ digL := by
  intro m
  unfold Lib.trimLeftS
  induction m with
  | nil => simp
  | cons c m ih =>
   intro hm b hb
   by_cases hc : digL.contains c = true
   · rw [List.dropWhile_cons_of_pos hc] at hm
     rcases List.mem_cons.1 hb with rfl | hb
     · simpa using hc
     · exact ih hm b hb
   · rw [List.dropWhile_cons_of_neg hc] at hm
     cases hm
 obtain ⟨b, hb, hn⟩ := h
 unfold Lib.trimS at h0
 have h1 := hd _ h0
 unfold Lib.trimRightS at h1
 have h2 : ∀ m : List UInt8, (∀ x ∈ m.dropWhile (digL.contains ·), x ∈ digL) → ∀ x ∈ m, x ∈ digL := by
  intro m
  induction m with
  | nil => simp
  | cons c m ih =>
   intro hm x hx
   by_cases hc : digL.contains c = true
   · rw [List.dropWhile_cons_of_pos hc] at hm
     rcases List.mem_cons.1 hx with rfl | hx
     · simpa using hc
     · exact ih hm x hx
   · rw [List.dropWhile_cons_of_neg hc] at hm
     exact hm x hx
 exact hn (h2 l.reverse (fun x hx => h1 x (List.mem_reverse.2 hx)) b (List.mem_reverse.2 hb))
def NoNum (s : ByteArray) : Prop := s.data.toList = [] ∨ 6 < s.size ∨ (∃ b ∈ s.data.toList, b ∉ digL) ∨ (s.data.toList[0]? = some 48 ∧ s.data.toList ≠ [48])
theorem number_no (s : ByteArray) (hno : NoNum s) (w : World) :
 Calls Tryz.prog 40 #[.string s] w fun e w' => e = .panicked [{ v := refu 2, recovered := false }] ∧ Below w.heap.size w w' := by
 have cM := zH (must_no 2 zDc)
 by_cases h0 : s.data.toList = []
 · have he := isE (s := s) (b := true) (by rw [h0]; rfl)
   clear hno h0
   go_enter Tryz.func40, Tryz.ntmps40
   go_wp2_with fail
   refine (cM.out _).mono ?_
   rintro e w1 ⟨rfl, rfl⟩
   exact ⟨rfl, rfl, Below.refl _ _⟩
 have he := isE (s := s) (b := false) (by cases h : s.data.toList with | nil => exact absurd h h0 | cons _ _ => rfl)
 have hs1 : 1 ≤ s.size := by
  rcases Nat.eq_zero_or_pos s.size with h | h
  · exact absurd (List.eq_nil_of_length_eq_zero (by simpa using h)) h0
  · exact h
 obtain ⟨k, hk⟩ : ∃ k : Int, (s.size : Int) = k := ⟨_, rfl⟩
 by_cases h6 : 6 < s.size
 · have hk6 : 6 < k := by omega
   clear hno h0 h6
   go_enter Tryz.func40, Tryz.ntmps40
   go_wp2_with fail
   refine (cM.out _).mono ?_
   rintro e w1 ⟨rfl, rfl⟩
   exact ⟨rfl, rfl, Below.refl _ _⟩
 have hk6 : ¬ 6 < k := by omega
 obtain ⟨T, hT⟩ : ∃ T, Lib.trimS s.data.toList digL = T := ⟨_, rfl⟩
 have cT := zH (fun (w : World) => show Calls Tryz.prog 66 #[.string s, .string ⟨#[48, 49, 50, 51, 52, 53, 54, 55, 56, 57]⟩] w fun e w' => e = .returned (.string ⟨T.toArray⟩) ∧ Below w.heap.size w w' from by
  have q := Any.strings_Trim_laid sh_lays160 zKr s ⟨#[48, 49, 50, 51, 52, 53, 54, 55, 56, 57]⟩ w zOm zDc (fun j b hb => by
   have : b ∈ digL := List.mem_of_getElem? hb
   simp only [digL, List.mem_cons, List.not_mem_nil, or_false] at this
   rcases this with h | h | h | h | h | h | h | h | h | h <;> (subst h; decide))
  rw [show (⟨#[48, 49, 50, 51, 52, 53, 54, 55, 56, 57]⟩ : ByteArray).data.toList = digL from rfl, hT] at q
  exact q)
 by_cases hd : ∃ b ∈ s.data.toList, b ∉ digL
 · have hTn := trim_ne hd
   rw [hT] at hTn
   have hTe : (⟨T.toArray⟩ : ByteArray).toList.isEmpty = false := isE (by
    cases T with
    | nil => exact absurd rfl hTn
    | cons _ _ => rfl)
   obtain ⟨TA, hTA⟩ : ∃ TA : ByteArray, (⟨T.toArray⟩ : ByteArray) = TA := ⟨_, rfl⟩
   rw [hTA] at cT hTe
   clear hno h0 h6 hd hTn hT hTA
   go_enter Tryz.func40, Tryz.ntmps40
   go_wp2_with fail
   refine (cT.out _).mono ?_
   rintro e w1 ⟨rfl, hb⟩
   clear cT
   go_wp2_with fail
   refine (cM.out _).mono ?_
   rintro e w2 ⟨rfl, rfl⟩
   exact ⟨rfl, rfl, hb⟩
 have hz : s.data.toList[0]? = some 48 ∧ s.data.toList ≠ [48] := by
  rcases hno with h | h | h | h
  · exact absurd h h0
  · exact absurd h h6
  · exact absurd h hd
  · exact h
 have hTe : T = [] := by
  rw [← hT]
  exact trim_digits (fun b hb => Classical.byContradiction fun h => hd ⟨b, hb, h⟩)
 subst hTe
 have hq : ∀ h : 0 < s.size, (((s[0]'h).toNat : Int) == 48) = true := by
  intro h
  have hsc : s[0] = 48 := by
   have h1 : s.data.toList[0]? = some s[0] := by
    rw [List.getElem?_eq_getElem (by simpa using h)]
    rfl
   rw [hz.1] at h1
   injection h1 with h1
   exact h1.symm
  rw [hsc]
  rfl
 have hs0 : (s.toList == [48]) = false := by
  rw [Lib.toList_data]
  simpa using hz.2
 clear hno h0 h6 hd hT hz
 go_enter Tryz.func40, Tryz.ntmps40
 go_wp2_with fail
 refine (cT.out _).mono ?_
 rintro e w1 ⟨rfl, hb⟩
 clear cT
 go_wp2_with fail
 refine (cM.out _).mono ?_
 rintro e w2 ⟨rfl, rfl⟩
 exact ⟨rfl, rfl, hb⟩
theorem dec_digits {l : List UInt8} (h : ∀ b ∈ l, b ∈ digL) : ∀ acc, ∃ n, Lib.decFrom acc l = some n := by
 induction l with
 | nil => intro acc; exact ⟨acc, rfl⟩
 | cons b l ih =>
  intro acc
  have hb : b ∈ digL := h b (by simp)
  have hd : ∃ d, Lib.digitVal b = some d := by
   simp only [digL, List.mem_cons, List.not_mem_nil, or_false] at hb
   rcases hb with h | h | h | h | h | h | h | h | h | h <;> (subst h; exact ⟨_, rfl⟩)
  obtain ⟨d, hd⟩ := hd
  unfold Lib.decFrom
  rw [hd]
  exact ih (fun x hx => h x (by simp [hx])) _
theorem atoi_digits {l : List UInt8} (h : ∀ b ∈ l, b ∈ digL) (h0 : l ≠ []) : ∃ n, Lib.atoi l = some n := by
 cases l with
 | nil => exact absurd rfl h0
 | cons b l =>
  have hb : b ∈ digL := h b (by simp)
  have h45 : (b == 45) = false ∧ (b == 43) = false := by
   simp only [digL, List.mem_cons, List.not_mem_nil, or_false] at hb
   rcases hb with h | h | h | h | h | h | h | h | h | h <;> (subst h; exact ⟨rfl, rfl⟩)
  obtain ⟨n, hn⟩ := dec_digits h 0
  refine ⟨(n : Int), ?_⟩
  unfold Lib.atoi Lib.decNat
  simp [h45.1, h45.2, hn]
noncomputable def numF (l : List UInt8) : Option Int := by
 classical
 exact if NoNum ⟨l.toArray⟩ then none else Lib.atoi l
theorem num_any (l : List UInt8) (w : World) :
 Calls Tryz.prog 40 #[.string ⟨l.toArray⟩] w fun e w' => (match numF l with | some n => e = .returned (.int .i64 n) | none => e = .panicked [{ v := refu 2, recovered := false }]) ∧ Below w.heap.size w w' := by
 classical
 unfold numF
 by_cases h : NoNum ⟨l.toArray⟩
 · rw [if_pos h]
   exact number_no ⟨l.toArray⟩ h w
 · rw [if_neg h]
   have hn : ¬ (l = [] ∨ 6 < l.length ∨ (∃ b ∈ l, b ∉ digL) ∨ (l[0]? = some 48 ∧ l ≠ [48])) := h
   have h0 : l ≠ [] := fun e => hn (.inl e)
   have h6 : l.length ≤ 6 := Nat.le_of_not_lt (fun e => hn (.inr (.inl e)))
   have hd : ∀ b ∈ l, b ∈ digL := fun b hb => Classical.byContradiction fun e => hn (.inr (.inr (.inl ⟨b, hb, e⟩)))
   obtain ⟨n, ha⟩ := atoi_digits hd h0
   rw [ha]
   obtain ⟨c, hc⟩ : ∃ c, l[0]? = some c := by
    cases l with
    | nil => exact absurd rfl h0
    | cons b l => exact ⟨b, rfl⟩
   exact number_ok ⟨l.toArray⟩ n c hd hc h6 (by
    by_cases h48 : c = 48
    · left
      subst h48
      have : l = [48] := Classical.byContradiction fun e => hn (.inr (.inr (.inr ⟨hc, e⟩)))
      rw [this]
    · exact .inr h48) ha w
section
variable {P : Program} {Q : Exit → Act → World → Prop}
def Txp (P : Program) (l : List Oper) (Q : Exit → Act → World → Prop) (S : World → Prop) (B f d : Nat) (a : Act) (w : World) : Prop :=
 wpAnyB P .any l.toArray Q S B f (mask l.length d) a w
theorem Txp.start {l : List Oper} {id : Nat} {a : Act} {w : World} (S : World → Prop) (B n : Nat) (hn : l.length = n) (hm : P.follows .mixedOrders = true) (h : Txp P l Q S B n 0 a w.drew) : (Code.region id l.toArray true).wp P Q a w := by
 refine wp_region_any hm ?_
 subst hn
 have e : l.toArray.size = l.length := by simp
 rw [e, mask_zero]
 exact wpAny_of_B _ _ _ _ h
theorem Txp.seg {l : List Oper} {S : World → Prop} {B : Nat} {w : World} {A : Act} (f' d' : Nat) (hQ : ∀ c a d v w, Q (.panic c) (Act.put a d v) w → Q (.panic c) a w) (hs : Region.noSelect l.toArray = true) (hS : S w) :
 ∀ (is : List Nat) {f d : Nat} {a : Act}, (segOk l a.tmps.size f' f d is d' && is.all (barOk l B)) = true → (∀ w', S w' → rd P l w' is a A) → Txp P l Q S B f' d' A w → Txp P l Q S B f d a w
 | [], f, d, a, hok, h, H => by
  simp only [segOk, Bool.and_eq_true, beq_iff_eq] at hok
  obtain ⟨⟨rfl, rfl⟩, -⟩ := hok
  rw [show a = A from h w hS]; exact H
 | i :: is, 0, d, a, hok, h, H => by simp [segOk] at hok
 | i :: is, f + 1, d, a, hok, h, H => by
  simp only [segOk, Bool.and_eq_true, List.all_cons] at hok
  obtain ⟨⟨⟨⟨hrest, hf⟩, hr⟩, hd⟩, hb1, hb2⟩ := hok
  cases hi : l[i]? with
  | none => rw [hi] at hd; cases hd
  | some o =>
   rw [hi] at hd
   cases hdst : o.dst with
   | none => simp [hdst] at hd
   | some e =>
    simp only [hdst] at hd
    simp only [Bool.and_eq_true, decide_eq_true_eq, Bool.not_eq_true'] at hd
    obtain ⟨v, hy, hgo⟩ := rd_step (P := P) hi hdst hd.1 hd.2 hS h
    have ih := Txp.seg f' d' hQ hs hS is (f := f) (d := d ||| 2 ^ i) (a := a.put o.dst v) (by rw [put_size, hrest, hb2]; rfl) hgo H
    unfold Txp
    simp only [barOk, Bool.and_eq_true, bne_iff_ne, ne_eq] at hb1
    refine wpAnyB_first (oi := o) (v := v) (by simpa using hi) (Region.noSelect_spec hs) (fun c a w hq => hQ _ _ _ _ _ hq) hb1.1 (fun oB hoB => ?_) f _ a w (Region.free_spec (by simpa using hi) hf) (by simpa using hr) hy hS ?_
    · have h2 := hb1.2
      rw [show l[B]? = some oB by simpa using hoB] at h2
      obtain ⟨k, hk, hkb⟩ := Array.any_eq_true.1 h2
      simp only [Bool.and_eq_true, beq_iff_eq] at hkb
      exact ⟨_, Array.getElem_mem hk, hkb.1, hkb.2⟩
    · rw [mask_set]
      exact ih
theorem Txp.eff {l : List Oper} {S : World → Prop} {B : Nat} {w : World} {f d : Nat} {a : Act} {o : Oper} (i d' : Nat) (ho : l[i]? = some o) (hr : (Region.ready .any l.toArray (mask l.length d) == [i] && (d ||| 2 ^ i) == d' && i != B) = true)
 (h : ∀ K : Act → World → Prop, (∀ (S' : World → Prop) a' w', S w' → (∀ w'', S' w'' → S w'') → Txp P l Q S' B f d' a' w' → K a' w') → if Region.wanted o (yielded l.toArray a.tmps) = true then Oper.wp P o a w K Q else K (a.put o.dst undef) w) : Txp P l Q S B (f + 1) d a w := by
 simp only [Bool.and_eq_true, beq_iff_eq, bne_iff_ne, ne_eq] at hr
 obtain ⟨⟨hr, rfl⟩, hiB⟩ := hr
 unfold Txp
 refine ⟨fun h0 => (by rw [hr] at h0; cases h0), ?_⟩
 rw [hr]
 intro j hj
 simp only [List.mem_singleton] at hj
 subst hj
 refine wpOp_step (o := o) (by simpa using ho) fun K hK => ?_
 refine h K fun S' a' w' h1 h2 h3 => hK _ _ ?_
 rw [if_neg hiB]
 refine ⟨h1, ?_⟩
 rw [mask_set]
 exact wpAnyB_weaken h2 _ _ _ _ h3
theorem Txp.bar {l : List Oper} {S : World → Prop} {B : Nat} {w : World} {f d : Nat} {a : Act} {o : Oper} (d' : Nat) (ho : l[B]? = some o) (hr : (Region.ready .any l.toArray (mask l.length d) == [B] && (d ||| 2 ^ B) == d') = true)
 (h : ∀ K : Act → World → Prop, (∀ (S' : World → Prop) (B' : Nat) a' w', Txp P l Q S' B' f d' a' w' → K a' w') → if Region.wanted o (yielded l.toArray a.tmps) = true then Oper.wp P o a w K Q else K (a.put o.dst undef) w) : Txp P l Q S B (f + 1) d a w := by
 simp only [Bool.and_eq_true, beq_iff_eq] at hr
 obtain ⟨hr, rfl⟩ := hr
 unfold Txp
 refine ⟨fun h0 => (by rw [hr] at h0; cases h0), ?_⟩
 rw [hr]
 intro j hj
 simp only [List.mem_singleton] at hj
 subst hj
 refine wpOp_step (o := o) (by simpa using ho) fun K hK => ?_
 refine h K fun S' B' a' w' h3 => hK _ _ ?_
 rw [if_pos rfl, mask_set]
 exact wpAny_of_B _ _ _ _ h3
theorem Txp.done {l : List Oper} {S : World → Prop} {B : Nat} {w : World} {f d : Nat} {a : Act} (hk : Region.ready .any l.toArray (mask l.length d) = []) (h : Q .normal a w) : Txp P l Q S B f d a w :=
 wpAnyB_done hk h _
theorem run_app1 {w : World} (base : Nat) (t ty e : TypeId) {i : TypeInfo} {z : Value} {bytes : Nat} (ht : P.underlying t = some (.slice e)) (hi : P.info? e = some i) (hz : i.zero = some z)
 (hsize : i.size = 1) (hby : i.bytes = bytes) (hzs : z.cells.size = 1) (v : Value) (xs : List Value) (hown : w.ownsRow base e 1 v xs.length xs) (g : Nat) (u : Value) (hg : Arr w g [u]) (hu : u.oneCell' = true)
 (hb : (xs.length + 1) * bytes ≤ 140737488355328) (hbb : 1 ≤ bytes) (hbase : base ≤ w.heap.size) :
 ∃ v' w', (Builtin.append_ #[t, t] ty #[v, .slice (some ⟨g, 0, none⟩) 1 1]).run P w = .ok v' w' ∧ w'.ownsRow base e 1 v' (xs ++ [u]).length (xs ++ [u]) ∧ w.grownBy w' v.ownBlock ∧ (v'.ownBlock = v.ownBlock ∨ v'.ownBlock = some w.heap.size) := by
 have hn : xs.length + 1 ≤ 140737488355328 := Nat.le_trans (Nat.le_mul_of_pos_right _ hbb) hb
 obtain ⟨v', w', h1, h2, h3, -, h5⟩ := run_append_own_at (P := P) w base t ty e i z 1 bytes ht hi hz hsize hby hzs zDc v xs.length xs hown ⟨g, 0, none⟩ 1 1 [u] rfl
  (fun j x hj => by
   match j, hj with
   | 0, hj =>
    simp only [List.getElem?_cons_zero, Option.some.injEq] at hj
    subst hj
    have := hg.cell (j := 0) rfl
    simpa [Addr.add] using this)
  (by intro x hx; simp at hx; subst hx; exact hu) (by unfold maxLen; omega) hb hbase
 exact ⟨v', w', h1, by rw [List.length_append]; exact h2, h3, h5⟩
theorem wpl_app1 {w : World} {ops : Array Oper} {rest : List Oper} {o : Oper} {a : Act} (hgd : o.guard = none) (s x : Operand) (t : TypeId) (ho : o.op = .call { callee := .builtin .append, args := #[s, x], argTypes := #[t, t] })
 (base : Nat) (e : TypeId) {i : TypeInfo} {z : Value} {bytes : Nat} (ht : P.underlying t = some (.slice e)) (hi : P.info? e = some i) (hz : i.zero = some z)
 (hsize : i.size = 1) (hby : i.bytes = bytes) (hzs : z.cells.size = 1) (v : Value) (hs : a.eval s = v) (xs : List Value) (hown : w.ownsRow base e 1 v xs.length xs) (g : Nat) (hx : a.eval x = .slice (some ⟨g, 0, none⟩) 1 1) (u : Value) (hg : Arr w g [u]) (hu : u.oneCell' = true)
 (hb : (xs.length + 1) * bytes ≤ 140737488355328) (hbb : 1 ≤ bytes) (hbase : base ≤ w.heap.size)
 (h : ∀ v' w', w'.ownsRow base e 1 v' (xs ++ [u]).length (xs ++ [u]) → w.grownBy w' v.ownBlock → (v'.ownBlock = v.ownBlock ∨ v'.ownBlock = some w.heap.size) → wpList P ops Q rest (a.put o.dst v') w') : wpList P ops Q (o :: rest) a w := by
 refine wpList_plain hgd fun K hK => ?_
 obtain ⟨v', w', hr, h2, h3, h4⟩ := run_app1 (P := P) base t o.type e ht hi hz hsize hby hzs v xs hown g u hg hu hb hbb hbase
 unfold Oper.wp execOp
 simp only [ho, resolve, invoke, builtin, Sem.run_bind, Sem.run_pure, Result.andThen_ok, List.map_toArray, List.map_cons, List.map_nil, hs, hx, hr]
 exact hK _ _ (h v' w' h2 h3 h4)
theorem step_app1 {w : World} {ops : Array Oper} {o : Oper} {a : Act} {K : Act → World → Prop} {E : Prop} (hgd : o.guard = none) (s x : Operand) (t : TypeId) (ho : o.op = .call { callee := .builtin .append, args := #[s, x], argTypes := #[t, t] })
 (base : Nat) (e : TypeId) {i : TypeInfo} {z : Value} {bytes : Nat} (ht : P.underlying t = some (.slice e)) (hi : P.info? e = some i) (hz : i.zero = some z)
 (hsize : i.size = 1) (hby : i.bytes = bytes) (hzs : z.cells.size = 1) (v : Value) (hs : a.eval s = v) (xs : List Value) (hown : w.ownsRow base e 1 v xs.length xs) (g : Nat) (hx : a.eval x = .slice (some ⟨g, 0, none⟩) 1 1) (u : Value) (hg : Arr w g [u]) (hu : u.oneCell' = true)
 (hb : (xs.length + 1) * bytes ≤ 140737488355328) (hbb : 1 ≤ bytes) (hbase : base ≤ w.heap.size)
 (h : ∀ v' w', w'.ownsRow base e 1 v' (xs ++ [u]).length (xs ++ [u]) → w.grownBy w' v.ownBlock → (v'.ownBlock = v.ownBlock ∨ v'.ownBlock = some w.heap.size) → K (a.put o.dst v') w') : if Region.wanted o (yielded ops a.tmps) = true then Oper.wp P o a w K Q else E := by
 rw [if_pos (by simp [Region.wanted, hgd])]
 obtain ⟨v', w', hr, h2, h3, h4⟩ := run_app1 (P := P) base t o.type e ht hi hz hsize hby hzs v xs hown g u hg hu hb hbb hbase
 unfold Oper.wp execOp
 simp only [ho, resolve, invoke, builtin, Sem.run_bind, Sem.run_pure, Result.andThen_ok, List.map_toArray, List.map_cons, List.map_nil, hs, hx, hr]
 exact h v' w' h2 h3 h4
end
def cmdT : List (List UInt8 × List UInt8 × Nat) := [
 ([110, 101, 119], [78, 78], 22), ([105, 109, 97, 103, 101], [78, 78, 84], 23),
 ([102, 101, 101, 100], [], 24), ([98, 108, 111, 99, 107], [78], 25),
 ([98, 108, 111, 99, 107, 115], [], 26), ([99, 111, 109, 109, 105, 116], [], 27),
 ([99, 111, 110, 102, 105, 114, 109], [], 28), ([98, 111, 111, 116], [], 29),
 ([114, 101, 97, 100], [78], 30), ([114, 101, 118, 111, 107, 101], [78], 31),
 ([99, 114, 97, 115, 104], [78, 78], 32), ([99, 121, 99, 108, 101], [], 33),
 ([112, 111, 107, 101], [78, 84], 34), ([113, 117, 111, 116, 101], [], 35),
 ([115, 116, 97, 116, 101], [], 36)]
theorem cmdT_eq : cmdL = cmdT.map (fun p => (⟨p.1.toArray⟩, cmdV p.2.1 p.2.2)) := rfl
def cmdF (n : List UInt8) : List (List UInt8 × List UInt8 × Nat) → Option (List UInt8 × Nat)
 | [] => none
 | (m, k, f) :: l => if n == m then some (k, f) else cmdF n l
theorem mpF_cmd (n : List UInt8) : ∀ (l : List (List UInt8 × List UInt8 × Nat)) (i : Nat), (match cmdF n l with
 | some (k, f) => ∃ j, mpF ⟨n.toArray⟩ (l.map (fun p => (⟨p.1.toArray⟩, cmdV p.2.1 p.2.2))) i = some (j, cmdV k f)
 | none => mpF ⟨n.toArray⟩ (l.map (fun p => (⟨p.1.toArray⟩, cmdV p.2.1 p.2.2))) i = none)
 | [], _ => rfl
 | (m, k, f) :: l, i => by
  have ih := mpF_cmd n l (i + 1)
  unfold cmdF
  simp only [List.map_cons, mpF]
  by_cases h : (n == m) = true
  · rw [if_pos h]
    exact ⟨i, by rw [if_pos h]⟩
  · rw [if_neg h, if_neg h]
    exact ih
noncomputable def prs : List UInt8 → List (List UInt8) → List Int × List (List UInt8) → Option (List Int × List (List UInt8))
 | [], _, st => some st
 | _ :: _, [], _ => none
 | k :: ks, x :: ws, st => if k = 78 then (match numF x with | some n => prs ks ws (st.1 ++ [n], st.2) | none => none) else if x = [] then none else prs ks ws (st.1, st.2 ++ [x])
noncomputable def prsL : List (List UInt8) → Option (Nat × List Int × List (List UInt8))
 | [] => none
 | c :: r => match cmdF c cmdT with
  | none => none
  | some (k, f) => if r.length = k.length then (prs k r ([], [])).map (fun p => (f, p.1, p.2)) else none
def strs (xs : List (List UInt8)) : List Value := xs.map (fun l => Value.string ⟨l.toArray⟩)
def Kp (n : Nat) (W W' : World) : Prop := W.heap.size ≤ W'.heap.size ∧ ∀ k, n ≤ k → k < W.heap.size → W'.heap[k]? = W.heap[k]?
def Told (P n : Nat) (Q : World → Prop) (W : World) : Prop := ∀ W2 v, Below W.heap.size W W2 → Sts W2 v [errorL, Lib.decDigits n] →
 Calls Tryz.prog 38 #[.pointer (some ⟨P, 0, none⟩), v] W2 fun e w' => e = .returned (.tuple #[]) ∧ Q w'
def Does (P base : Nat) (Q : World → Prop) (f : Nat) (nv tv : Value) (W : World) : Prop := Calls Tryz.prog f #[.pointer (some ⟨P, 0, none⟩), .agg #[nv, tv]] W fun e W' =>
 (e = .returned (.tuple #[]) ∧ Q W') ∨ (∃ n : Nat, n < 100 ∧ e = .panicked [{ v := refu n, recovered := false }] ∧ Kp base W W' ∧ Told P n Q W')
theorem sl_cellL {w : World} {g n c j : Nat} {vs : List Value} {u : Value} (h : Sl w (.slice (some ⟨g, 0, none⟩) n c) vs) (hj : vs[j]? = some u) : w.cell? ⟨g, j, none⟩ = some u := by
 obtain ⟨a, cap, he, -, -, -, h5⟩ := h
 injection he with h1 h2 h3
 have := h5 _ h1.symm j u hj
 rwa [Addr.add_lit, Nat.zero_add] at this
theorem below_cp {n p B : Nat} {w w1 w2 : World} (h : Below n w w1) (hc : Cp p B w1 w2) (hp : n ≤ p) (hB : n ≤ B) : Below n w w2 :=
 h.trans ⟨hc.os, hc.tape, hc.output, hc.size, fun k hk => hc.block k zOm zOm⟩
theorem Arr.gr {w w' : World} {g : Nat} {xs : List Value} {r : Option Nat} (h : Arr w g xs) (hg : w.grownBy w' r) (hne : ∀ b, r = some b → b ≠ g) : Arr w' g xs := by
 have hl := h.lt
 obtain ⟨T, h⟩ := h
 exact ⟨T, by rw [hg.block g hl (fun e => hne g e.symm rfl)]; exact h⟩
theorem strs_snoc (ts : List (List UInt8)) (x : List UInt8) : strs (ts ++ [x]) = strs ts ++ [.string ⟨x.toArray⟩] := by simp [strs]
theorem strs_len (ts : List (List UInt8)) : (strs ts).length = ts.length := by simp [strs]
def LpI (W5 : World) (B ga nr : Nat) (k : List UInt8) (R : List (List UInt8)) (OUT : Option (List Int × List (List UInt8))) (iv : Value) (wr : World) : Prop := ∃ (i : Nat) (ns : List Int) (ts : List (List UInt8)) (a1 a2 : Option Addr) (n1 c1 n2 c2 : Nat), i ≤ nr ∧ iv = .int .i64 (i : Int) ∧ ns.length ≤ i ∧ ts.length ≤ i ∧
 Arr wr ga [.slice a1 n1 c1, .slice a2 n2 c2] ∧ wr.ownsRow B 3 1 (.slice a1 n1 c1) (ns.map (Value.int .i64)).length (ns.map (Value.int .i64)) ∧ wr.ownsRow B 9 1 (.slice a2 n2 c2) (strs ts).length (strs ts) ∧
 (∀ g, (Value.slice a1 n1 c1).ownBlock = some g → (Value.slice a2 n2 c2).ownBlock ≠ some g) ∧ Cp ga B W5 wr ∧ prs (k.drop i) (R.drop i) (ns, ts) = OUT
def LnQ (base P : Nat) (D : List Deferred) (Q : World → Prop) (e : Exit) (a : Act) (w : World) : Prop := a.defers = D ∧
 (((e = .normal ∨ e = .ret) ∧ Q w) ∨ (∃ n : Nat, n < 100 ∧ e = .panic [{ v := refu n, recovered := false }] ∧ base < w.heap.size ∧ w.cell? ⟨base, 0, none⟩ = some (.pointer (some ⟨P, 0, none⟩)) ∧ Told P n Q w))
theorem line_any (P r : Nat) (w : World) (kM : Mp w r cmdL) (s : ByteArray) (hs : s.size < 4294967281) (Q : World → Prop)
 (hbad : prsL (lns 32 s.data.toList) = none → ∀ W, Below w.heap.size w W → Told P 2 Q W)
 (hdo : ∀ f ns ts, prsL (lns 32 s.data.toList) = some (f, ns, ts) → ∀ W nv tv, Below w.heap.size w W → W.ownsRow w.heap.size 3 1 nv ns.length (ns.map (.int .i64)) → W.ownsRow w.heap.size 9 1 tv ts.length (strs ts) → Does P w.heap.size Q f nv tv W) :
 Calls Tryz.prog 15 #[.pointer (some ⟨P, 0, none⟩), .string s, .map (some r)] w fun e w' => e = .returned (.tuple #[]) ∧ Q w' := by
 have hmf : ∀ (fn : Fn) (first cap : Array Value) (w : World), (Instr.makeFunc fn first cap).run Tryz.prog w = .ok (.func fn first cap) w := fun _ _ _ _ => rfl
 have cS := zH (fun w => split_any 32 s w hs)
 replace kM := zH kM
 obtain ⟨WS, hWS⟩ : ∃ l, lns 32 s.data.toList = l := ⟨_, rfl⟩
 have hWl : WS ≠ [] := fun h => by have := lns_len 32 s.data.toList; rw [hWS, h] at this; simp at this
 have hWb : WS.length ≤ 4294967296 := by
  rw [← hWS, lns_len]
  have := List.count_le_length (a := (32 : UInt8)) (l := s.data.toList)
  have h2 : s.data.toList.length = s.size := by simp
  omega
 rw [hWS] at cS hbad hdo
 replace hbad := zH hbad
 replace hdo := zH hdo
 clear hWS hs
 refine calls_of_wp_defers Tryz.func15 rfl ?_
 refine Code.wp_mono (Q := LnQ w.heap.size P [{ target := .fn (.func 37) #[.pointer (some ⟨w.heap.size, 0, none⟩)], args := #[] }] Q) ?_ ?_
 · rintro e a w1 ⟨hd, h⟩
   rcases h with ⟨he, hq⟩ | ⟨n, hn, rfl, hlt, hcell, htd⟩
   · have hl : Leaves Tryz.prog Tryz.f15 a.tmps (fun e w' => e = .returned (.tuple #[]) ∧ Q w') a.defers .returning w1 := by
      rw [hd]
      refine leaves_cons (f := 37) (args := #[.pointer (some ⟨w.heap.size, 0, none⟩)]) (by simp) zKr ?_
      refine (catch_idle _ _).mono ?_
      rintro e u' w2 ⟨rfl, rfl, rfl⟩
      simp [Leaves, settle, results, Tryz.results15, go_sem, hq]
     rcases he with rfl | rfl <;> exact hl
   · have hl : Leaves Tryz.prog Tryz.f15 a.tmps (fun e w' => e = .returned (.tuple #[]) ∧ Q w') a.defers (.panicking [{ v := refu n, recovered := false }]) w1 := by
      rw [hd]
      refine leaves_cons (f := 37) (args := #[.pointer (some ⟨w.heap.size, 0, none⟩)]) (by simp) zKr ?_
      refine (catch_no P _ n hn w1 Q hcell htd).mono ?_
      rintro e u' w2 ⟨rfl, rfl, hq⟩
      simp [Leaves, settle, results, Tryz.results15, go_sem, hq]
     exact hl
 simp only [Tryz.ntmps15, List.size_toArray, List.length_cons, List.length_nil, Nat.reduceAdd, Nat.reduceSub, Array.replicate_succ, Array.replicate_zero, List.push_toArray, List.append_toArray, List.nil_append, List.cons_append]
 obtain ⟨DQ, hDQ⟩ : ∃ Z, LnQ w.heap.size P [{ target := .fn (.func 37) #[.pointer (some ⟨w.heap.size, 0, none⟩)], args := #[] }] Q = Z := ⟨_, rfl⟩
 rw [hDQ]
 replace hDQ := zH hDQ
 go_upto_region 1 with fail
 refine wp_new1 (fun W1 hsz kA kb => ?_)
 replace kA : Arr W1 w.heap.size [.pointer (some ⟨P, 0, none⟩)] := kA
 clear hsz hmf
 go_wp2_with fail
 refine (cS.out _).mono ?_
 rintro e w2 ⟨rfl, hw2⟩
 have kW : Arr w2 W1.heap.size (strs WS) := by rw [hw2]; exact Arr.new _ _ _
 have hb2 : Below W1.heap.size W1 w2 := by rw [hw2]; exact below_alloc _ _
 replace kb := bel kb hb2
 have kA := kA.below hb2
 have kM2 := zH (kM.out.below kb)
 obtain ⟨bw, hbw⟩ : ∃ k, W1.heap.size = k := ⟨_, rfl⟩
 rw [hbw] at kW ⊢
 clear hw2 hb2 cS hbw kM
 obtain ⟨c, R, rfl⟩ : ∃ c R, WS = c :: R := by
  cases WS with
  | nil => exact absurd rfl hWl
  | cons c R => exact ⟨c, R, rfl⟩
 clear hWl
 have y0 : w2.cell? ⟨bw, 0, none⟩ = some (.string ⟨c.toArray⟩) := kW.cell (j := 0) rfl
 have hcm := mpF_cmd c cmdT 0
 rw [← cmdT_eq] at hcm
 have cM := zH (must_no 2 zDc)
 cases hc : cmdF c cmdT with
 | none =>
  rw [hc] at hcm
  have hlk := run_look_none (P := Tryz.prog) (w := w2) 47 9 58 r ⟨c.toArray⟩ (.agg #[.string ⟨#[]⟩, .nilFunc]) zKr zKr zKr cmdL kM2.out hcm
  have hpn := zH (hbad.out (by simp only [prsL, hc]))
  clear hcm hdo hbad
  go_upto_region 4 with (refine wpl_storeG rfl _ _ _ rfl _ [.string ⟨#[]⟩, .nilFunc] rfl rfl _ (Arr.new _ _ _) zKr rfl (by intro v hv; simp at hv; rcases hv with rfl | rfl <;> rfl) (fun w3 kC hg hsz => ?_))
  have hb3 := below_fresh hg
  have y1 := kC.cell (j := 0) rfl
  have kA3 := kA.below hb3
  have kb3 := bel kb hb3
  clear hg hsz hb3
  go_wp2_with fail
  refine (cM.out _).mono ?_
  rintro e w4 ⟨rfl, rfl⟩
  show DQ _ _ _
  rw [← hDQ.out]
  exact ⟨rfl, .inr ⟨2, by decide, rfl, kA3.lt, kA3.cell rfl, hpn.out _ kb3⟩⟩
 | some kf =>
  obtain ⟨k, f⟩ := kf
  rw [hc] at hcm
  obtain ⟨j, hj⟩ := hcm
  have hlk := run_look (P := Tryz.prog) (w := w2) 47 9 58 r ⟨c.toArray⟩ zKr zKr cmdL kM2.out hj
  unfold cmdV at hlk
  go_upto_region 4 with (refine wpl_storeG rfl _ _ _ rfl _ [.string ⟨k.toArray⟩, .func (.func f) #[] #[]] rfl rfl _ (Arr.new _ _ _) zKr rfl (by intro v hv; simp at hv; rcases hv with rfl | rfl <;> rfl) (fun w3 kC hg hsz => ?_))
  have hb3 := below_fresh hg
  obtain ⟨gx, hgx⟩ : ∃ g, w2.heap.size = g := ⟨_, rfl⟩
  have kA3 := zH (kA.below hb3)
  have kW3 := zH (kW.below hb3)
  have kb3 := bel kb hb3
  rw [hgx] at kC ⊢
  clear hg hsz hb3 hlk y0 kA kW kM2 kb hgx hj
  have hk3 : k.length ≤ 3 := by
   have : ∀ (T : List (List UInt8 × List UInt8 × Nat)), (∀ p ∈ T, p.2.1.length ≤ 3) → ∀ k f, cmdF c T = some (k, f) → k.length ≤ 3 := by
    intro T
    induction T with
    | nil => intro _ k f h; cases h
    | cons p T ih =>
     intro hT k f h
     obtain ⟨m, k', f'⟩ := p
     unfold cmdF at h
     split at h
     · injection h with h
       injection h with h1 h2
       subst h1
       exact hT (m, k', f') (by simp)
     · exact ih (fun q hq => hT q (by simp [hq])) k f h
   exact this cmdT zDc k f hc
  obtain ⟨nr, hnr⟩ : ∃ n, R.length = n := ⟨_, rfl⟩
  obtain ⟨nk, hnk⟩ : ∃ n, k.length = n := ⟨_, rfl⟩
  have hks : (⟨k.toArray⟩ : ByteArray).size = nk := by rw [← hnk]; simp [ByteArray.size]
  have hRb : nr ≤ 4294967296 := by simp at hWb; omega
  have y1 := kC.cell (j := 0) rfl
  obtain ⟨KS, hKS⟩ : ∃ K : ByteArray, (⟨k.toArray⟩ : ByteArray) = K := ⟨_, rfl⟩
  rw [hKS] at hks y1 kC ⊢
  rw [hnr]
  rw [hnk] at hk3
  by_cases hlen : nr = nk
  · subst hlen
    go_upto_region 7 with fail
    have hb4 := below_alloc w3 (.cells #[.slice none 0 0, .slice none 0 0] 68)
    have kG : Arr (w3.alloc (.cells #[.slice none 0 0, .slice none 0 0] 68)) w3.heap.size [.slice none 0 0, .slice none 0 0] := Arr.new _ _ _
    obtain ⟨W4, hW4⟩ : ∃ W, w3.alloc (.cells #[.slice none 0 0, .slice none 0 0] 68) = W := ⟨_, rfl⟩
    obtain ⟨ga, hga⟩ : ∃ k, w3.heap.size = k := ⟨_, rfl⟩
    have hgaw : w.heap.size < ga := by have := kA3.out.lt; omega
    have hbwa : bw ≠ ga := by have := kW3.out.lt; omega
    have hgxa : gx ≠ ga := by have := kC.lt; omega
    rw [hW4] at hb4 kG ⊢
    rw [hga] at kG ⊢
    obtain ⟨cv, W5, hr, hS, hb5⟩ := conv_str W4 KS (by unfold maxLen; omega)
    have hb45 := bel hb4 hb5
    have kA5 := zH (kA3.out.below hb45)
    have kW5 := zH (kW3.out.below hb45)
    have kC5 := zH (kC.below hb45)
    have kb5 := bel kb3 hb45
    have kG5 := kG.below hb5
    have hKl : KS.data.toList = k := by rw [← hKS]
    rw [hKl] at hS
    have y2 := (kC.below hb4).cell (j := 0) rfl
    obtain ⟨gk, hgk⟩ : ∃ g, W4.heap.size = g := ⟨_, rfl⟩
    have hgka : gk ≠ ga := by have := kG.lt; omega
    have hgaB : ga < W5.heap.size := by have := kG5.lt; omega
    rw [hgk] at hr hS
    rw [hks] at hr hS
    clear kA3 kW3 kC hb4 hb45 hb5 kG hW4 hga hKl y1
    obtain ⟨B, hB⟩ : ∃ k, W5.heap.size = k := ⟨_, rfl⟩
    obtain ⟨OUT, hOUT⟩ : ∃ o, prs k R ([], []) = o := ⟨_, rfl⟩
    have hInit : LpI W5 B ga nr k R OUT (.int .i64 0) W5 := ⟨0, [], [], none, none, 0, 0, 0, 0, Nat.zero_le _, rfl, Nat.le_refl _, Nat.le_refl _, kG5, World.ownsRow_nil _ _ _ _, World.ownsRow_nil _ _ _ _, fun g h => (by cases h), Cp.refl _ _ _, by simpa using hOUT⟩
    replace hOUT := zH hOUT
    replace hS := zH hS
    clear kG5
    have hbwB : bw < B := by have := kW5.out.lt; omega
    go_upto_region 8 with fail
    clear hr y2
    go_loopw [40] (fun iv wr => LpI W5 B ga nr k R OUT iv wr) (fun iv _ => nr - (intOf iv).toNat)
    case atStart => exact hInit
    case round =>
    clear hInit
    obtain ⟨i, ns, ts, a1, a2, n1, c1, n2, c2, hi, rfl, hnl, htl, kG, o1, o2, hsep, hcp, hprs⟩ := hrel
    have hi0 : (0 : Int) ≤ (i : Int) := by omega
    replace o1 := zH o1
    replace o2 := zH o2
    replace hprs := zH hprs
    by_cases hin : i < nr
    · have hi1 : (i : Int) < (nr : Int) := by omega
      have hki : ∃ b, k[i]? = some b := ⟨_, List.getElem?_eq_getElem (by rw [hnk]; exact hin)⟩
      have hxi : ∃ x, R[i]? = some x := ⟨_, List.getElem?_eq_getElem (by rw [hnr]; exact hin)⟩
      obtain ⟨ki, hki⟩ := hki
      obtain ⟨x, hx⟩ := hxi
      have y3 : wr.cell? ⟨gk, i, none⟩ = some (.int .u8 (ki.toNat : Int)) := by
       have h1 := sl_cellL hS.out (j := i) (u := .int .u8 (ki.toNat : Int)) (by simp [u8s, hki])
       rw [← h1]
       have h2 := World.block_lt_of_cell? _ _ h1
       exact World.cell?_of_block (hcp.block gk (by rw [← hB]; exact h2) hgka)
      have y4 : wr.cell? ⟨bw, i + 1, none⟩ = some (.string ⟨x.toArray⟩) := (kW5.out.cp hcp hbwB hbwa).cell (by simp [strs, hx])
      have d1 : k.drop i = ki :: k.drop (i + 1) := by
       have h1 := (List.getElem?_eq_some_iff.1 hki)
       rw [List.drop_eq_getElem_cons h1.1, h1.2]
      have d2 : R.drop i = x :: R.drop (i + 1) := by
       have h1 := (List.getElem?_eq_some_iff.1 hx)
       rw [List.drop_eq_getElem_cons h1.1, h1.2]
      have hp := hprs.out
      rw [d1, d2] at hp
      unfold prs at hp
      clear d1 d2 hki hx
      go_upto_region 12 with fail
      by_cases h78 : ki = 78
      · rw [if_pos h78] at hp
        have h78z : ((ki.toNat : Int) == 78) = true := by rw [h78]; rfl
        have cN := num_any x
        replace hp := zH hp
        go_upto_region 13 with fail
        have hDp : ∀ c a d v w, DQ (.panic c) (Act.put a d v) w → DQ (.panic c) a w := by
         rw [← hDQ.out]
         intro c a d v w h
         cases d <;> exact h
        refine Txp.start (fun w' => Arr w' ga [.slice a1 n1 c1, .slice a2 n2 c2]) 7 8 rfl zKr ?_
        have hb0 : Below wr.heap.size wr wr.drew := (Below.refl _ _).drew
        have hS0 : Arr wr.drew ga [.slice a1 n1 c1, .slice a2 n2 c2] := kG.below hb0
        cases hnx : numF x with
        | none =>
         rw [hnx] at hp
         have kAr := zH (kA5.out.cp hcp (by rw [← hB]; exact kA5.out.lt) zOm)
         have hbr := below_cp kb5 hcp zOm (by have := kb5.size; omega)
         have hTd := zH (hbad.out (by simp only [prsL, hc]; rw [if_pos zOm, hOUT.out, ← hp.out]; rfl))
         refine Txp.seg (A := ?_) 5 7 (by exact fun c a d v w h => hDp c a d v w h) zKr (by exact hS0) [0, 1, 2] zKr ?_ ?_
         rotate_left
         · intro w' hB'
           have y5 := Arr.cell hB' (j := 0) rfl
           iterate 3 (first | (refine rd_skip rfl rfl ?_; simp only [Act.put, zSa, zSz, zSs]) | (refine rd_take (v := ?_) rfl rfl ?_ ?_; rotate_left; (focus (go_simp; try (with_reducible rfl))); simp only [Act.put, zSa, zSz, zSs]))
           exact rd_nil
         refine Txp.eff 3 15 rfl zDk (fun K hK => ?_)
         go_simp
         refine (cN _).mono ?_
         rintro e w6 ⟨he, hb⟩
         rw [hnx] at he
         subst he
         show DQ _ _ _
         rw [← hDQ.out]
         have hb6 := bel hb0 hb
         have kA6 := kAr.out.below hb6
         exact ⟨rfl, .inr ⟨2, by decide, rfl, kA6.lt, kA6.cell rfl, hTd.out _ (bel hbr hb6)⟩⟩
        | some n =>
         rw [hnx] at hp
         obtain ⟨i0, hi0', hz0, hz1, hz2⟩ := info_parts (show (Tryz.prog.info? 3).map (fun i => (i.zero, i.size, i.bytes)) = some (some (.int .i64 0), 1, 8) by kernel_rfl)
         have hsB : B ≤ wr.heap.size := by rw [← hB]; exact hcp.size
         refine Txp.seg (A := ?_) 5 7 (by exact fun c a d v w h => hDp c a d v w h) zKr (by exact hS0) [0, 1, 2] zKr ?_ ?_
         rotate_left
         · intro w' hB'
           have y5 := Arr.cell hB' (j := 0) rfl
           iterate 3 (first | (refine rd_skip rfl rfl ?_; simp only [Act.put, zSa, zSz, zSs]) | (refine rd_take (v := ?_) rfl rfl ?_ ?_; rotate_left; (focus (go_simp; try (with_reducible rfl))); simp only [Act.put, zSa, zSz, zSs]))
           exact rd_nil
         refine Txp.eff 3 15 rfl zDk (fun K hK => ?_)
         go_simp
         refine (cN _).mono ?_
         rintro e w6 ⟨he, hb⟩
         rw [hnx] at he
         subst he
         have hb6 := bel hb0 hb
         have hS1 := kG.below hb6
         refine hK (fun w' => Arr w' ga [.slice a1 n1 c1, .slice a2 n2 c2]) _ _ hS1 (fun _ h => h) ?_
         clear hK K hb
         try simp only [Act.put, zSa, zSz, zSs]
         refine Txp.eff 4 31 rfl zDk (fun K hK => ?_)
         go_simp
         have hba := below_alloc w6 (.cells #[.int .i64 n] 3)
         have hb7 := bel hb6 hba
         refine hK (fun w' => Arr w' ga [.slice a1 n1 c1, .slice a2 n2 c2]) _ _ (kG.below hb7) (fun _ h => h) ?_
         clear hK K
         try simp only [Act.put, zSa, zSz, zSs]
         have hgX : Arr (w6.alloc (.cells #[.int .i64 n] 3)) w6.heap.size [.int .i64 n] := Arr.new _ _ _
         have hs6 : B ≤ (w6.alloc (.cells #[.int .i64 n] 3)).heap.size := Nat.le_trans hsB hb7.size
         have o17 := zH (own_below o1.out hb7)
         have o27 := zH (own_below o2.out hb7)
         have kG7 := kG.below hb7
         have hc7 : Cp ga B W5 (w6.alloc (.cells #[.int .i64 n] 3)) := hcp.trans (Cp.of_below hb7 hsB)
         generalize w6.alloc (.cells #[.int .i64 n] 3) = w7 at hgX hs6 o17 o27 kG7 hc7 ⊢
         clear hb7 hba hb6 hS1 hS0 hb0
         refine Txp.eff 5 63 rfl zDk (fun K hK => ?_)
         refine step_app1 rfl _ _ 66 rfl B 3 zKr hi0' hz0 hz1 hz2 rfl _ rfl _ o17.out _ rfl _ hgX rfl (by rw [List.length_map]; omega) zDc hs6 ?_
         intro v' w8 o8 hg8 hat
         obtain ⟨a3, n3, c3, rfl⟩ : ∃ a n c, v' = .slice a n c := by
          rcases o8.2 with ⟨hv, _⟩ | ⟨g, cap, cur, hv, _⟩
          · exact ⟨_, _, _, hv⟩
          · exact ⟨_, _, _, hv⟩
         have kG8 := kG7.gr hg8 (fun b hb => by have := own_block o17.out b hb; omega)
         have o28 := o27.out.kept hg8 (by
          cases h1 : (Value.slice a2 n2 c2).ownBlock with
          | none => exact .inl rfl
          | some b => exact .inr (fun e => hsep b e.symm h1))
         have hc8 : Cp ga B W5 w8 := hc7.trans (Cp.of_gr hg8 hs6 (fun g hg => .inr (own_block o17.out g hg)))
         have hs8 : B ≤ w8.heap.size := Nat.le_trans hs6 hg8.size
         have hsep8 : ∀ g, (Value.slice a3 n3 c3).ownBlock = some g → (Value.slice a2 n2 c2).ownBlock ≠ some g := fun g hg e => by
          rcases hat with h | h
          · rw [h] at hg; exact hsep g hg e
          · rw [h] at hg
            injection hg with hg
            have h5 := (World.ownsRow.lt o27.out g e).2
            omega
         have y8 := kG8.cell (j := 0) rfl
         have f8 := kG8.frozen 0
         have hb1 := own_block o8
         have hb2 := own_block o28
         rw [show ns.map (Value.int .i64) ++ [.int .i64 n] = (ns ++ [n]).map (Value.int .i64) by simp] at o8
         replace o8 := zH o8
         replace o28 := zH o28
         refine hK (fun w' => Arr w' ga [.slice a1 n1 c1, .slice a2 n2 c2]) _ _ kG8 (fun _ h => h) ?_
         clear hK K hat hg8 o17 o27 hgX o1 o2 hi0' hz0 hz1 hz2 hcp hsep hc7 hs6 kG7
         try simp only [Act.put, zSa, zSz, zSs]
         refine Txp.seg (A := ?_) 1 127 (by exact fun c a d v w h => hDp c a d v w h) zKr (by exact kG8) [6] zKr ?_ ?_
         rotate_left
         · intro w' hB'
           iterate 1 (first | (refine rd_skip rfl rfl ?_; simp only [Act.put, zSa, zSz, zSs]) | (refine rd_take (v := ?_) rfl rfl ?_ ?_; rotate_left; (focus (go_simp; try (with_reducible rfl))); simp only [Act.put, zSa, zSz, zSs]))
           exact rd_nil
         refine Txp.bar 255 rfl zDk (fun K hK => ?_)
         go_simp
         refine hK (fun _ => True) 9999 _ _ ?_
         clear hK K
         try simp only [Act.put, zSa, zSz, zSs]
         refine Txp.done zKr ?_
         go_wp2_with fail
         exact ⟨⟨i + 1, ns ++ [n], ts, a3, a2, n3, c3, n2, c2, by omega, by go_num, by simp; omega, by omega, kG8.set 0 _, o8.out.kept (gr_cell w8 ga 0 _) (.inr (fun e => by have := hb1 _ e; omega)),
          o28.out.kept (gr_cell w8 ga 0 _) (.inr (fun e => by have := hb2 _ e; omega)), hsep8, hc8.trans (Cp.of_gr (gr_cell w8 ga 0 _) hs8 (fun g h => .inl (by injection h with h; exact h.symm))), hp.out⟩, by simp [intOf]; omega⟩
      · rw [if_neg h78] at hp
        have h78z : ((ki.toNat : Int) == 78) = false := by
         have h48 : ki.toNat ≠ 78 := fun hh => h78 (UInt8.toNat_inj.1 hh)
         simp
         omega
        by_cases hx0 : x = []
        · rw [if_pos hx0] at hp
          subst hx0
          have kAr := zH (kA5.out.cp hcp (by rw [← hB]; exact kA5.out.lt) zOm)
          have hTd := zH (hbad.out (by simp only [prsL, hc]; rw [if_pos zOm, hOUT.out, ← hp]; rfl) _ (below_cp kb5 hcp zOm (by have := kb5.size; omega)))
          go_wp2_with fail
          refine (cM.out _).mono ?_
          rintro e w4 ⟨rfl, rfl⟩
          show DQ _ _ _
          rw [← hDQ.out]
          exact ⟨rfl, .inr ⟨2, by decide, rfl, kAr.out.lt, kAr.out.cell rfl, hTd.out⟩⟩
        · rw [if_neg hx0] at hp
          replace hp := zH hp
          have hxe : (⟨x.toArray⟩ : ByteArray).toList.isEmpty = false := isE (by
           cases x with
           | nil => exact absurd rfl hx0
           | cons _ _ => rfl)
          obtain ⟨XS, hXS⟩ : ∃ X : ByteArray, (⟨x.toArray⟩ : ByteArray) = X := ⟨_, rfl⟩
          rw [hXS] at hxe y4 ⊢
          obtain ⟨i0, hi0', hz0, hz1, hz2⟩ := info_parts (show (Tryz.prog.info? 9).map (fun i => (i.zero, i.size, i.bytes)) = some (some (.string ByteArray.empty), 1, 16) by kernel_rfl)
          have y5 := kG.cell (j := 1) rfl
          have hb6 := below_alloc wr (.cells #[.string XS] 9)
          have hsB : B ≤ wr.heap.size := by rw [← hB]; exact hcp.size
          have o26 := zH (own_below o2.out hb6)
          have hgX : Arr (wr.alloc (.cells #[.string XS] 9)) wr.heap.size [.string XS] := Arr.new _ _ _
          go_upto_region 11 with fail
          go_wp2_with (at_builtin; refine wpl_app1 rfl _ _ 28 rfl B 9 zKr hi0' hz0 hz1 hz2 rfl _ rfl _ o26.out _ rfl _ hgX rfl (by rw [strs_len]; omega) zDc (Nat.le_trans hsB hb6.size) ?_)
          intro v' w7 o7 hg7 hat
          obtain ⟨a3, n3, c3, rfl⟩ : ∃ a n c, v' = .slice a n c := by
           rcases o7.2 with ⟨hv, _⟩ | ⟨g, cap, cur, hv, _⟩
           · exact ⟨_, _, _, hv⟩
           · exact ⟨_, _, _, hv⟩
          have kG7 := (kG.below hb6).gr hg7 (fun b hb => by have := own_block o26.out b hb; omega)
          have o17 := (own_below o1.out hb6).kept hg7 (by
           cases h1 : (Value.slice a1 n1 c1).ownBlock with
           | none => exact .inl rfl
           | some b => exact .inr (fun e => hsep b h1 e.symm))
          have hc7 : Cp ga B W5 w7 := (hcp.trans (Cp.of_below hb6 hsB)).trans (Cp.of_gr hg7 (Nat.le_trans hsB hb6.size) (fun g hg => .inr (own_block o26.out g hg)))
          have hs7 : B ≤ w7.heap.size := Nat.le_trans (Nat.le_trans hsB hb6.size) hg7.size
          have hsep7 : ∀ g, (Value.slice a1 n1 c1).ownBlock = some g → (Value.slice a3 n3 c3).ownBlock ≠ some g := fun g hg e => by
           rcases hat with h | h
           · rw [h] at e; exact hsep g hg e
           · rw [h] at e
             injection e with e
             have h5 := (World.ownsRow.lt o1.out g hg).2
             have h6 := hb6.size
             omega
          have y7 := kG7.cell (j := 1) rfl
          have f7 := kG7.frozen 1
          have hb1 := own_block o7
          have hb2 := own_block o17
          rw [← hXS, ← strs_snoc, show (strs ts).length + 1 = (strs (ts ++ [x])).length by simp [strs]] at o7
          replace o7 := zH o7
          replace o17 := zH o17
          replace kG7 := zH kG7
          clear hat hg7 y5 o26 hgX hb6 o1 o2 hi0' hz0 hz1 hz2 hcp hsep
          go_wp2_with fail
          exact ⟨⟨i + 1, ns, ts ++ [x], a1, a3, n1, c1, n3, c3, by omega, by go_num, by omega, by simp; omega, kG7.out.set 1 _, o17.out.kept (gr_cell w7 ga 1 _) (.inr (fun e => by have := hb2 _ e; omega)),
           o7.out.kept (gr_cell w7 ga 1 _) (.inr (fun e => by have := hb1 _ e; omega)), hsep7, hc7.trans (Cp.of_gr (gr_cell w7 ga 1 _) hs7 (fun g h => .inl (by injection h with h; exact h.symm))), hp.out⟩, by simp [intOf]; omega⟩
    · obtain rfl : i = nr := by omega
      have hp := hprs.out
      rw [List.drop_of_length_le zOm, List.drop_of_length_le zOm] at hp
      unfold prs at hp
      have hent : ∀ args w, (callFunc f args).run Tryz.prog w = .ok (.enter f args) w := by
       have : ∀ (T : List (List UInt8 × List UInt8 × Nat)), (∀ p ∈ T, ∀ args w, (callFunc p.2.2 args).run Tryz.prog w = .ok (.enter p.2.2 args) w) → ∀ k f, cmdF c T = some (k, f) → ∀ args w, (callFunc f args).run Tryz.prog w = .ok (.enter f args) w := by
        intro T
        induction T with
        | nil => intro _ k f h; cases h
        | cons p T ih =>
         intro hT k f h
         obtain ⟨m, k', f'⟩ := p
         unfold cmdF at h
         split at h
         · injection h with h
           injection h with h1 h2
           subst h2
           exact hT (m, k', f') (by simp)
         · exact ih (fun q hq => hT q (by simp [hq])) k f h
       refine this cmdT (fun p hp => ?_) k f hc
       simp only [cmdT, List.mem_cons, List.not_mem_nil, or_false] at hp
       rcases hp with h | h | h | h | h | h | h | h | h | h | h | h | h | h | h <;> (subst h; intro args w; kernel_rfl)
      have hdz := zH (hdo.out f ns ts (by simp only [prsL, hc]; rw [if_pos zOm, hOUT.out, ← hp]; rfl) wr (.slice a1 n1 c1) (.slice a2 n2 c2) (below_cp kb5 hcp zOm (by have := kb5.size; omega))
       (own_mono (by have := o1.out; rwa [List.length_map] at this) (by have := kb5.size; omega)) (own_mono (by have := o2.out; rwa [strs_len] at this) (by have := kb5.size; omega)))
      have kAr := zH (kA5.out.cp hcp (by rw [← hB]; exact kA5.out.lt) zOm)
      have z1 := (kC5.out.cp hcp (by rw [← hB]; exact kC5.out.lt) hgxa).cell (j := 1) rfl
      have z2 := kAr.out.cell (j := 0) rfl
      go_wp2_with (refine wpList_load_arr2 rfl _ _ rfl _ rfl zDk _ kG zKr ?_)
      refine hdz.out.mono ?_
      rintro e w9 (⟨rfl, hq⟩ | ⟨n, hn, rfl, hkp, htd⟩)
      · go_wp2_with fail
        show DQ _ _ _
        rw [← hDQ.out]
        exact ⟨rfl, .inl ⟨.inl rfl, hq⟩⟩
      · show DQ _ _ _
        rw [← hDQ.out]
        have kA9 : Arr w9 w.heap.size [.pointer (some ⟨P, 0, none⟩)] := by
         have hl := kAr.out.lt
         obtain ⟨T, h⟩ := kAr.out
         exact ⟨T, by rw [hkp.2 _ (Nat.le_refl _) hl]; exact h⟩
        exact ⟨rfl, .inr ⟨n, hn, rfl, kA9.lt, kA9.cell rfl, htd⟩⟩
  · have hlz : ((nr : Int) == (nk : Int)) = false := by simp; omega
    go_wp2_with fail
    refine (cM.out _).mono ?_
    rintro e w4 ⟨rfl, rfl⟩
    show DQ _ _ _
    rw [← hDQ.out]
    exact ⟨rfl, .inr ⟨2, by decide, rfl, kA3.out.lt, kA3.out.cell rfl, hbad.out (by simp only [prsL, hc]; rw [if_neg zOm]) _ kb3⟩⟩
theorem bstr_some (P B : Nat) (X : Plr) (a u : Value) (l : List UInt8) (w : World) (kp : Pl w P (X.cs a u)) (hown : w.ownsRow B 5 1 u l.length (u8s l)) (h0 : l ≠ []) :
 Calls Tryz.prog 16 #[.pointer (some ⟨P, 133, none⟩)] w fun e w' => e = .returned (.string ⟨l.toArray⟩) ∧ Below B w w' := by
 have hl0 : l.length ≠ 0 := by simpa using h0
 obtain ⟨g, cap, cur, rfl, hbg, hg, hnc, hcm, hcs, htake⟩ : ∃ g cap cur, u = .slice (some ⟨g, 0, none⟩) l.length cap ∧ B ≤ g ∧ w.heap[g]? = some (.cells cur 5 (0, 0)) ∧ l.length ≤ cap ∧ cap ≤ maxLen ∧ cur.size = cap * 1 ∧ cur.toList.take (l.length * 1) = u8s l := by
  rcases hown.2 with ⟨_, hz⟩ | ⟨g, cap, cur, hv, r⟩
  · exact absurd hz hl0
  · exact ⟨g, cap, cur, hv, r⟩
 have c1 : w.drew.cell? ⟨P, 134, none⟩ = some (.slice (some ⟨g, 0, none⟩) l.length cap) := (kp.below (Below.refl _ _).drew).arr.cell (Plr.at X _ _ (j := 6))
 have hSD : (Builtin.unsafeSliceData_ #[26] 70 #[.slice (some ⟨g, 0, none⟩) l.length cap]).run Tryz.prog w.drew = .ok (.pointer (some ⟨g, 0, none⟩)) w.drew :=
  Lib.run_unsafeSliceData_row _ _ _ _ _ _ zOm
 have hUS : (Builtin.unsafeString_ #[70, 3] 9 #[.pointer (some ⟨g, 0, none⟩), .int .i64 l.length]).run Tryz.prog w.drew = .ok (.string ⟨l.toArray⟩) (w.drew.freeze ⟨g, 0, none⟩ l.length) := by
  refine Lib.run_unsafeString_row w.drew 70 3 9 5 zKr zKr g cur.size (by have hg' : w.drew.heap[g]? = some (.cells cur 5 (0, 0)) := hg; simp [World.shape?, hg']) l h0 zOm (by unfold maxLen at hcm; omega) ?_
  intro j x hx
  have := hown.cells (g := g) rfl j (.int .u8 x.toNat) (by simp [u8s, hx])
  exact this
 obtain ⟨n, hn⟩ : ∃ n, l.length = n := ⟨_, rfl⟩
 rw [hn] at c1 hSD hUS
 clear hown hg hcs htake kp hn hl0 h0
 go_enter Tryz.func16, Tryz.ntmps16
 go_upto_region 1 with fail
 refine Tx.start (fun w' => w' = w.drew) 10 12 rfl zKr ?_
 refine Tx.seg2 (A := ?_) 2 1023 zKr (by exact rfl) [0, 1, 2, 3, 4, 5, 6, 7, 8, 9] zKr ?_ ?_
 rotate_left
 · intro w' hB
   subst hB
   iterate 10 (first | (refine rd_skip rfl rfl ?_; simp only [Act.put, zSa, zSz, zSs]) | (refine rd_take (v := ?_) rfl rfl ?_ ?_; rotate_left; (focus (go_simp; try (with_reducible rfl))); simp only [Act.put, zSa, zSz, zSs]))
   exact rd_nil
 refine Tx.bar 2047 rfl zDk (fun K hK => ?_)
 go_simp
 refine hK (fun _ => True) 9999 _ _ ?_
 clear hK K
 try simp only [Act.put, zSa, zSz, zSs]
 refine Tx.seg (A := ?_) 0 4095 zKr (by exact trivial) [11] zKr ?_ ?_
 rotate_left
 · intro w' hB
   exact zRd
 refine Tx.done zKr ?_
 go_wp2_with fail
 go_ret
 exact ⟨rfl, Lib.below_freeze (Below.drew (Below.refl B w)) (p := ⟨g, 0, none⟩) hbg _⟩
def nLn (l : List UInt8) : Nat := if (lns 10 l)[l.count 10]? = some [] then l.count 10 else l.count 10 + 1
theorem lines_any (s : ByteArray) (w : World) (hs : s.size < 4294967281) :
 Calls Tryz.prog 11 #[.string s] w fun e w' => ∃ g c, e = .returned (.slice (some ⟨g, 0, none⟩) (nLn s.data.toList) c) ∧ w.heap.size ≤ g ∧ Arr w' g (strs (lns 10 s.data.toList)) ∧ Below w.heap.size w w' := by
 have cS := zH (split_any 10 s w hs)
 obtain ⟨n, hn⟩ : ∃ n, s.data.toList.count 10 = n := ⟨_, rfl⟩
 have hln := lns_len 10 s.data.toList
 have hcl : n ≤ s.size := by
  rw [← hn]
  have := List.count_le_length (a := (10 : UInt8)) (l := s.data.toList)
  simpa using this
 rw [hn] at hln
 unfold nLn
 rw [hn]
 obtain ⟨L, hL⟩ : ∃ L, lns 10 s.data.toList = L := ⟨_, rfl⟩
 rw [hL] at cS hln ⊢
 rw [hln] at cS
 obtain ⟨x, hx⟩ : ∃ x, L[n]? = some x := ⟨_, List.getElem?_eq_getElem zOm⟩
 rw [hx]
 obtain ⟨N, hN⟩ : ∃ N, (if some x = some [] then n else n + 1) = N := ⟨_, rfl⟩
 rw [hN]
 replace hN := zH hN
 replace hln := zH hln
 clear hL hn
 go_enter Tryz.func11, Tryz.ntmps11
 go_wp2_with fail
 refine cS.out.mono ?_
 rintro e w1 ⟨rfl, hw1⟩
 have kL : Arr w1 w.heap.size (strs L) := by rw [hw1]; exact Arr.new _ _ _
 have kb : Below w.heap.size w w1 := by rw [hw1]; exact below_alloc _ _
 have y := kL.cell (j := n) (u := .string ⟨x.toArray⟩) (by simp [strs, hx])
 have ew : IntKind.i64.wrap ((n : Int) + 1 - 1) = n := by rw [show (n : Int) + 1 - 1 = n by omega]; exact i64_in zOm
 clear hw1 cS
 by_cases hx0 : x = []
 · subst hx0
   have hNn := hN.out
   rw [if_pos rfl] at hNn
   subst hNn
   go_wp2_with fail
   go_ret
   exact ⟨_, _, rfl, Nat.le_refl _, kL, kb⟩
 · have hNn := hN.out
   rw [if_neg (by simpa using hx0)] at hNn
   subst hNn
   have hxe : (⟨x.toArray⟩ : ByteArray).toList.isEmpty = false := isE (by
    cases x with
    | nil => exact absurd rfl hx0
    | cons _ _ => rfl)
   obtain ⟨XS, hXS⟩ : ∃ X : ByteArray, (⟨x.toArray⟩ : ByteArray) = X := ⟨_, rfl⟩
   rw [hXS] at hxe y
   go_wp2_with fail
   go_ret
   exact ⟨_, _, rfl, Nat.le_refl _, kL, kb⟩
def ofN (seed : Int) (nm : List UInt8) : Nat := shaa (be8s [seed] ++ nm)
theorem of1_any (seed : Int) (name : ByteArray) (hsz : name.size ≤ maxLen) (b : Nat) (w : World) (hs : w.cell? ⟨b, 0, none⟩ = some (.int .i64 seed)) :
 Calls Tryz.prog 19 #[.string name, .pointer (some ⟨b, 0, none⟩)] w fun e w' => e = .returned (.agg (bytn 32 (ofN seed name.data.toList)).toArray) ∧ Below w.heap.size w w' := by
 obtain ⟨R, hR⟩ : ∃ R, ofN seed name.data.toList = R := ⟨_, rfl⟩
 have hcell : Hid (Cells w ⟨b, 0, none⟩ [.int .i64 seed]) := zH (fun j u hu => by
  match j, hu with
  | 0, hu => simp at hu; subst hu; exact hs)
 have cP := zH (fun (w : World) g (h : Sl w (.slice (some ⟨g, 0, none⟩) 1 1) [.int .i64 seed]) => packInt_any (.slice none 0 0) (.slice (some ⟨g, 0, none⟩) 1 1) [] [seed] w (Sl.nil w) h (show 0 + 8 * 1 ≤ 140737488355328 by decide))
 have cv := zH (fun w => conv_str w name hsz)
 have cS := zH (fun (w : World) g (h : Sls w (.slice (some ⟨g, 0, none⟩) 2 2) [be8s [seed], name.data.toList]) => show Calls Tryz.prog 20 #[.slice (some ⟨g, 0, none⟩) 2 2] w fun e w' => e = .returned (.agg (bytn 32 R).toArray) ∧ Below w.heap.size w w' from by
  have q := shsuma_any (some ⟨g, 0, none⟩) 2 [be8s [seed], name.data.toList] w h
  rw [show [be8s [seed], name.data.toList].flatten = be8s [seed] ++ name.data.toList by simp, show shaa (be8s [seed] ++ name.data.toList) = R from hR] at q
  exact q)
 rw [hR]
 clear hR hs hsz
 go_enter Tryz.func19, Tryz.ntmps19
 go_upto_region 1 with fail
 refine wp_new1 (fun W hsz k2 kb => ?_)
 replace k2 : Arr W w.heap.size (bytn 32 0) := k2
 have hc1 : W.cell? ⟨b, 0, none⟩ = some (.int .i64 seed) := by
  have := (hcell.out.below kb) 0 _ rfl
  simpa [Addr.add] using this
 have kb2 := below_alloc W (.cells #[.int .i64 seed] 3)
 have h2 := zH (Sl.new1 W (.int .i64 seed) 3)
 clear hsz hcell
 go_wp2_with fail
 refine (cP.out _ _ h2.out).mono ?_
 rintro e w1 ⟨v, rfl, hv, hb⟩
 replace hb := bel kb2 hb
 replace k2 := k2.below hb
 replace kb := bel kb hb
 rw [List.nil_append] at hv
 obtain ⟨av, nv, cav, rfl⟩ : ∃ a n c, v = .slice a n c := by obtain ⟨a, c, h, -⟩ := Sl.of_own hv; exact ⟨_, _, _, h⟩
 have hv1 := zH (Sl.of_own hv)
 clear hb kb2 h2 cP hc1 hv
 obtain ⟨c, wB, hr, hS, hb⟩ := cv.out w1
 have hw1 := zH (hv1.out.below hb)
 replace k2 := k2.below hb
 replace kb := bel kb hb
 have kb2 := below_alloc wB (.cells #[.slice av nv cav, .slice (some ⟨w1.heap.size, 0, none⟩) name.size c] 26)
 have h2 := zH (Sls.new2 hw1.out hS 26)
 clear hS hb cv hv1
 obtain ⟨nz, hnz⟩ : ∃ n, name.size = n := ⟨_, rfl⟩
 rw [hnz] at hr kb2 h2
 clear hnz
 go_wp2_with fail
 refine (cS.out _ _ h2.out).mono ?_
 rintro e w2 ⟨rfl, hb⟩
 replace hb := bel kb2 hb
 replace k2 := k2.below hb
 replace kb := bel kb hb
 clear hb kb2 h2 cS hr
 go_wp2_with (refine zSt ?_)
 exact bodyPost_ret (results_arr2 Tryz.results19 _ _ _ rfl zKr _ (by first | assumption | exact Arr.setRow zAm _) zLn) rfl ⟨rfl, below_setRow kb (Nat.le_refl _) _⟩
def rootL : List UInt8 := [114, 111, 111, 116]
def signerL : List UInt8 := [115, 105, 103, 110, 101, 114]
def deviceL : List UInt8 := [100, 101, 118, 105, 99, 101]
def keyL : List UInt8 := [107, 101, 121]
def ofL (seed : Int) : List Value := setL (ofN seed rootL) (ofN seed signerL) (ofN seed deviceL) (ofN seed keyL)
theorem setL_one (r s d k : Nat) : ∀ v ∈ setL r s d k, v.oneCell' = true := by
 intro v hv
 simp only [setL, List.mem_append] at hv
 rcases hv with h | h | h | h <;> exact bytn_one _ _ v h
theorem of_any (seed : Int) (w : World) :
 Calls Tryz.prog 13 #[.int .i64 seed] w fun e w' => e = .returned (.agg (ofL seed).toArray) ∧ Below w.heap.size w w' := by
 have c1 := zH (fun b w h => of1_any seed ⟨#[114, 111, 111, 116]⟩ zDc b w h)
 have c2 := zH (fun b w h => of1_any seed ⟨#[115, 105, 103, 110, 101, 114]⟩ zDc b w h)
 have c3 := zH (fun b w h => of1_any seed ⟨#[100, 101, 118, 105, 99, 101]⟩ zDc b w h)
 have c4 := zH (fun b w h => of1_any seed ⟨#[107, 101, 121]⟩ zDc b w h)
 obtain ⟨r1, h1⟩ : ∃ n, ofN seed rootL = n := ⟨_, rfl⟩
 obtain ⟨r2, h2⟩ : ∃ n, ofN seed signerL = n := ⟨_, rfl⟩
 obtain ⟨r3, h3⟩ : ∃ n, ofN seed deviceL = n := ⟨_, rfl⟩
 obtain ⟨r4, h4⟩ : ∃ n, ofN seed keyL = n := ⟨_, rfl⟩
 rw [show (⟨#[114, 111, 111, 116]⟩ : ByteArray).data.toList = rootL from rfl] at c1
 rw [show (⟨#[115, 105, 103, 110, 101, 114]⟩ : ByteArray).data.toList = signerL from rfl] at c2
 rw [show (⟨#[100, 101, 118, 105, 99, 101]⟩ : ByteArray).data.toList = deviceL from rfl] at c3
 rw [show (⟨#[107, 101, 121]⟩ : ByteArray).data.toList = keyL from rfl] at c4
 unfold ofL
 rw [h1] at c1; rw [h2] at c2; rw [h3] at c3; rw [h4] at c4
 rw [h1, h2, h3, h4]
 clear h1 h2 h3 h4
 have hmf : ∀ (fn : Fn) (first cap : Array Value) (w : World), (Instr.makeFunc fn first cap).run Tryz.prog w = .ok (.func fn first cap) w := fun _ _ _ _ => rfl
 go_enter Tryz.func13, Tryz.ntmps13
 go_upto_region 2 with fail
 refine wp_new2 (fun W hsz k1 k2 kb => ?_)
 have k2l : Hid (∃ Z, Arr W (w.heap.size + 1) Z ∧ Z.length = 128) := zH ⟨_, k2, by rw [Array.length_toList]; kernel_rfl⟩
 obtain ⟨Z, k2, hZ⟩ := k2l.out
 replace hZ := zH hZ
 clear hsz k2l
 go_wp2_with fail
 refine (c1.out _ _ (k1.cell rfl)).mono ?_
 rintro e w1 ⟨rfl, hb⟩
 replace k1 := k1.below hb
 replace k2 := k2.below hb
 replace kb := bel kb hb
 clear hb c1
 go_wp2_with fail
 refine (c2.out _ _ (k1.cell rfl)).mono ?_
 rintro e w2 ⟨rfl, hb⟩
 replace k1 := k1.below hb
 replace k2 := k2.below hb
 replace kb := bel kb hb
 clear hb c2
 go_wp2_with fail
 refine (c3.out _ _ (k1.cell rfl)).mono ?_
 rintro e w3 ⟨rfl, hb⟩
 replace k1 := k1.below hb
 replace k2 := k2.below hb
 replace kb := bel kb hb
 clear hb c3
 go_wp2_with fail
 refine (c4.out _ _ (k1.cell rfl)).mono ?_
 rintro e w4 ⟨rfl, hb⟩
 replace k1 := k1.below hb
 replace k2 := k2.below hb
 replace kb := bel kb hb
 clear hb c4
 go_wp2_with (first | (refine wpList_builta rfl _ _ rfl (setL r1 r2 r3 r4).toArray zKr ?_) | (refine wpl_storeG rfl _ _ _ rfl _ (setL r1 r2 r3 r4) rfl rfl _ k2 (by rw [setL_len]; kernel_rfl) (by rw [setL_len, hZ.out]) (setL_one _ _ _ _) (fun w5 k3 hg hsz => ?_)))
 have qb := below_gr kb hg zOm kb.size
 exact bodyPost_ret (results_arr2 Tryz.results13 _ _ _ rfl zKr _ k3 (by rw [setL_len]; kernel_rfl)) rfl ⟨rfl, qb⟩
end Go.Proofs.YtibdgkhkhmdihaaGreatDoor
