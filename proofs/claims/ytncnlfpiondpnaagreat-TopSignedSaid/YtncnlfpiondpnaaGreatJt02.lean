/- TopSigned: part 2 of its proof: lemmas and contracts, each with its conditions in its own statement; the last part holds the law itself. -/
import Derived.Test.YtncnlfpiondpnaaGreatJt01
import Derived.Laws.ResultCell

set_option maxHeartbeats 4000000
set_option maxRecDepth 100000
namespace Go.Proofs.YtncnlfpiondpnaaGreat
open Go.RowKit
theorem raw_bad (g : Nat) (rest : List UInt8) (n : Int) (w : World) (hc : Cur w g rest true) :
 Calls Tryz.prog 133 #[.pointer (some ⟨g, 0, none⟩), .int .i64 n] w fun e w' => e = .returned (.slice none 0 0) ∧ w' = w := by
 obtain ⟨v, h0, h1, f0, f1, -⟩ := hc
 go_enter Tryz.func133, Tryz.ntmps133
 go_wp2_with fail
 go_step3
 go_wp2_with fail
 try rw [Exit.noGoto_ret]
 go_ret
 exact ⟨rfl, rfl⟩
theorem cur_gone {w : World} {g : Nat} {v : Value} {bad : Bool} (h0 : w.cell? ⟨g, 0, none⟩ = some v) (h1 : w.cell? ⟨g, 1, none⟩ = some (.bool bad)) (f0 : w.frozen? ⟨g, 0, none⟩ = false) (f1 : w.frozen? ⟨g, 1, none⟩ = false) :
 w.grownBy ((w.setCell ⟨g, 0, none⟩ (.slice none 0 0)).setCell ⟨g, 1, none⟩ (.bool true)) (some g) ∧ Cur ((w.setCell ⟨g, 0, none⟩ (.slice none 0 0)).setCell ⟨g, 1, none⟩ (.bool true)) g [] true := by
 have h1' : (w.setCell ⟨g, 0, none⟩ (.slice none 0 0)).cell? ⟨g, 1, none⟩ = some (.bool bad) := by
  rw [World.cell?_setCell_other _ _ _ _ (by simp)]; exact h1
 refine ⟨grownBy_set (grownBy_set (World.grownBy.refl _ _)), .slice none 0 0, ?_, ?_, ?_, ?_, .inl ⟨rfl, rfl⟩⟩
 · rw [World.cell?_setCell_other _ _ _ _ (by simp), World.cell?_setCell_same _ _ _ h0]
 · rw [World.cell?_setCell_same _ _ _ h1']
 · rw [World.frozen?_setCell, World.frozen?_setCell]; exact f0
 · rw [World.frozen?_setCell, World.frozen?_setCell]; exact f1
theorem raw_no (g : Nat) (rest : List UInt8) (n : Int) (w : World) (hc : Cur w g rest false) (hn : n < 0 ∨ (rest.length : Int) < n) :
 Calls Tryz.prog 133 #[.pointer (some ⟨g, 0, none⟩), .int .i64 n] w fun e w' => e = .returned (.slice none 0 0) ∧ w.grownBy w' (some g) ∧ Cur w' g [] true := by
 obtain ⟨v, h0, h1, f0, f1, hb⟩ := hc
 have hsh : ∃ a c, v = .slice a rest.length c := by rcases hb with ⟨rfl, rfl⟩ | ⟨b, o, cap, rfl, _⟩ <;> exact ⟨_, _, rfl⟩
 obtain ⟨a, c, rfl⟩ := hsh
 clear hb
 have hlt := World.block_lt_of_cell? w _ h0
 by_cases hneg : n < 0
 · clear hn
   go_enter Tryz.func133, Tryz.ntmps133
   go_wp2_with fail
   refine wp_scope_fwd 0 ?A1 ?W1 rfl ?first1 ?pass1
   case first1 =>
    go_wp2_with fail
    go_step3
    exact jump_at
   case pass1 =>
    go_wp2_with fail
    try rw [Exit.noGoto_ret]
    go_ret
    exact ⟨rfl, cur_gone h0 h1 f0 f1⟩
 · have hbig : (rest.length : Int) < n := hn.resolve_left hneg
   clear hn
   go_enter Tryz.func133, Tryz.ntmps133
   go_wp2_with fail
   refine wp_scope_fwd 0 ?A2 ?W2 rfl ?first2 ?pass2
   case first2 =>
    go_wp2_with fail
    go_step3
    exact jump_at
   case pass2 =>
    go_wp2_with fail
    try rw [Exit.noGoto_ret]
    go_ret
    exact ⟨rfl, cur_gone h0 h1 f0 f1⟩
theorem Sl.take {w : World} {b o n cap m : Nat} {bs : List UInt8} (hm : m ≤ n) (hn : bs.length = n) (hc : n ≤ cap) (hx : cap ≤ maxLen) (h : ∀ j u, (u8s bs)[j]? = some u → w.cell? ⟨b, o + j, none⟩ = some u) :
 Sl w (.slice (some ⟨b, o, none⟩) m cap) (u8s (bs.take m)) := by
 have hl : (bs.take m).length = m := by rw [List.length_take]; omega
 refine ⟨some ⟨b, o, none⟩, cap, by rw [u8s_len, hl], by rw [u8s_len, hl]; omega, hx, fun h => (by cases h), fun x hx => ?_⟩
 cases hx
 intro j u hu
 rw [Addr.add_lit]
 refine h j u ?_
 have hj : j < m := by
  have := (List.getElem?_eq_some_iff.1 hu).1
  rwa [u8s_len, hl] at this
 rw [← hu]
 simp [u8s, hj]
theorem raw_nil (g : Nat) (w : World) (h0 : w.cell? ⟨g, 0, none⟩ = some (.slice none 0 0)) (h1 : w.cell? ⟨g, 1, none⟩ = some (.bool false)) (f0 : w.frozen? ⟨g, 0, none⟩ = false) :
 Calls Tryz.prog 133 #[.pointer (some ⟨g, 0, none⟩), .int .i64 0] w fun e w' => e = .returned (.slice none 0 0) ∧ w' = w.setCell ⟨g, 0, none⟩ (.slice none 0 0) := by
 go_enter Tryz.func133, Tryz.ntmps133
 go_wp2_with fail
 refine wp_scope_none ?_
 go_wp2_with fail
 refine (clone_nil w).mono ?_
 rintro e w1 ⟨rfl, rfl⟩
 go_wp2_with fail
 try rw [Exit.noGoto_ret]
 go_ret
 exact ⟨rfl, rfl⟩
def RawPost (w : World) (g b o cap m : Nat) (rest : List UInt8) (e : Ending) (w' : World) : Prop :=
 ∃ v w1 ao, e = .returned v ∧ w1.ownsRow w.heap.size 5 1 v m (u8s (rest.take m)) ∧ Below w.heap.size w w1 ∧ (m < rest.length → ao = some ⟨b, o + m, none⟩) ∧ (∃ o', ao = some ⟨b, o', none⟩) ∧
  w' = w1.setCell ⟨g, 0, none⟩ (.slice ao (rest.length - m) (cap - m))
theorem raw_some (g b o cap m : Nat) (rest : List UInt8) (w : World) (h0 : w.cell? ⟨g, 0, none⟩ = some (.slice (some ⟨b, o, none⟩) rest.length cap)) (h1 : w.cell? ⟨g, 1, none⟩ = some (.bool false)) (f0 : w.frozen? ⟨g, 0, none⟩ = false)
 (hc : rest.length ≤ cap) (hx : cap ≤ maxLen) (hm : m ≤ rest.length) (hr : rest.length ≤ 140737488355328) (hcs : Hid (∀ j u, (u8s rest)[j]? = some u → w.cell? ⟨b, o + j, none⟩ = some u)) :
 Calls Tryz.prog 133 #[.pointer (some ⟨g, 0, none⟩), .int .i64 m] w (RawPost w g b o cap m rest) := by
 have hlt := World.block_lt_of_cell? w _ h0
 have hs := zH (Sl.take hm rfl hc hx hcs.out)
 have e1 : (0 : Int) ≤ (m : Int) := by omega
 have e2 : (m : Int) ≤ (rest.length : Int) := by omega
 have e3 : (rest.length : Int) ≤ (cap : Int) := by omega
 go_enter Tryz.func133, Tryz.ntmps133
 go_wp2_with fail
 refine wp_scope_none ?_
 go_wp2_with fail
 refine (clone_any _ (rest.take m) w hs.out (by rw [List.length_take]; omega)).mono ?_
 rintro e w1 ⟨v1, rfl, hown, hbel, -⟩
 have g0 := hbel.cell (p := ⟨g, 0, none⟩) hlt
 have g1 := hbel.frozen (p := ⟨g, 0, none⟩) hlt
 have hown' := zH hown
 clear hown
 go_wp2_with fail
 all_goals (try rw [Exit.noGoto_ret])
 all_goals go_ret
 · refine ⟨v1, w1, some ⟨b, o, none⟩, rfl, ?_, hbel, fun h => by omega, ⟨o, rfl⟩, by simp⟩
   have := hown'.out
   rwa [List.length_take, Nat.min_eq_left hm] at this
 · refine ⟨v1, w1, some ⟨b, o + m, none⟩, rfl, ?_, hbel, fun h => rfl, ⟨o + m, rfl⟩, rfl⟩
   have := hown'.out
   rwa [List.length_take, Nat.min_eq_left hm] at this
def rawS (rest : List UInt8) (bad : Bool) (n : Int) : List UInt8 × List UInt8 × Bool :=
 if bad = true then ([], rest, true) else if n < 0 ∨ (rest.length : Int) < n then ([], [], true) else (rest.take n.toNat, rest.drop n.toNat, false)
def CurPost (w : World) (g : Nat) (r : List UInt8 × List UInt8 × Bool) (e : Ending) (w' : World) : Prop :=
 ∃ v, e = .returned v ∧ w'.ownsRow w.heap.size 5 1 v r.1.length (u8s r.1) ∧ w.grownBy w' (some g) ∧ Cur w' g r.2.1 r.2.2
theorem own_set {w : World} {base : Nat} {e : TypeId} {size : Nat} {v : Value} {n : Nat} {xs : List Value} {g o : Nat} {u : Value} (h : w.ownsRow base e size v n xs) (hg : g < base) : (w.setCell ⟨g, o, none⟩ u).ownsRow base e size v n xs :=
 ownsRow_setCell_below h (by simpa using hg) u
theorem raw_any (g : Nat) (rest : List UInt8) (bad : Bool) (n : Int) (w : World) (hc : Cur w g rest bad) (hr : rest.length ≤ 140737488355328) :
 Calls Tryz.prog 133 #[.pointer (some ⟨g, 0, none⟩), .int .i64 n] w (CurPost w g (rawS rest bad n)) := by
 cases bad with
 | true =>
  refine (raw_bad g rest n w hc).mono ?_
  rintro e w' ⟨rfl, rfl⟩
  exact ⟨_, rfl, World.ownsRow_nil _ _ _ _, World.grownBy.refl _ _, hc⟩
 | false =>
  by_cases hn : n < 0 ∨ (rest.length : Int) < n
  · refine (raw_no g rest n w hc hn).mono ?_
    rintro e w' ⟨rfl, h1, h2⟩
    have e1 : rawS rest false n = ([], [], true) := by simp [rawS, hn]
    rw [e1]
    exact ⟨_, rfl, World.ownsRow_nil _ _ _ _, h1, h2⟩
  · have e1 : rawS rest false n = (rest.take n.toNat, rest.drop n.toNat, false) := by simp [rawS, hn]
    rw [e1]
    obtain ⟨m, rfl⟩ : ∃ m : Nat, n = m := ⟨n.toNat, by omega⟩
    have hm : m ≤ rest.length := by omega
    have hlt := hc.lt
    obtain ⟨v, h0, h1, f0, f1, hb⟩ := hc
    rcases hb with ⟨rfl, rfl⟩ | ⟨b, o, cap, rfl, h2, h3, h4, h5, h6⟩
    · obtain rfl : m = 0 := by simpa using hm
      refine (raw_nil g w h0 h1 f0).mono ?_
      rintro e w' ⟨rfl, rfl⟩
      refine ⟨_, rfl, World.ownsRow_nil _ _ _ _, grownBy_set (World.grownBy.refl _ _), .slice none 0 0, ?_, ?_, ?_, ?_, .inl ⟨rfl, rfl⟩⟩
      · rw [World.cell?_setCell_same _ _ _ h0]
      · rw [World.cell?_setCell_other _ _ _ _ (by simp)]; exact h1
      · rw [World.frozen?_setCell]; exact f0
      · rw [World.frozen?_setCell]; exact f1
    · refine (raw_some g b o cap m rest w h0 h1 f0 h2 h3 hm hr h6).mono ?_
      rintro e w' ⟨v, w1, ao, rfl, k1, k2, k3, ⟨o', k4⟩, rfl⟩
      simp only [Int.toNat_natCast]
      have hg1 : w1.cell? ⟨g, 0, none⟩ = some (.slice (some ⟨b, o, none⟩) rest.length cap) := by rw [k2.cell (p := ⟨g, 0, none⟩) hlt]; exact h0
      have hlen : (rest.drop m).length = rest.length - m := List.length_drop
      refine ⟨v, rfl, ?_, grownBy_set (below_grownBy k2 _), .slice ao (rest.length - m) (cap - m), ?_, ?_, ?_, ?_, .inr ⟨b, o', cap - m, by rw [k4, hlen], by show (rest.drop m).length ≤ _; omega, by unfold maxLen at *; omega, h4, ?_, ?_⟩⟩
      · rw [List.length_take, Nat.min_eq_left hm]; exact own_set k1 hlt
      · rw [World.cell?_setCell_same _ _ _ hg1]
      · rw [World.cell?_setCell_other _ _ _ _ (by simp), k2.cell (p := ⟨g, 1, none⟩) hlt]; exact h1
      · rw [World.frozen?_setCell, k2.frozen (p := ⟨g, 0, none⟩) hlt]; exact f0
      · rw [World.frozen?_setCell, k2.frozen (p := ⟨g, 1, none⟩) hlt]; exact f1
      · have := k2.size; simp only [World.setCell, Array.size_modify]; omega
      · intro j u hu
        have hj : j < rest.length - m := by
         have := (List.getElem?_eq_some_iff.1 hu).1
         rwa [u8s_len, hlen] at this
        have e2 := k3 zOm
        rw [k4] at e2
        cases e2
        rw [World.cell?_setCell_other _ _ _ _ (by simp), k2.cell (p := ⟨b, o + m + j, none⟩) h5, Nat.add_assoc]
        refine h6 (m + j) u ?_
        rw [← hu]
        simp [u8s]
theorem rdn_lt (bs : List UInt8) : rdn bs < 256 ^ bs.length := by
 suffices h : ∀ (bs : List UInt8) (a : Nat), bs.foldl (fun a b => a * 256 + b.toNat) a < (a + 1) * 256 ^ bs.length by simpa [rdn] using h bs 0
 intro bs
 induction bs with
 | nil => intro a; simp
 | cons b bs ih =>
  intro a
  simp only [List.foldl_cons, List.length_cons]
  have h1 := ih (a * 256 + b.toNat)
  have h2 := b.toNat_lt
  refine Nat.lt_of_lt_of_le h1 ?_
  rw [Nat.pow_succ, Nat.mul_comm (256 ^ bs.length) 256, ← Nat.mul_assoc]
  exact Nat.mul_le_mul_right _ zOm
def sgn (n : Nat) : Int := if n < 9223372036854775808 then n else (n : Int) - 18446744073709551616
theorem shl_or {u c : Nat} (hu : u < 72057594037927936) (hc : c < 256) : bits .or .u64 ((u : Int) * 256) (c : Int) = ((u * 256 + c : Nat) : Int) := by
 have e : ((u : Int) * 256) = ((u * 256 : Nat) : Int) := by omega
 rw [e, u64_or_nat _ _ zOm zOm]
 congr 1
 exact nat_join 8 _ _ zOm zOm
theorem wrap64_sgn {n : Nat} (h : n < 18446744073709551616) : wrap64 (n : Int) = sgn n := by
 unfold wrap64 sgn
 split <;> omega
def intS (rest : List UInt8) (bad : Bool) : Int × List UInt8 × Bool := (sgn (rdn (rawS rest bad 8).1), (rawS rest bad 8).2)
theorem rawS_len (rest : List UInt8) (bad : Bool) (n : Int) : (rawS rest bad n).1.length ≤ n.toNat := by
 unfold rawS
 split
 · simp
 · split
   · simp
   · simp only [List.length_take]; omega
def IntPost (w : World) (g : Nat) (r : Int × List UInt8 × Bool) (e : Ending) (w' : World) : Prop :=
 e = .returned (.int .i64 r.1) ∧ w.grownBy w' (some g) ∧ Cur w' g r.2.1 r.2.2
theorem int_any (g : Nat) (rest : List UInt8) (bad : Bool) (w : World) (hc : Cur w g rest bad) (hr : rest.length ≤ 140737488355328) :
 Calls Tryz.prog 134 #[.pointer (some ⟨g, 0, none⟩)] w (IntPost w g (intS rest bad)) := by
 have hl8 := rawS_len rest bad 8
 unfold intS
 generalize hR : rawS rest bad 8 = R at *
 have hR' := zH hR
 clear hR
 obtain ⟨bs, rest', bad'⟩ := R
 simp only at hl8 ⊢
 go_enter Tryz.func134, Tryz.ntmps134
 go_wp2_with fail
 refine (raw_any g rest bad 8 w hc hr).mono ?_
 rintro e w1 ⟨v1, rfl, hown, hg, hcur⟩
 rw [hR'.out] at hown hcur
 simp only at hown hcur
 have hsl := zH (Sl.of_own hown)
 have hsh : ∃ a c, v1 = .slice a bs.length c := by
  obtain ⟨a, c, h, _⟩ := Sl.of_own hown
  exact ⟨a, c, by rw [h, u8s_len]⟩
 obtain ⟨a, c, rfl⟩ := hsh
 have hcur' := zH hcur
 have hg' := zH hg
 clear hown hcur hg hc hR'
 have hbl : bs.length ≤ 8 := by simpa using hl8
 clear hl8
 go_wp2_with fail
 go_loop [3, 9] (fun uv kv => ∃ k : Nat, k ≤ bs.length ∧ kv = .int .i64 k ∧ uv = .int .u64 (rdn (bs.take k))) (fun _ kv => bs.length - (intOf kv).toNat)
 case atStart => exact ⟨0, Nat.zero_le _, rfl, rfl⟩
 case round =>
  obtain ⟨k, hk, rfl, rfl⟩ := hrel
  by_cases hlt : k < bs.length
  · obtain ⟨b, o, rfl, -, -, -, hcs⟩ := hsl.out.at (by rw [u8s_len]; omega)
    have hcell := hcs k _ (u8s_get bs k hlt)
    clear hcs
    have hlo : rdn (bs.take k) < 72057594037927936 := by
     have h1 := rdn_lt (bs.take k)
     have h2 : (bs.take k).length ≤ 7 := by rw [List.length_take]; omega
     have h3 : 256 ^ (bs.take k).length ≤ 256 ^ 7 := Nat.pow_le_pow_right zDc h2
     have h4 : (256 : Nat) ^ 7 = 72057594037927936 := by decide
     omega
    have hc256 := bs[k].toNat_lt
    have hlo2 : (rdn (bs.take k) : Int) < 72057594037927936 := by omega
    have hstep : Hid (rdn (bs.take (k + 1)) = rdn (bs.take k) * 256 + bs[k].toNat) := by
     show _ = _
     rw [List.take_add_one, List.getElem?_eq_getElem hlt, Option.toList, rdn_snoc]
    go_wp2_with fail
    exact ⟨⟨k + 1, by omega, by go_num, by rw [shl_or hlo hc256, hstep.out]⟩, by simp [intOf]; omega⟩
  · have hk' : k = bs.length := by omega
    subst hk'
    rw [List.take_of_length_le (Nat.le_refl _)]
    have hb8 : rdn bs < 18446744073709551616 := by
     have h1 := rdn_lt bs
     have h3 : 256 ^ bs.length ≤ 256 ^ 8 := Nat.pow_le_pow_right zDc hbl
     have h4 : (256 : Nat) ^ 8 = 18446744073709551616 := by decide
     omega
    have hb8' := zH hb8
    clear hb8
    go_wp2_with fail
    go_ret
    refine ⟨?_, hg'.out, hcur'.out⟩
    rw [← wrap64_sgn hb8'.out]
    rfl
theorem own_grown {w w' : World} {base : Nat} {v : Value} {n g : Nat} {xs : List Value} {e : TypeId} {size : Nat} (h : w.ownsRow base e size v n xs) (hg : w.grownBy w' (some g)) (hb : g < base) : w'.ownsRow base e size v n xs :=
 h.kept hg (by
  cases hv : v.ownBlock with
  | none => exact .inl rfl
  | some k =>
   have := (h.lt k hv).1
   exact .inr (by simp only [ne_eq, Option.some.injEq]; omega))
def endS (rest : List UInt8) (bad : Bool) : Bool := !bad && rest.length == 0
theorem end_any (g : Nat) (rest : List UInt8) (bad : Bool) (w : World) (hc : Cur w g rest bad) :
 Calls Tryz.prog 136 #[.pointer (some ⟨g, 0, none⟩)] w fun e w' => e = .returned (.bool (endS rest bad)) ∧ w' = w := by
 obtain ⟨v, h0, h1, f0, f1, hb⟩ := hc
 have hsh : ∃ a c, v = .slice a rest.length c := by rcases hb with ⟨rfl, rfl⟩ | ⟨b, o, cap, rfl, _⟩ <;> exact ⟨_, _, rfl⟩
 obtain ⟨a, c, rfl⟩ := hsh
 clear hb
 cases bad with
 | true =>
  go_enter Tryz.func136, Tryz.ntmps136
  go_wp2_with fail
  go_ret
  exact ⟨rfl, rfl⟩
 | false =>
  go_enter Tryz.func136, Tryz.ntmps136
  go_wp2_with fail
  go_ret
  have e : (!false && rest.length == 0) = ((rest.length : Int) == 0) := by rw [Bool.eq_iff_iff]; simp
  exact ⟨by rw [endS, e]; rfl, rfl⟩
theorem sgn_be8 {n : Int} (h : -9223372036854775808 ≤ n ∧ n ≤ 9223372036854775807) : sgn (rdn (be8 n)) = n := by
 rw [rdn_be8]
 unfold sgn
 split <;> omega
theorem Sl.shape {w : World} {v : Value} {bs : List UInt8} (h : Sl w v (u8s bs)) : ∃ a c, v = .slice a bs.length c ∧ bs.length ≤ c := by
 obtain ⟨a, c, h1, h2, _⟩ := h
 rw [u8s_len] at h1 h2
 exact ⟨a, c, h1, h2⟩
theorem Sl.cut {w : World} {a : Option Addr} {n c k : Nat} {bs : List UInt8} (h : Sl w (.slice a n c) (u8s bs)) (hk : k ≤ bs.length) : Sl w (.slice a k c) (u8s (bs.take k)) := by
 obtain ⟨a', c', h1, h2, h3, h4, h5⟩ := h
 simp only [Value.slice.injEq] at h1
 obtain ⟨rfl, rfl, rfl⟩ := h1
 rw [u8s_len] at h2
 have hl : (bs.take k).length = k := by rw [List.length_take]; omega
 refine ⟨a, c, by rw [u8s_len, hl], by rw [u8s_len, hl]; omega, h3, h4, fun x hx j u hu => h5 x hx j u ?_⟩
 have hj : j < k := by
  have := (List.getElem?_eq_some_iff.1 hu).1
  rwa [u8s_len, hl] at this
 rw [← hu]
 simp [u8s, hj]
def digs (b k n : Nat) : List Nat := (List.range k).map fun i => n / b ^ i % b
theorem digs_len (b k n : Nat) : (digs b k n).length = k := by simp [digs]
theorem digs_get (b k n i : Nat) (h : i < k) : (digs b k n)[i]? = some (n / b ^ i % b) := by simp [digs, h]
def part {α : Type} (k : Nat) (xs : List α) (z : α) : List α := xs.take k ++ List.replicate (xs.length - k) z
theorem part_len {α : Type} (k : Nat) (xs : List α) (z : α) : (part k xs z).length = xs.length := by
 simp only [part, List.length_append, List.length_take, List.length_replicate]; omega
theorem part_all {α : Type} (xs : List α) (z : α) : part xs.length xs z = xs := by simp [part]
theorem part_get {α : Type} (k j : Nat) (xs : List α) (z : α) (h : j < xs.length) : (part k xs z)[j]? = if j < k then xs[j]? else some z := by
 unfold part
 by_cases hj : j < k
 · rw [if_pos hj, List.getElem?_append_left (by simp; omega), List.getElem?_take, if_pos hj]
 · rw [if_neg hj, List.getElem?_append_right (by simp; omega), List.getElem?_replicate, if_pos (by simp; omega)]
theorem part_set {α : Type} {k : Nat} {xs : List α} {z u : α} (h : xs[k]? = some u) : (part k xs z).set k u = part (k + 1) xs z := by
 have hk : k < xs.length := (List.getElem?_eq_some_iff.1 h).1
 apply List.ext_getElem?
 intro j
 by_cases hj : j < xs.length
 · rw [List.getElem?_set, part_get k j xs z hj, part_get (k + 1) j xs z hj, part_len]
   by_cases e : k = j
   · subst e; rw [if_pos rfl, if_pos hk, if_pos zOm, h]
   · rw [if_neg e]
     by_cases h2 : j < k
     · rw [if_pos h2, if_pos zOm]
     · rw [if_neg h2, if_neg zOm]
 · rw [List.getElem?_eq_none (by rw [List.length_set, part_len]; omega), List.getElem?_eq_none (by rw [part_len]; omega)]
def carry (b k x y : Nat) : Nat := (x % b ^ k + y % b ^ k) / b ^ k
theorem carry_zero (b x y : Nat) : carry b 0 x y = 0 := by simp [carry, Nat.mod_one]
theorem mod_pow_succ' (b k x : Nat) : x % b ^ (k + 1) = x % b ^ k + b ^ k * (x / b ^ k % b) := by
 rw [Nat.pow_succ, Nat.mod_mul]
theorem carry_le (b k x y : Nat) (hb : 0 < b) : carry b k x y ≤ 1 := by
 unfold carry
 have hp : 0 < b ^ k := Nat.pow_pos hb
 have h1 := Nat.mod_lt x hp
 have h2 := Nat.mod_lt y hp
 apply Nat.lt_succ_iff.1
 rw [Nat.div_lt_iff_lt_mul hp]
 omega
theorem carry_step (b k x y : Nat) (hb : 0 < b) : carry b (k + 1) x y = (x / b ^ k % b + y / b ^ k % b + carry b k x y) / b := by
 unfold carry
 have hp : 0 < b ^ k := Nat.pow_pos hb
 rw [mod_pow_succ', mod_pow_succ', Nat.pow_succ, ← Nat.div_div_eq_div_mul,
  show x % b ^ k + b ^ k * (x / b ^ k % b) + (y % b ^ k + b ^ k * (y / b ^ k % b)) = (x % b ^ k + y % b ^ k) + b ^ k * (x / b ^ k % b + y / b ^ k % b) by rw [Nat.mul_add]; omega,
  Nat.add_mul_div_left _ _ hp]
 congr 1
 omega
theorem carry_digit (b k x y : Nat) (hb : 0 < b) : (x + y) / b ^ k % b = (x / b ^ k % b + y / b ^ k % b + carry b k x y) % b := by
 have hp : 0 < b ^ k := Nat.pow_pos hb
 have hx := Nat.div_add_mod x (b ^ k)
 have hy := Nat.div_add_mod y (b ^ k)
 have e : x + y = (x % b ^ k + y % b ^ k) + b ^ k * (x / b ^ k + y / b ^ k) := by rw [Nat.mul_add]; omega
 rw [e, Nat.add_mul_div_left _ _ hp]
 show (carry b k x y + (x / b ^ k + y / b ^ k)) % b = _
 rw [Nat.add_comm (carry b k x y), Nat.add_mod (x / b ^ k % b + y / b ^ k % b), ← Nat.add_mod (x / b ^ k), ← Nat.add_mod]
theorem limb_byte (n k : Nat) : n / 18446744073709551616 ^ (k / 8) % 18446744073709551616 / 2 ^ (8 * (k % 8)) % 256 = n / 256 ^ k % 256 := by
 have hr : k % 8 < 8 := Nat.mod_lt _ zDc
 have hk : k = 8 * (k / 8) + k % 8 := by omega
 have e1 : (18446744073709551616 : Nat) ^ (k / 8) = 256 ^ (8 * (k / 8)) := by rw [Nat.pow_mul]
 have e2 : (2 : Nat) ^ (8 * (k % 8)) = 256 ^ (k % 8) := by rw [Nat.pow_mul]
 have e3 : (18446744073709551616 : Nat) = 256 ^ (k % 8) * 256 ^ (8 - k % 8) := by rw [← Nat.pow_add, show k % 8 + (8 - k % 8) = 8 by omega]
 have e4 : (256 : Nat) ^ k = 256 ^ (8 * (k / 8)) * 256 ^ (k % 8) := by rw [← Nat.pow_add, ← hk]
 rw [e1, e2, e4, ← Nat.div_div_eq_div_mul]
 generalize n / 256 ^ (8 * (k / 8)) = m
 have e5 : m % 18446744073709551616 = m % (256 ^ (k % 8) * 256 ^ (8 - k % 8)) := by rw [← e3]
 rw [e5, Nat.mod_mul_right_div_self, Nat.mod_mod_of_dvd]
 exact Nat.dvd_of_pow_dvd (by omega : 1 ≤ 8 - k % 8) (Nat.dvd_refl _) |> fun h => by simpa using h
def borrow (b k x y : Nat) : Nat := if x % b ^ k < y % b ^ k then 1 else 0
theorem borrow_zero (b x y : Nat) : borrow b 0 x y = 0 := by simp [borrow, Nat.mod_one]
theorem borrow_le (b k x y : Nat) : borrow b k x y ≤ 1 := by unfold borrow; split <;> omega
theorem borrow_step (b k x y : Nat) (hb : 0 < b) : borrow b (k + 1) x y = if x / b ^ k % b < y / b ^ k % b + borrow b k x y then 1 else 0 := by
 have hp : 0 < b ^ k := Nat.pow_pos hb
 unfold borrow
 rw [mod_pow_succ', mod_pow_succ']
 generalize x / b ^ k % b = X
 generalize y / b ^ k % b = Y
 have h1 := Nat.mod_lt x hp
 have h2 := Nat.mod_lt y hp
 generalize x % b ^ k = r at h1 ⊢
 generalize y % b ^ k = s at h2 ⊢
 generalize b ^ k = P at hp h1 h2 ⊢
 rcases Nat.lt_trichotomy X Y with h | h | h
 · have : P * (X + 1) ≤ P * Y := Nat.mul_le_mul_left P h
   rw [Nat.mul_add] at this
   split <;> (split <;> split <;> omega)
 · subst h
   split <;> (split <;> split <;> omega)
 · have : P * (Y + 1) ≤ P * X := Nat.mul_le_mul_left P h
   rw [Nat.mul_add] at this
   split <;> (split <;> split <;> omega)
theorem borrow_digit (b k m x y : Nat) (hb : 0 < b) (hk : k < m) (hxy : y ≤ x + b ^ m) : (x + b ^ m - y) / b ^ k % b = (x / b ^ k % b + b - y / b ^ k % b - borrow b k x y) % b := by
 have hp : 0 < b ^ k := Nat.pow_pos hb
 obtain ⟨d, rfl⟩ : ∃ d, m = k + 1 + d := ⟨m - (k + 1), by omega⟩
 have e : b ^ (k + 1 + d) = b ^ k * (b * b ^ d) := by rw [Nat.pow_add, Nat.pow_succ, Nat.mul_assoc]
 rw [e] at hxy ⊢
 have hx := Nat.div_add_mod x (b ^ k)
 have hy := Nat.div_add_mod y (b ^ k)
 have h1 := Nat.mod_lt x hp
 have h2 := Nat.mod_lt y hp
 have hX := Nat.div_add_mod (x / b ^ k) b
 have hY := Nat.div_add_mod (y / b ^ k) b
 have h3 := Nat.mod_lt (x / b ^ k) hb
 have h4 := Nat.mod_lt (y / b ^ k) hb
 unfold borrow
 generalize hxq : x / b ^ k = xq at *
 generalize hyq : y / b ^ k = yq at *
 generalize hxr : x % b ^ k = xr at *
 generalize hyr : y % b ^ k = yr at *
 clear hxq hyq hxr hyr
 generalize b ^ k = P at *
 generalize hXm : xq % b = X at *
 generalize hYm : yq % b = Y at *
 generalize xq / b = xh at *
 generalize yq / b = yh at *
 generalize hD : b ^ d = D at *
 clear hXm hYm hD e
 have key : ∃ q r, x + P * (b * D) - y = P * q + r ∧ r < P ∧ q + yq + (if xr < yr then 1 else 0) = xq + b * D := by
  have hP1 : ∀ u v, u + 1 ≤ v → P * u + P ≤ P * v := fun u v h => by have := Nat.mul_le_mul_left P h; rwa [Nat.mul_add, Nat.mul_one] at this
  by_cases hb2 : xr < yr
  · have h5 : yq + 1 ≤ xq + b * D := by
     rcases Nat.lt_or_ge yq (xq + b * D) with h | h
     · omega
     · have := Nat.mul_le_mul_left P h
       rw [Nat.mul_add] at this
       omega
    refine ⟨xq + b * D - yq - 1, P + xr - yr, ?_, by omega, by rw [if_pos hb2]; omega⟩
    obtain ⟨t, ht⟩ : ∃ t, xq + b * D = yq + 1 + t := ⟨_, (Nat.add_sub_of_le h5).symm⟩
    have h6 : P * (xq + b * D) = P * yq + P + P * t := by rw [ht, Nat.mul_add, Nat.mul_add, Nat.mul_one]
    rw [Nat.mul_add] at h6
    rw [show xq + b * D - yq - 1 = t by omega]
    omega
  · have h5 : yq ≤ xq + b * D := by
     rcases Nat.lt_or_ge (xq + b * D) yq with h | h
     · have := hP1 _ _ h
       rw [Nat.mul_add] at this
       omega
     · omega
    refine ⟨xq + b * D - yq, xr - yr, ?_, by omega, by rw [if_neg hb2]; omega⟩
    obtain ⟨t, ht⟩ : ∃ t, xq + b * D = yq + t := ⟨_, (Nat.add_sub_of_le h5).symm⟩
    have h6 : P * (xq + b * D) = P * yq + P * t := by rw [ht, Nat.mul_add]
    rw [Nat.mul_add] at h6
    rw [show xq + b * D - yq = t by omega]
    omega
 obtain ⟨q, r, h5, h6, h7⟩ := key
 rw [h5, Nat.mul_add_div hp, Nat.div_eq_of_lt h6, Nat.add_zero]
 have hbor : (if xr < yr then 1 else 0) ≤ 1 := by split <;> omega
 generalize (if xr < yr then 1 else 0) = B at *
 have h8 : q + b * (yh + 1) = (X + b - Y - B) + b * (xh + D) := by
  rw [Nat.mul_add, Nat.mul_add, Nat.mul_one]
  omega
 have h9 := congrArg (· % b) h8
 simpa only [Nat.add_mul_mod_self_left] using h9
theorem lim_pow (j : Nat) : (18446744073709551616 : Nat) ^ j = 256 ^ (8 * j) := by rw [Nat.pow_mul]
theorem of_low (n k j : Nat) (h : j < k / 8) : n % 256 ^ (k + 1) / 18446744073709551616 ^ j % 18446744073709551616 = n % 256 ^ k / 18446744073709551616 ^ j % 18446744073709551616 := by
 have hp : 0 < (18446744073709551616 : Nat) ^ j := Nat.pow_pos zDc
 have e : (256 : Nat) ^ k = 18446744073709551616 ^ j * (18446744073709551616 * 256 ^ (k - 8 * j - 8)) := by
  rw [lim_pow, show (18446744073709551616 : Nat) = 256 ^ 8 by decide, ← Nat.pow_add, ← Nat.pow_add]
  congr 1; omega
 rw [mod_pow_succ', e, Nat.mul_assoc, Nat.add_mul_div_left _ _ hp, Nat.mul_assoc, Nat.add_mul_mod_self_left]
theorem of_at (n k : Nat) : n % 256 ^ (k + 1) / 18446744073709551616 ^ (k / 8) % 18446744073709551616 = n % 256 ^ k / 18446744073709551616 ^ (k / 8) + n / 256 ^ k % 256 * 256 ^ (k % 8) ∧
 n % 256 ^ k / 18446744073709551616 ^ (k / 8) < 256 ^ (k % 8) ∧ n % 256 ^ k / 18446744073709551616 ^ (k / 8) + n / 256 ^ k % 256 * 256 ^ (k % 8) < 18446744073709551616 := by
 have hp : 0 < (18446744073709551616 : Nat) ^ (k / 8) := Nat.pow_pos zDc
 have e : (256 : Nat) ^ k = 18446744073709551616 ^ (k / 8) * 256 ^ (k % 8) := by
  rw [lim_pow, ← Nat.pow_add]
  congr 1; omega
 have h1 : n % 256 ^ k / 18446744073709551616 ^ (k / 8) < 256 ^ (k % 8) := by
  rw [Nat.div_lt_iff_lt_mul hp, Nat.mul_comm, ← e]
  exact Nat.mod_lt _ (Nat.pow_pos zDc)
 have h2 : n / 256 ^ k % 256 < 256 := Nat.mod_lt _ zDc
 have h3 : n % 256 ^ k / 18446744073709551616 ^ (k / 8) + n / 256 ^ k % 256 * 256 ^ (k % 8) < 18446744073709551616 := by
  have h4 : (n / 256 ^ k % 256 + 1) * 256 ^ (k % 8) ≤ 256 * 256 ^ (k % 8) := Nat.mul_le_mul_right _ h2
  have h5 : 256 * 256 ^ (k % 8) ≤ 18446744073709551616 := by
   rw [Nat.mul_comm, ← Nat.pow_succ, show (18446744073709551616 : Nat) = 256 ^ 8 by decide]
   exact Nat.pow_le_pow_right zDc zOm
  rw [Nat.add_mul, Nat.one_mul] at h4
  omega
 refine ⟨?_, h1, h3⟩
 rw [mod_pow_succ']
 conv => lhs; rw [show n % 256 ^ k + 256 ^ k * (n / 256 ^ k % 256) = n % 256 ^ k + 18446744073709551616 ^ (k / 8) * (256 ^ (k % 8) * (n / 256 ^ k % 256)) by rw [← Nat.mul_assoc, ← e]]
 rw [Nat.add_mul_div_left _ _ hp, Nat.mul_comm (256 ^ (k % 8)), Nat.mod_eq_of_lt h3]
theorem of_high (n k j : Nat) (h : k / 8 < j) : n % 256 ^ (k + 1) / 18446744073709551616 ^ j % 18446744073709551616 = n % 256 ^ k / 18446744073709551616 ^ j % 18446744073709551616 := by
 have h1 : n % 256 ^ (k + 1) < 18446744073709551616 ^ j := by
  rw [lim_pow]
  exact Nat.lt_of_lt_of_le (Nat.mod_lt _ (Nat.pow_pos zDc)) (Nat.pow_le_pow_right zDc zOm)
 have h2 : n % 256 ^ k < 18446744073709551616 ^ j := by
  rw [lim_pow]
  exact Nat.lt_of_lt_of_le (Nat.mod_lt _ (Nat.pow_pos zDc)) (Nat.pow_le_pow_right zDc zOm)
 rw [Nat.div_eq_of_lt h1, Nat.div_eq_of_lt h2]
theorem i64_in {n : Int} (h : -9223372036854775808 ≤ n ∧ n ≤ 9223372036854775807) : IntKind.i64.wrap n = n := by
 simp [IntKind.wrap, IntKind.bits, IntKind.signed]
 split <;> omega
def Arr (w : World) (g : Nat) (xs : List Value) : Prop := ∃ T, w.heap[g]? = some (.cells xs.toArray T (0, 0))
theorem Arr.lt {w : World} {g : Nat} {xs : List Value} (h : Arr w g xs) : g < w.heap.size := by
 obtain ⟨T, h⟩ := h
 exact (Array.getElem?_eq_some_iff.1 h).1
theorem Arr.cell {w : World} {g j : Nat} {xs : List Value} {u : Value} (h : Arr w g xs) (hj : xs[j]? = some u) : w.cell? ⟨g, j, none⟩ = some u := by
 obtain ⟨T, h⟩ := h
 rw [cell_of_row w g j _ T _ h]
 simpa using hj
theorem Arr.frozen {w : World} {g : Nat} {xs : List Value} (h : Arr w g xs) (j : Nat) : w.frozen? ⟨g, j, none⟩ = false := by
 obtain ⟨T, h⟩ := h
 simp [World.frozen?, h]
theorem Arr.set {w : World} {g : Nat} {xs : List Value} (h : Arr w g xs) (j : Nat) (u : Value) : Arr (w.setCell ⟨g, j, none⟩ u) g (xs.set j u) := by
 obtain ⟨T, h⟩ := h
 refine ⟨T, ?_⟩
 rw [heap_setCell_same w g j _ T u h]
 simp
theorem Arr.other {w : World} {g : Nat} {xs : List Value} (h : Arr w g xs) {a : Addr} (ha : g ≠ a.block) (u : Value) : Arr (w.setCell a u) g xs := by
 obtain ⟨T, h⟩ := h
 exact ⟨T, by rw [heap_setCell_other w a g u ha]; exact h⟩
theorem Arr.alloc {w : World} {g : Nat} {xs : List Value} (h : Arr w g xs) (o : Obj) : Arr (w.alloc o) g xs := by
 have := h.lt
 obtain ⟨T, h⟩ := h
 exact ⟨T, by rw [Below.heap_alloc w o g this]; exact h⟩
theorem Arr.new (w : World) (xs : Array Value) (T : TypeId) : Arr (w.alloc (.cells xs T)) w.heap.size xs.toList := ⟨T, by rw [heap_alloc_new]⟩
theorem Arr.below {w w' : World} {g : Nat} {xs : List Value} (h : Arr w g xs) (hb : Below w.heap.size w w') : Arr w' g xs := by
 have := h.lt
 obtain ⟨T, h⟩ := h
 exact ⟨T, by rw [hb.block g this]; exact h⟩
theorem grownBy_drew {w w' : World} {row : Option Nat} (h : w.grownBy w' row) : w.grownBy w'.drew row := ⟨h.os, h.tape, h.output, h.size, h.block⟩
theorem Arr.kept {w w' : World} {g k : Nat} {xs : List Value} (h : Arr w g xs) (hg : w.grownBy w' (some k)) (hk : k ≠ g) : Arr w' g xs := by
 have := h.lt
 obtain ⟨T, h⟩ := h
 exact ⟨T, by rw [hg.block g this (by simp only [ne_eq, Option.some.injEq]; omega)]; exact h⟩
theorem Arr.grown {w : World} {g : Nat} {xs : List Value} (_ : Arr w g xs) (j : Nat) (u : Value) : w.grownBy (w.setCell ⟨g, j, none⟩ u) (some g) :=
 ⟨rfl, rfl, rfl, by simp [World.setCell], fun k _ hn => Below.heap_setCell _ _ _ _ (by simpa using hn)⟩
theorem Arr.setRow {w : World} {g : Nat} {xs : List Value} (h : Arr w g xs) (ys : List Value) : Arr (w.setRow g ys.toArray) g ys := by
 obtain ⟨T, h⟩ := h
 exact ⟨T, setRow_heap w g _ _ T _ h⟩
theorem Arr.row_other {w : World} {g k : Nat} {xs : List Value} (h : Arr w g xs) (hk : g ≠ k) (ys : Array Value) : Arr (w.setRow k ys) g xs := by
 obtain ⟨T, h⟩ := h
 refine ⟨T, ?_⟩
 rw [← h]
 simp [World.setRow, Array.getElem?_modify, Ne.symm hk]
theorem below_setRow {n : Nat} {w w' : World} {g : Nat} (h : Below n w w') (hg : n ≤ g) (ys : Array Value) : Below n w (w'.setRow g ys) := by
 refine h.trans ⟨rfl, rfl, rfl, by simp [World.setRow], fun k hk => ?_⟩
 simp only [World.setRow, Array.getElem?_modify]
 rw [if_neg zOm]
section
variable {P : Program}
theorem results_arr_tmp {fn : Func} {p u : Tmp} {ty : TypeId} (h : fn.results = #[.cell p ty, .tmp u]) (tmps : Array Value) (w : World) (g : Nat) (d : TypeDesc)
 (hp : tmps.getD p undef = .pointer (some ⟨g, 0, none⟩)) (hu : P.underlying ty = some d) (hd : (match d with | .struct _ | .array _ _ => true | _ => false) = true) (xs : List Value) (hg : Arr w g xs) (hi : (P.info? ty).map (·.size) = some xs.length)
 (v : Value) (hv : tmps.getD u undef = v) : (results fn tmps).run P w = .ok (.tuple #[.agg xs.toArray, v]) w := by
 obtain ⟨T, hg⟩ := hg
 rw [results_cell_tmp h, hp, hv]
 simp [asAddr, run_loadVar_row w g T ty _ (0, 0) d hg hu hd (by simpa using hi)]
theorem wpList_load_arr {ops : Array Oper} {rest : List Oper} {o : Oper} {a : Act} {w : World} {Q : Exit → Act → World → Prop} (hgd : o.guard = none) (ty : TypeId) (x : Operand) (ho : o.op = .load ty x)
 (g : Nat) (hx : a.eval x = .pointer (some ⟨g, 0, none⟩)) (d : TypeDesc) (hu : P.underlying ty = some d) (hd : (match d with | .struct _ | .array _ _ => true | _ => false) = true) (xs : List Value) (hg : Arr w g xs) (hi : (P.info? ty).map (·.size) = some xs.length)
 (h : wpList P ops Q rest (a.put o.dst (.agg xs.toArray)) w) : wpList P ops Q (o :: rest) a w := by
 obtain ⟨T, hg⟩ := hg
 exact wpList_load_row hgd ty x ho g hx T _ (0, 0) d hg hu hd (by simpa using hi) h
theorem wpList_store_arr {ops : Array Oper} {rest : List Oper} {o : Oper} {a : Act} {w : World} {Q : Exit → Act → World → Prop} (hgd : o.guard = none) (ty : TypeId) (x y : Operand) (ho : o.op = .store ty x y)
 (g : Nat) (ys : List Value) (hx : a.eval x = .pointer (some ⟨g, 0, none⟩)) (hy : a.eval y = .agg ys.toArray) (xs : List Value) (hg : Arr w g xs) (hi : (P.info? ty).map (·.size) = some ys.length)
 (hold : xs.length = ys.length) (h1 : ∀ v ∈ ys, v.oneCell' = true)
 (h : wpList P ops Q rest (a.put o.dst undef) (w.setRow g ys.toArray)) : wpList P ops Q (o :: rest) a w := by
 obtain ⟨T, hg⟩ := hg
 exact wpList_store_row hgd ty x y ho g _ hx hy T _ hg (by simpa using hi) (by simpa using hold) (by simpa [Array.all_eq_true_iff_forall_mem] using h1) h
theorem results_arr {fn : Func} {p : Tmp} {ty : TypeId} (h : fn.results = #[.cell p ty]) (tmps : Array Value) (w : World) (g : Nat) (d : TypeDesc)
 (hp : tmps.getD p undef = .pointer (some ⟨g, 0, none⟩)) (hu : P.underlying ty = some d) (hd : (match d with | .struct _ | .array _ _ => true | _ => false) = true) (xs : List Value) (hg : Arr w g xs) (hi : (P.info? ty).map (·.size) = some xs.length) :
 (results fn tmps).run P w = .ok (.agg xs.toArray) w := by
 obtain ⟨T, hg⟩ := hg
 exact results_cell_row h tmps w g T _ (0, 0) d hp hg hu hd (by simpa using hi)
theorem wp_new1 {c : Code} {Q : Exit → Act → World → Prop} {a : Act} {w : World} {A : Array Value} {TA : TypeId}
 (h : ∀ W, W.heap.size = w.heap.size + 1 → Arr W w.heap.size A.toList → Below w.heap.size w W → Code.wp P c Q a W) :
 Code.wp P c Q a (w.alloc (.cells A TA)) :=
 h _ (by simp) (Arr.new _ _ _) (below_alloc _ _)
theorem wp_new2 {c : Code} {Q : Exit → Act → World → Prop} {a : Act} {w : World} {A B : Array Value} {TA TB : TypeId}
 (h : ∀ W, W.heap.size = w.heap.size + 2 → Arr W w.heap.size A.toList → Arr W (w.heap.size + 1) B.toList → Below w.heap.size w W → Code.wp P c Q a W) :
 Code.wp P c Q a ((w.alloc (.cells A TA)).alloc (.cells B TB)) :=
 h _ (by simp) ((Arr.new _ _ _).alloc _) (by have := Arr.new (w.alloc (.cells A TA)) B TB; simpa using this) ((below_alloc _ _).alloc (by simp) _)
theorem wp_new3 {c : Code} {Q : Exit → Act → World → Prop} {a : Act} {w : World} {A B C : Array Value} {TA TB TC : TypeId}
 (h : ∀ W, W.heap.size = w.heap.size + 3 → Arr W w.heap.size A.toList → Arr W (w.heap.size + 1) B.toList → Arr W (w.heap.size + 1 + 1) C.toList → Below w.heap.size w W → Code.wp P c Q a W) :
 Code.wp P c Q a (((w.alloc (.cells A TA)).alloc (.cells B TB)).alloc (.cells C TC)) :=
 h _ (by simp) (((Arr.new _ _ _).alloc _).alloc _) (by have := (Arr.new (w.alloc (.cells A TA)) B TB).alloc (.cells C TC); simpa using this)
  (by have := Arr.new ((w.alloc (.cells A TA)).alloc (.cells B TB)) C TC; simpa using this) (((below_alloc _ _).alloc (by simp) _).alloc (by simp; omega) _)
theorem wp_new4 {c : Code} {Q : Exit → Act → World → Prop} {a : Act} {w : World} {A B C D : Array Value} {TA TB TC TD : TypeId}
 (h : ∀ W, W.heap.size = w.heap.size + 4 → Arr W w.heap.size A.toList → Arr W (w.heap.size + 1) B.toList → Arr W (w.heap.size + 1 + 1) C.toList → Arr W (w.heap.size + 1 + 1 + 1) D.toList → Below w.heap.size w W → Code.wp P c Q a W) :
 Code.wp P c Q a ((((w.alloc (.cells A TA)).alloc (.cells B TB)).alloc (.cells C TC)).alloc (.cells D TD)) :=
 h _ (by simp) ((((Arr.new _ _ _).alloc _).alloc _).alloc _) (by have := ((Arr.new (w.alloc (.cells A TA)) B TB).alloc (.cells C TC)).alloc (.cells D TD); simpa using this)
  (by have := (Arr.new ((w.alloc (.cells A TA)).alloc (.cells B TB)) C TC).alloc (.cells D TD); simpa using this)
  (by have := Arr.new (((w.alloc (.cells A TA)).alloc (.cells B TB)).alloc (.cells C TC)) D TD; simpa using this) ((((below_alloc _ _).alloc (by simp) _).alloc (by simp; omega) _).alloc (by simp; omega) _)
theorem run_index_arr (w : World) (ty e : TypeId) (len : Nat) (d : TypeDesc) (i : TypeInfo) (hu : P.underlying ty = some (.array len e)) (he : P.underlying e = some d) (hd : (match d with | .struct _ | .array _ _ => true | _ => false) = false) (hi : P.info? e = some i) (hsz : i.size = 1)
 (xs : List Value) (k : Nat) (v : Value) (hk : k < len) (hv : xs[k]? = some v) : (Instr.index ty (.agg xs.toArray) (.int .i64 (k : Int))).run P w = .ok v w := by
 unfold Instr.index
 have hagg : (isAgg e).run P w = .ok false w := by
  unfold isAgg
  rw [Sem.run_bind, run_underlying he w]
  cases d <;> simp_all
 simp [asIntOf, Sem.run_bind, run_underlying hu w, hk, sizeOf, typeInfo, hi, hsz, Go.part, hagg, hv]
end
end Go.Proofs.YtncnlfpiondpnaaGreat
