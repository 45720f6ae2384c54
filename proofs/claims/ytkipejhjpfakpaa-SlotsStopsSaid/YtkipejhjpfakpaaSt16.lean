/- slots: what bytes are as a state. -/
import Derived.Test.YtkipejhjpfakpaaSt15
namespace Go.Proofs.Ytkipejhjpfakpaa
open Go.RowKit

/-- A cursor lies in block gc; what is stored behind that block does not turn it. -/
structure CurLike (gc : Nat) (C : World → List UInt8 → Bool → Prop) : Prop where
  hi : ∀ w w' k r b, C w r b → w.grownBy w' (some k) → gc < k → C w' r b
  below : ∀ w w' r b, C w r b → Below w.heap.size w w' → C w' r b
  none : ∀ w w' r b, C w r b → w.grownBy w' none → C w' r b

theorem cell_hi {w w' : World} {row : Option Nat} {x : Addr} {v : Value} (h : w.cell? x = some v) (hg : w.grownBy w' row) (hne : some x.block ≠ row) : w'.cell? x = some v := hg.cell h hne
theorem frozen_hi {w w' : World} {row : Option Nat} {x : Addr} (hg : w.grownBy w' row) (hlt : x.block < w.heap.size) (hne : some x.block ≠ row) : w'.frozen? x = w.frozen? x := World.frozen?_of_block (hg.block x.block hlt hne)

theorem cur_kept {w w' : World} {g : Nat} {rest : List UInt8} {bad : Bool} {row : Option Nat} (h : Cur w g rest bad) (hg : w.grownBy w' row) (hr : ∀ k, row = some k → g < k) : Cur w' g rest bad := by
  obtain ⟨v, h0, h1, f0, f1, hb⟩ := h
  have hlt : g < w.heap.size := World.block_lt_of_cell? w _ h0
  have hne : some g ≠ row := fun e => by have := hr g e.symm; omega
  refine ⟨v, cell_hi h0 hg hne, cell_hi h1 hg hne, by rw [frozen_hi (x := ⟨g, _, none⟩) hg hlt hne]; exact f0, by rw [frozen_hi (x := ⟨g, _, none⟩) hg hlt hne]; exact f1, ?_⟩
  rcases hb with h | ⟨b, o, cap, rfl, h1, h2, h3, h4, h5⟩
  · exact .inl h
  · exact .inr ⟨b, o, cap, rfl, h1, h2, h3, Nat.lt_of_lt_of_le h4 hg.size, fun j u hu => cell_hi (h5 j u hu) hg (fun e => by have := hr b e.symm; omega)⟩
theorem curLike (g : Nat) : CurLike g (fun w r b => Cur w g r b) :=
  ⟨fun _ _ _ _ _ h hg hk => cur_kept h hg (fun _ e => by cases e; exact hk), fun _ _ _ _ h hb => h.below hb, fun _ _ _ _ h hg => cur_kept h hg (fun _ e => by cases e)⟩

theorem rcur_kept {w w' : World} {g : Nat} {vb : Value} {bs rest : List UInt8} {bad : Bool} {row : Option Nat} (h : RCur w g vb bs rest bad) (hg : w.grownBy w' row) (hr : ∀ k, row = some k → g < k) : RCur w' g vb bs rest bad := by
  obtain ⟨k, hk, hrest, h0, h1, h2, f1, f2, hs, hv⟩ := h
  have hlt : g < w.heap.size := World.block_lt_of_cell? w _ h0
  have hne : some g ≠ row := fun e => by have := hr g e.symm; omega
  refine ⟨k, hk, hrest, cell_hi h0 hg hne, cell_hi h1 hg hne, cell_hi h2 hg hne, by rw [frozen_hi (x := ⟨g, _, none⟩) hg hlt hne]; exact f1, by rw [frozen_hi (x := ⟨g, _, none⟩) hg hlt hne]; exact f2, ?_, hv⟩
  obtain ⟨a, cap, rfl, q2, q3, q4, q5⟩ := id hs
  refine ⟨a, cap, rfl, q2, q3, q4, fun x hx j u hu => ?_⟩
  have h7 := q5 x hx j u hu
  have hbk : (x.add j).block = x.block := by unfold Addr.add; split <;> rfl
  refine cell_hi h7 hg (fun e => ?_)
  subst hx
  have h8 := hr _ e.symm
  have h9 : 0 < bs.length := by have := (List.getElem?_eq_some_iff.1 hu).1; rw [u8s_len] at this; omega
  have := hv h9 x _ _ rfl
  rw [hbk] at h8
  omega
theorem rcurLike (g : Nat) (vb : Value) (bs : List UInt8) : CurLike g (fun w r b => RCur w g vb bs r b) :=
  ⟨fun _ _ _ _ _ h hg hk => rcur_kept h hg (fun _ e => by cases e; exact hk), fun _ _ _ _ h hb => h.below hb, fun _ _ _ _ h hg => rcur_kept h hg (fun _ e => by cases e)⟩

/-- Half way through reading a state. -/
structure Rd (C : World → List UInt8 → Bool → Prop) (w0 : World) (gc g6 : Nat) (w : World) (S : Stt) (v : Sv) (rest : List UInt8) (bad : Bool) : Prop where
  k : Arr w g6 (S.cs v)
  own : StOwn (g6 + 1) w S v
  cur : C w rest bad
  lt : gc < g6
  lw : w0.heap.size ≤ gc
  kb : Below w0.heap.size w0 w

section
variable {C : World → List UInt8 → Bool → Prop} {w0 w w' : World} {gc g6 : Nat} {S : Stt} {v : Sv} {rest : List UInt8} {bad : Bool}

theorem Rd.call (h : Rd C w0 gc g6 w S v rest bad) {r : List UInt8} {b : Bool} (hg : w.grownBy w' (some gc)) (hc : C w' r b) : Rd C w0 gc g6 w' S v r b :=
  ⟨h.k.kept hg (by have := h.lt; omega), h.own.grown hg (by have := h.lt; omega), hc, h.lt, h.lw, below_gr h.kb hg h.lw h.kb.size⟩
theorem Rd.set (h : Rd C w0 gc g6 w S v rest bad) (hC : CurLike gc C) {S' : Stt} {v' : Sv} (hg : w.grownBy w' (some g6)) (hk : Arr w' g6 (S'.cs v')) (ho : StOwn (g6 + 1) w S' v') : Rd C w0 gc g6 w' S' v' rest bad :=
  ⟨hk, ho.grown hg (by omega), hC.hi _ _ _ _ _ h.cur hg h.lt, h.lt, h.lw, below_gr h.kb hg (by have := h.lt; have := h.lw; omega) h.kb.size⟩
theorem Rd.below (h : Rd C w0 gc g6 w S v rest bad) (hC : CurLike gc C) (hb : Below w.heap.size w w') : Rd C w0 gc g6 w' S v rest bad :=
  ⟨h.k.below hb, h.own.below hb, hC.below _ _ _ _ h.cur hb, h.lt, h.lw, bel h.kb hb⟩
theorem CurLike.row {row : Option Nat} (hC : CurLike gc C) (h : C w rest bad) (hg : w.grownBy w' row) (hr : ∀ k, row = some k → gc < k) : C w' rest bad := by
  cases row with
  | none => exact hC.none _ _ _ _ h hg
  | some k => exact hC.hi _ _ _ _ _ h hg (hr k rfl)
/-- Behind an append to the row of the revoked, that is stored. -/
theorem Rd.append (h : Rd C w0 gc g6 w S v rest bad) (hC : CurLike gc C) {w1 w2 : World} {u : Value} {x : Int} (hg : w.grownBy w1 v.rv.ownBlock) (ho : w1.ownsRow (g6 + 1) 3 1 u (S.rev.length + 1) (ints (S.rev ++ [x])))
    (hg2 : w1.grownBy w2 (some g6)) (hk : Arr w2 g6 (Stt.cs { S with rev := S.rev ++ [x] } { v with rv := u })) : Rd C w0 gc g6 w2 { S with rev := S.rev ++ [x] } { v with rv := u } rest bad := by
  have hlt := h.lt
  have hlw := h.lw
  have hrow : ∀ k, v.rv.ownBlock = some k → g6 < k := fun k hk => by have := (h.own.rv.lt k hk).1; omega
  have m0 := h.own.m0.kept hg (own_ne h.own.m0 h.own.rv (show (5 : TypeId) ≠ 3 by decide))
  have m1 := h.own.m1.kept hg (own_ne h.own.m1 h.own.rv (show (5 : TypeId) ≠ 3 by decide))
  have kb := below_grO h.kb hg (fun k hk => by have := hrow k hk; omega) h.kb.size
  refine ⟨hk, StOwn.grown ⟨?_, m0, m1⟩ hg2 (by omega), hC.hi _ _ _ _ _ (hC.row h.cur hg (fun k hk => by have := hrow k hk; omega)) hg2 hlt, hlt, hlw, below_gr kb hg2 (by omega) kb.size⟩
  simp only [List.length_append, List.length_singleton]
  exact ho
end

/-- So many numbers, one behind the other. -/
def parseRev : Nat → List UInt8 → Bool → List Int → List Int × List UInt8 × Bool
  | 0, r, b, acc => (acc, r, b)
  | k + 1, r, b, acc => parseRev k (intS r b).2.1 (intS r b).2.2 (acc ++ [(intS r b).1])

/-- What bytes are read as: the mark, the state, what is left, whether something was missing. -/
structure Prs where
  mark : List UInt8
  st : Stt
  rest : List UInt8
  bad : Bool
def parse (b : List UInt8) : Prs :=
  let p1 := rawS b false 4
  let p2 := intS p1.2.1 p1.2.2
  let p3 := intS p2.2.1 p2.2.2
  let p4 := parseRev (min p3.1 33).toNat p3.2.1 p3.2.2 []
  let p5 := intS p4.2.1 p4.2.2
  let p6 := bytesS p5.2.1 p5.2.2
  let p7 := intS p6.2.1 p6.2.2
  let p8 := intS p7.2.1 p7.2.2
  let p9 := bytesS p8.2.1 p8.2.2
  let p10 := intS p9.2.1 p9.2.2
  let p11 := intS p10.2.1 p10.2.2
  ⟨p1.1, ⟨p2.1, p4.1, p6.1, p7.1 == 1, p8.1, p9.1, p10.1 == 1, p11.1, p5.1⟩, p11.2.1, p11.2.2⟩

/-- What Read answers. -/
noncomputable def readS (b : List UInt8) : Stt × Int := if ((parse b).bad = false ∧ packS (parse b).st = (b, 0)) then ((parse b).st, 0) else (zeroS, 4)

theorem parseRev_pack (ls : List Int) (h : ∀ n ∈ ls, -9223372036854775808 ≤ n ∧ n ≤ 9223372036854775807) (r : List UInt8) : ∀ acc, parseRev ls.length (be8s ls ++ r) false acc = (acc ++ ls, r, false) := by
  induction ls with
  | nil => intro acc; simp [parseRev, be8s]
  | cons n ls ih =>
    intro acc
    have e : be8s (n :: ls) ++ r = be8 n ++ (be8s ls ++ r) := by simp [be8s]
    rw [List.length_cons, parseRev, e, intS_ok (h n (by simp))]
    simp only
    rw [ih (fun x hx => h x (by simp [hx]))]
    simp

theorem bit_one (b : Bool) : (bitI b == 1) = b := by cases b <;> rfl
theorem bit_fit (b : Bool) : -9223372036854775808 ≤ bitI b ∧ bitI b ≤ 9223372036854775807 := by cases b <;> decide

theorem parse_pack {S : Stt} (h : mayP S) : parse (packL S) = ⟨hd4, S, [], false⟩ := by
  have hf := mayP_fit h
  have ht := mayP_try h
  have hfl := h.floor
  rw [numB_iff] at hfl
  have hlen := h.len
  have hlo := h.lo
  have hhi := h.hi
  have hrv : ∀ n ∈ S.rev, -9223372036854775808 ≤ n ∧ n ≤ 9223372036854775807 := fun n hn => by
    obtain ⟨i, hi, rfl⟩ := List.getElem_of_mem hn
    have := (h.rev i hi hi).1
    rw [numB_iff] at this
    omega
  have e : packL S = hd4 ++ (be8 S.floor ++ (be8 (S.rev.length : Int) ++ (be8s S.rev ++ (be8 S.act ++ (be8 (S.m0.length : Int) ++ S.m0 ++ (be8 (bitI S.d0) ++ (be8 S.t0 ++ (be8 (S.m1.length : Int) ++ S.m1 ++ (be8 (bitI S.d1) ++ (be8 S.t1 ++ [])))))))))) := by
    simp [packL, be8s, txs]
  have hm0 := hf.m0
  have hm1 := hf.m1
  rw [e]
  unfold parse
  simp only [rawS_ok hd4 _ 4 rfl, intS_ok (show -9223372036854775808 ≤ S.floor ∧ S.floor ≤ 9223372036854775807 by omega), intS_ok (show -9223372036854775808 ≤ (S.rev.length : Int) ∧ (S.rev.length : Int) ≤ 9223372036854775807 by omega)]
  rw [show (min (S.rev.length : Int) 33).toNat = S.rev.length by omega, parseRev_pack S.rev hrv]
  simp only [intS_ok (show -9223372036854775808 ≤ S.act ∧ S.act ≤ 9223372036854775807 by omega), bytesS_ok (show S.m0.length ≤ 9223372036854775807 by omega), intS_ok (bit_fit S.d0), intS_ok (show -9223372036854775808 ≤ S.t0 ∧ S.t0 ≤ 9223372036854775807 by omega),
    bytesS_ok (show S.m1.length ≤ 9223372036854775807 by omega), intS_ok (bit_fit S.d1), intS_ok (show -9223372036854775808 ≤ S.t1 ∧ S.t1 ≤ 9223372036854775807 by omega), bit_one, List.nil_append]

theorem pack_may {S : Stt} {b : List UInt8} (h : packS S = (b, 0)) : mayP S ∧ packL S = b := by
  unfold packS at h
  cases hm : mayB S with
  | false => rw [hm] at h; simp at h
  | true => rw [hm] at h; simp at h; exact ⟨(mayB_iff S).1 hm, h⟩
theorem read_ok {b : List UInt8} (h : packS (parse b).st = (b, 0)) : (parse b).bad = false ∧ (parse b).mark = hd4 ∧ (parse b).rest = [] := by
  obtain ⟨h1, h2⟩ := pack_may h
  have h3 := parse_pack h1
  rw [h2] at h3
  rw [h3]
  exact ⟨rfl, rfl, rfl⟩
theorem read_pack {S : Stt} (h : mayP S) : readS (packL S) = (S, 0) := by
  unfold readS
  rw [parse_pack h]
  simp [packS, mayB_of h]

end Go.Proofs.Ytkipejhjpfakpaa
