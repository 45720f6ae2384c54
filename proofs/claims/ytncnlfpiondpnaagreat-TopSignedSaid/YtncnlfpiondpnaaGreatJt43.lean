/- TopSigned: part 43 of its proof: lemmas and contracts, each with its conditions in its own statement; the last part holds the law itself. -/
import Derived.Test.YtncnlfpiondpnaaGreatJt42
import Derived.Lib.SlBytesConst

set_option maxHeartbeats 4000000
set_option maxRecDepth 100000
namespace Go.Proofs.YtncnlfpiondpnaaGreat
open Go.RowKit
theorem fi_of (A : Fin pN) : fi A.val = A := Fin.ext (Nat.mod_eq_of_lt A.isLt)
theorem fi_mod (n : Nat) : fi (n % pN) = fi n := Fin.ext (by rw [fi_val, fi_val, Nat.mod_mod])
theorem fi_one : fi 1 = 1 := rfl
theorem fi_inv (n : Nat) : fi (n ^ (pN - 2) % pN) = ivN (fi n) := by
 unfold ivN
 apply Fin.ext
 rw [fi_val, fi_val, fi_val, Nat.mod_mod, ← Nat.pow_mod]
theorem fi_d : fi dN * cvN.c = 1 := by decide +kernel
theorem fi_dd : fi dN ≠ -1 := by decide +kernel
def PtOf (P : Pn) (A : Ed.Pt pN) : Prop := fi P.z ≠ 0 ∧ fi P.x = fi P.z * A.x ∧ fi P.y = fi P.z * A.y ∧ fi P.t = fi P.z * (A.x * A.y)
theorem add_field (C : Ed.Cv pN) {d c z1 z2 x1 y1 x2 y2 x3 y3 : Fin pN} (hd : d * c = 1) (h1 : z1 ≠ 0) (h2 : z2 ≠ 0) (hp : c + x1 * x2 * y1 * y2 ≠ 0) (hq : c - x1 * x2 * y1 * y2 ≠ 0)
 (hx : x3 * (c + x1 * x2 * y1 * y2) = c * (x1 * y2 + x2 * y1)) (hy : y3 * (c - x1 * x2 * y1 * y2) = c * (y1 * y2 + x1 * x2)) {a b e k z : Fin pN}
 (ha : a = (z1 * y1 - z1 * x1) * (z2 * y2 - z2 * x2)) (hb : b = (z1 * y1 + z1 * x1) * (z2 * y2 + z2 * x2)) (hk : k = z1 * (x1 * y1) * (d + d) * (z2 * (x2 * y2))) (hz : z = z1 * (z2 + z2)) (he : e = (z - k) * (z + k)) :
 e ≠ 0 ∧ (b - a) * (z - k) = e * x3 ∧ (z + k) * (b + a) = e * y3 ∧ (b - a) * (b + a) = e * (x3 * y3) := by
 have k1 : z + k = (2 * (z1 * z2) * d) * (c + x1 * x2 * y1 * y2) := by
  rw [hk, hz]
  clear hx hy ha hb hk hz he hp hq h1 h2
  grind -lia -linarith
 have k2 : z - k = (2 * (z1 * z2) * d) * (c - x1 * x2 * y1 * y2) := by
  rw [hk, hz]
  clear hx hy ha hb hk hz he hp hq h1 h2 k1
  grind -lia -linarith
 have k3 : b - a = (2 * (z1 * z2) * d) * (c * (x1 * y2 + x2 * y1)) := by
  rw [ha, hb]
  clear hx hy ha hb hk hz he hp hq h1 h2 k1 k2
  grind -lia -linarith
 have k4 : b + a = (2 * (z1 * z2) * d) * (c * (y1 * y2 + x1 * x2)) := by
  rw [ha, hb]
  clear hx hy ha hb hk hz he hp hq h1 h2 k1 k2 k3
  grind -lia -linarith
 have dn : d ≠ 0 := by
  intro h
  rw [h] at hd
  exact C.one (by rw [← hd]; exact Fin.zero_mul _)
 have wn : 2 * (z1 * z2) * d ≠ 0 := C.mul_ne (C.mul_ne C.two_ne (C.mul_ne h1 h2)) dn
 refine ⟨?_, ?_, ?_, ?_⟩
 · rw [he, k1, k2]
   exact C.mul_ne (C.mul_ne wn hq) (C.mul_ne wn hp)
 · rw [he, k1, k2, k3, ← hx]
   generalize 2 * (z1 * z2) * d = w
   generalize c + x1 * x2 * y1 * y2 = s
   generalize c - x1 * x2 * y1 * y2 = t
   clear hx hy ha hb hk hz he hp hq h1 h2 k1 k2 k3 k4 wn dn
   grind -lia -linarith
 · rw [he, k1, k2, k4, ← hy]
   generalize 2 * (z1 * z2) * d = w
   generalize c + x1 * x2 * y1 * y2 = s
   generalize c - x1 * x2 * y1 * y2 = t
   clear hx hy ha hb hk hz he hp hq h1 h2 k1 k2 k3 k4 wn dn
   grind -lia -linarith
 · rw [he, k1, k2, k3, k4, ← hx, ← hy]
   generalize 2 * (z1 * z2) * d = w
   generalize c + x1 * x2 * y1 * y2 = s
   generalize c - x1 * x2 * y1 * y2 = t
   clear hx hy ha hb hk hz he hp hq h1 h2 k1 k2 k3 k4 wn dn
   grind -lia -linarith
theorem add_of {P Q : Pn} {A B : Ed.Pt pN} (hP : P.ok) (hQ : Q.ok) (oA : Ed.On cvN A) (oB : Ed.On cvN B) (h1 : PtOf P A) (h2 : PtOf Q B) : PtOf (addP P Q) (Ed.add cvN A B) := by
 have hm := fun n : Nat => Nat.mod_lt n pN_pos
 have hx := Ed.add_x cvN oA oB
 have hy := Ed.add_y cvN oA oB
 have hp := Ed.Cv.dp cvN oA oB
 have hq := Ed.Cv.dm cvN oA oB
 generalize Ed.add cvN A B = R at *
 have q := add_field cvN fi_d h1.1 h2.1 hp hq hx hy rfl rfl rfl rfl rfl
 unfold PtOf addP mkP
 simp only [fi_mul, fi_add, fi_sub (hm _), fi_sub hP.1, fi_sub hQ.1]
 rw [h1.2.1, h1.2.2.1, h1.2.2.2, h2.2.1, h2.2.2.1, h2.2.2.2]
 exact q
theorem none_pt : PtOf nP (Ed.O pN) := ⟨by decide +kernel, by decide +kernel, by decide +kernel, by decide +kernel⟩
theorem tms_of {P : Pn} {A : Ed.Pt pN} (hP : P.ok) (oA : Ed.On cvN A) (h : PtOf P A) {n : Nat} (hn : n < 2 ^ 256) : ∀ m, m ≤ 256 → PtOf (tmsP P n m) (Ed.mul cvN A (n / 2 ^ (256 - m)))
 | 0, _ => by
  rw [show n / 2 ^ (256 - 0) = 0 from Nat.div_eq_of_lt hn]
  exact none_pt
 | m + 1, hm => by
  have ih := tms_of hP oA h hn m zOm
  have hT := tmsP_ok P n m
  obtain ⟨k, hk⟩ : ∃ k, n / 2 ^ (256 - m) = k := ⟨_, rfl⟩
  have hk1 : n / 2 ^ (256 - (m + 1)) = 2 * k + n / 2 ^ (255 - m) % 2 := by
   have e : 256 - m = (255 - m) + 1 := by omega
   rw [show 256 - (m + 1) = 255 - m by omega, ← hk, e, Nat.pow_succ, ← Nat.div_div_eq_div_mul]
   omega
  rw [hk] at ih
  have ok := on_k oA k
  have i2 := add_of hT hT ok ok ih ih
  rw [← Ed.mul_add cvN oA] at i2
  rw [hk1, tmsP]
  have htt : n / 2 ^ (255 - m) % 2 = 0 ∨ n / 2 ^ (255 - m) % 2 = 1 := by omega
  rcases htt with e | e
  · rw [if_neg (by rw [e]; decide), e, show 2 * k + 0 = k + k by omega]
    exact i2
  · rw [if_pos e, e, show 2 * k + 1 = k + k + 1 by omega]
    exact add_of (addP_ok _ _) hP (on_k oA _) oA i2 h
theorem tms_all {P : Pn} {A : Ed.Pt pN} (hP : P.ok) (oA : Ed.On cvN A) (h : PtOf P A) {n : Nat} (hn : n < 2 ^ 256) : PtOf (tmsP P n 256) (Ed.mul cvN A n) := by
 have q := tms_of hP oA h hn 256 (Nat.le_refl _)
 rwa [show n / 2 ^ (256 - 256) = n from Nat.div_one _] at q
def gB : Ed.Pt pN := ⟨fi bxN, fi byN⟩
theorem gB_on : Ed.On cvN gB := by
 show _ = _
 decide +kernel
theorem gB_of : PtOf bP gB := ⟨by decide +kernel, by decide +kernel, by decide +kernel, by decide +kernel⟩
theorem gB_tms : (tmsP bP qN 256).x = 0 ∧ (tmsP bP qN 256).y = (tmsP bP qN 256).z := by decide +kernel
theorem gB_ord : Ed.mul cvN gB qN = Ed.O pN := by
 have h := tms_all bP_ok gB_on gB_of (n := qN) zDc
 obtain ⟨e1, e2⟩ := gB_tms
 obtain ⟨h1, h2, h3, -⟩ := h
 rw [e1] at h2
 rw [e2] at h3
 refine Ed.Pt.ext ?_ ?_
 · rcases cvN.zero_div h2.symm with h | h
   · exact absurd h h1
   · exact h
 · refine cvN.cancel h1 ?_
   rw [← h3]
   exact (Fin.mul_one _).symm
theorem mul_O : ∀ n, Ed.mul cvN (Ed.O pN) n = Ed.O pN
 | 0 => rfl
 | n + 1 => by
  show Ed.add cvN (Ed.mul cvN (Ed.O pN) n) (Ed.O pN) = _
  rw [mul_O n, Ed.add_O cvN (Ed.on_O cvN)]
theorem O_add {P : Ed.Pt pN} (h : Ed.On cvN P) : Ed.add cvN (Ed.O pN) P = P := by rw [Ed.add_comm, Ed.add_O cvN h]
theorem mul_modq {P : Ed.Pt pN} (oP : Ed.On cvN P) (h : Ed.mul cvN P qN = Ed.O pN) (n : Nat) : Ed.mul cvN P (n % qN) = Ed.mul cvN P n := by
 conv => rhs; rw [← Nat.div_add_mod n qN, Ed.mul_add cvN oP, ← Ed.mul_mul cvN oP, h, mul_O, O_add (on_k oP _)]
def encA (A : Ed.Pt pN) : Nat := A.y.val + 2 ^ 255 * (A.x.val % 2)
theorem val_fi {n : Nat} {a : Fin pN} (h : fi n = a) : n % pN = a.val := by rw [← h, fi_val]
theorem enc_of {P : Pn} {A : Ed.Pt pN} (h : PtOf P A) : encP P = encA A := by
 have hi := cvN.iv_mul _ h.1
 have e1 : fi (P.y * (P.z ^ (pN - 2) % pN)) = A.y := by
  rw [← fi_mod, fi_mul, fi_inv, h.2.2.1]
  show fi P.z * A.y * cvN.iv (fi P.z) = A.y
  generalize cvN.iv (fi P.z) = i at *
  clear h
  grind -lia -linarith
 have e2 : fi (P.x * (P.z ^ (pN - 2) % pN)) = A.x := by
  rw [← fi_mod, fi_mul, fi_inv, h.2.1]
  show fi P.z * A.x * cvN.iv (fi P.z) = A.x
  generalize cvN.iv (fi P.z) = i at *
  clear h
  grind -lia -linarith
 rw [encP, encA, val_fi e1, val_fi e2]
theorem und_of {A : Ed.Pt pN} (oA : Ed.On cvN A) : undP A.y.val = A.x.val * A.x.val % pN := by
 refine fi_inj (Nat.mod_lt _ pN_pos) (Nat.mod_lt _ pN_pos) ?_
 have h1 : (1 : Nat) < pN := by decide
 have hd := fi_d
 have hn : fi dN * (A.y * A.y) + 1 ≠ 0 := by
  intro e
  have h2 : A.y * A.y = 1 := by
   have oA := oA
   simp only [Ed.On] at oA
   refine Classical.byContradiction fun _ => ?_
   rename_i hne
   refine hne ?_
   generalize fi dN = d at *
   generalize cvN.c = c at *
   clear hne h1
   grind -lia -linarith
  rw [h2] at e
  refine fi_dd ?_
  clear h2 hd h1
  generalize fi dN = d at *
  grind -lia -linarith
 have hi := cvN.iv_mul _ hn
 rw [undP, fi_mul, fi_mul, fi_inv, fi_sub h1, fi_mul]
 rw [show fi ((dN * (A.y.val * A.y.val % pN) % pN + 1) % pN) = fi dN * (A.y * A.y) + 1 by rw [fi_add, fi_mul, fi_mul, fi_of]; rfl]
 rw [fi_of, fi_of, fi_one]
 show (A.y * A.y - 1) * cvN.iv _ = _
 generalize cvN.iv (fi dN * (A.y * A.y) + 1) = i at *
 have e : A.y * A.y - 1 = A.x * A.x * (fi dN * (A.y * A.y) + 1) := by
  simp only [Ed.On] at oA
  generalize fi dN = d at *
  generalize cvN.c = c at *
  clear hi hn
  grind -lia -linarith
 rw [e]
 generalize fi dN * (A.y * A.y) + 1 = s at *
 clear e oA hd hn
 grind -lia -linarith
theorem read_enc {A : Ed.Pt pN} (oA : Ed.On cvN A) : (readP (encA A)).2 = true ∧ PtOf (readP (encA A)).1 A := by
 have hy := A.y.isLt
 have hx := A.x.isLt
 have hp : pN < 2 ^ 255 := by decide
 have e1 : encA A % 2 ^ 255 = A.y.val := by rw [encA, Nat.add_mul_mod_self_left, Nat.mod_eq_of_lt (Nat.lt_trans hy hp)]
 have e2 : encA A / 2 ^ 255 = A.x.val % 2 := by rw [encA, Nat.add_mul_div_left _ _ zDc, Nat.div_eq_of_lt (Nat.lt_trans hy hp), Nat.zero_add]
 have hok := Nt.rtok_sq pN_prime pN_odd hN_two eN_four iN_sq hx
 have hsq := Nt.rtv_sq hok pN_pos
 have hev := Nt.rtv_even (e := eN) (i := iN) pN_odd (A.x.val * A.x.val % pN)
 have hlt := Nt.rtv_lt (e := eN) (i := iN) pN_pos (A.x.val * A.x.val % pN)
 have hodd := pN_odd
 unfold readP
 rw [e1, e2, und_of oA, if_neg (by rw [Nat.mod_eq_of_lt hy]; exact fun h => h rfl), if_neg (by rw [hok]; decide)]
 clear e1 e2 hok
 generalize Nt.rtv pN eN iN (A.x.val * A.x.val % pN) = r at *
 have hc := Nt.sq_cases pN_prime hlt hx hsq
 have pt : ∀ x, x = A.x.val → PtOf ⟨x, A.y.val, 1, x * A.y.val % pN⟩ A := by
  rintro x rfl
  refine ⟨show fi 1 ≠ 0 by decide +kernel, ?_, ?_, ?_⟩
  · show fi A.x.val = fi 1 * A.x
    rw [fi_of, fi_one, Fin.one_mul]
  · show fi A.y.val = fi 1 * A.y
    rw [fi_of, fi_one, Fin.one_mul]
  · show fi (A.x.val * A.y.val % pN) = fi 1 * (A.x * A.y)
    rw [fi_mul, fi_of, fi_of, fi_one, Fin.one_mul]
 clear hsq hp
 have htt : A.x.val % 2 = 0 ∨ A.x.val % 2 = 1 := by omega
 rcases htt with e | e
 · rw [if_neg (by rw [e]; decide)]
   refine ⟨rfl, pt _ ?_⟩
   omega
 · rw [if_pos e, if_neg zOm]
   refine ⟨rfl, pt _ ?_⟩
   rw [show 0 + pN - r = A.x.val by omega, Nat.mod_eq_of_lt hx]
theorem sec_of (K : Nat) : PtOf (tmsP bP (secN K) 256) (Ed.mul cvN gB (secN K)) := tms_all bP_ok gB_on gB_of (Nat.lt_of_lt_of_le (secN_lt K) zDc)
theorem pub_of (K : Nat) : pubN K = encA (Ed.mul cvN gB (secN K)) := enc_of (sec_of K)
theorem pub_ok (K : Nat) : (readP (pubN K)).2 = true := by
 rw [pub_of]
 exact (read_enc (on_k gB_on _)).1
theorem ver_sign (K : Nat) (L : List UInt8) : verP (pubN K) (sgR K L) (sgS K L) L = true := by
 have hq : qN < 2 ^ 256 := by decide
 have lk : sgk K L < qN := Nat.mod_lt _ qN_pos
 have lr : sgr K L < qN := Nat.mod_lt _ qN_pos
 have ls : sgS K L < qN := Nat.mod_lt _ qN_pos
 have hr : PtOf (tmsP bP (sgr K L) 256) (Ed.mul cvN gB (sgr K L)) := tms_all bP_ok gB_on gB_of zOm
 have hs : PtOf (tmsP bP (sgS K L) 256) (Ed.mul cvN gB (sgS K L)) := tms_all bP_ok gB_on gB_of zOm
 have eR : sgR K L = encA (Ed.mul cvN gB (sgr K L)) := enc_of hr
 obtain ⟨r1, r2⟩ := read_enc (on_k gB_on (sgr K L))
 obtain ⟨k1, k2⟩ := read_enc (on_k gB_on (secN K))
 rw [← eR] at r1 r2
 rw [← pub_of] at k1 k2
 have ht := tms_all (readP_ok (pubN K)) (on_k gB_on (secN K)) k2 (n := sgk K L) zOm
 have hsum := add_of (readP_ok (sgR K L)) (tmsP_ok _ _ _) (on_k gB_on _) (on_k (on_k gB_on _) _) r2 ht
 have e1 := enc_of hs
 have e2 := enc_of hsum
 rw [verP, r1, k1, decide_eq_true ls]
 show (true && (true && (true && decide (encP (tmsP bP (sgS K L) 256) = encP (addP (readP (sgR K L)).1 (tmsP (readP (pubN K)).1 (sgk K L) 256)))))) = true
 rw [e1, e2, Ed.mul_mul cvN gB_on, ← Ed.mul_add cvN gB_on, sgS, mul_modq gB_on gB_ord]
 rw [decide_eq_true]
 · rfl
 · rw [Ed.mul_add cvN gB_on, Ed.mul_add cvN gB_on (sgr K L), mul_modq gB_on gB_ord, Nat.mul_comm]
theorem neg_add {P Q : Ed.Pt pN} : Ed.add cvN (Ed.neg P) (Ed.neg Q) = Ed.neg (Ed.add cvN P Q) := by
 unfold Ed.add Ed.neg
 have e : -P.x * -Q.x = P.x * Q.x := by grind -lia -linarith
 simp only [e]
 refine Ed.Pt.ext ?_ rfl
 show cvN.c * (-P.x * Q.y + -Q.x * P.y) * _ = -(cvN.c * (P.x * Q.y + Q.x * P.y) * _)
 generalize cvN.iv _ = i
 generalize cvN.c = c
 grind -lia -linarith
theorem neg_mul (P : Ed.Pt pN) : ∀ n, Ed.mul cvN (Ed.neg P) n = Ed.neg (Ed.mul cvN P n)
 | 0 => by
  show Ed.O pN = Ed.neg (Ed.O pN)
  refine Ed.Pt.ext ?_ rfl
  show (0 : Fin pN) = -0
  decide +kernel
 | n + 1 => by
  show Ed.add cvN (Ed.mul cvN (Ed.neg P) n) (Ed.neg P) = _
  rw [neg_mul P n, neg_add]
  rfl
theorem gN_neg : gN = Ed.neg gB := Ed.Pt.ext zDk zDk
theorem gN_ord : Ed.mul cvN gN qN = Ed.O pN := by
 rw [gN_neg, neg_mul, gB_ord]
 refine Ed.Pt.ext ?_ rfl
 show -(0 : Fin pN) = 0
 decide +kernel
theorem gN_ne : gN ≠ Ed.O pN := fun h => absurd (congrArg Ed.Pt.x h) zDk
theorem qN_prime : Nt.Prime qN := Nt.prime_q
theorem ord_dvd {n : Nat} (h : Ed.mul cvN gN n = Ed.O pN) : qN ∣ n := by
 refine Classical.byContradiction fun hn => ?_
 have hf := Nt.fermat qN_prime hn
 have e : n * n ^ (qN - 2) % qN = 1 := by
  rw [← Nat.pow_succ', show Nat.succ (qN - 2) = qN - 1 by decide]
  exact hf
 have h2 : Ed.mul cvN gN (n * n ^ (qN - 2)) = Ed.O pN := by
  rw [← Ed.mul_mul cvN g_on, h, mul_O]
 rw [← mul_modq g_on gN_ord, e, Ed.mul_one cvN g_on] at h2
 exact gN_ne h2
theorem clamp_nq (k : Nat) : ¬ qN ∣ clampN k := by
 rintro ⟨m, hm⟩
 have hr := Nat.mod_lt (k - k % 8) (show 0 < 2 ^ 254 by decide)
 have h8 : (k - k % 8) % 2 ^ 254 % 8 = 0 := by
  rw [Nat.mod_mod_of_dvd _ (show 8 ∣ 2 ^ 254 by decide)]
  omega
 unfold clampN at hm
 generalize (k - k % 8) % 2 ^ 254 = r at *
 have h1 : m < 8 := by
  refine Nat.lt_of_mul_lt_mul_left (a := qN) ?_
  rw [← hm]
  exact Nat.lt_of_lt_of_le (Nat.add_lt_add_right hr _) zDc
 have h2 : m ≠ 0 := by
  rintro rfl
  rw [Nat.mul_zero] at hm
  exact absurd hm (Nat.ne_of_gt (Nat.lt_of_lt_of_le (show 0 < 2 ^ 254 by decide) (Nat.le_add_left _ _)))
 have h3 : qN * m % 8 = 0 := by
  rw [← hm, Nat.add_mod, h8]
 clear hm hr h8
 have key : ∀ m, m < 8 → m ≠ 0 → qN * m % 8 ≠ 0 := by decide +kernel
 exact key m h1 h2 h3
theorem flat_two {T : Ed.Pt pN} (on : Ed.On cvN T) (h : T.x = 0) : Ed.add cvN T T = Ed.O pN := by
 have e : Ed.neg T = T := by
  obtain ⟨x, y⟩ := T
  simp only at h
  subst h
  refine Ed.Pt.ext ?_ rfl
  show -(0 : Fin pN) = 0
  decide +kernel
 have q := Ed.add_neg cvN on
 rwa [e] at q
theorem not_q2 : ¬ qN ∣ 2 := by decide +kernel
theorem lmul_nz (a b : Nat) : lmulN a (lmulN b 9) ≠ 0 := by
 intro h
 have h2 := lmul_two a b
 rw [h] at h2
 have hn : ¬ qN ∣ clampN b * clampN a := fun h4 => (qN_prime.dvd_mul h4).elim (clamp_nq _) (clamp_nq _)
 generalize clampN b * clampN a = n at *
 have on := on_k g_on n
 obtain ⟨f1, -⟩ := Ed.U_flat cvN on h2.symm
 have h3 := flat_two on f1
 rw [← Ed.mul_add cvN g_on, ← Nat.two_mul] at h3
 exact (qN_prime.dvd_mul (ord_dvd h3)).elim not_q2 hn
theorem unmarked_new (n : Nat) (hn : 64 ≤ n) : Unmarked (Fl.new n) := by
 intro k hk
 show ((List.replicate (n * 256) (255 : UInt8)).drop (8192 * k)).take 4 = _
 rw [List.drop_replicate, List.take_replicate, show min 4 (n * 256 - 8192 * k) = 4 by omega]
 rfl
theorem lit1 : (bytn 32 1).toArray = #[.int .u8 1, .int .u8 0, .int .u8 0, .int .u8 0, .int .u8 0, .int .u8 0, .int .u8 0, .int .u8 0, .int .u8 0, .int .u8 0, .int .u8 0, .int .u8 0, .int .u8 0, .int .u8 0, .int .u8 0, .int .u8 0, .int .u8 0, .int .u8 0, .int .u8 0, .int .u8 0, .int .u8 0, .int .u8 0, .int .u8 0, .int .u8 0, .int .u8 0, .int .u8 0, .int .u8 0, .int .u8 0, .int .u8 0, .int .u8 0, .int .u8 0, .int .u8 0] := by kernel_rfl
theorem lit2 : (bytn 32 2).toArray = #[.int .u8 2, .int .u8 0, .int .u8 0, .int .u8 0, .int .u8 0, .int .u8 0, .int .u8 0, .int .u8 0, .int .u8 0, .int .u8 0, .int .u8 0, .int .u8 0, .int .u8 0, .int .u8 0, .int .u8 0, .int .u8 0, .int .u8 0, .int .u8 0, .int .u8 0, .int .u8 0, .int .u8 0, .int .u8 0, .int .u8 0, .int .u8 0, .int .u8 0, .int .u8 0, .int .u8 0, .int .u8 0, .int .u8 0, .int .u8 0, .int .u8 0, .int .u8 0] := by kernel_rfl
theorem works_any (w : World) : Calls Tryz.prog 4 #[] w fun e w' => e = .returned (.bool true) ∧ Below w.heap.size w w' := by
 have cF := zH (fnew_any 128 zDc w)
 go_enter Tryz.func4, Tryz.ntmps4
 go_wp2_with fail
 refine (show Calls Tryz.prog 12 #[.int .i64 128] w _ from cF.out).mono ?_
 rintro e w1 ⟨p, g, rfl, hp, hg, kf, kb⟩
 clear cF
 have cO := onew_any (some ⟨p, 0, none⟩) 1 2 3 zDc zDc w1
 rw [lit1, lit2] at cO
 replace cO := zH (show Calls Tryz.prog 13 #[.pointer (some ⟨p, 0, none⟩), .agg #[.int .u8 1, .int .u8 0, .int .u8 0, .int .u8 0, .int .u8 0, .int .u8 0, .int .u8 0, .int .u8 0, .int .u8 0, .int .u8 0, .int .u8 0, .int .u8 0, .int .u8 0, .int .u8 0, .int .u8 0, .int .u8 0, .int .u8 0, .int .u8 0, .int .u8 0, .int .u8 0, .int .u8 0, .int .u8 0, .int .u8 0, .int .u8 0, .int .u8 0, .int .u8 0, .int .u8 0, .int .u8 0, .int .u8 0, .int .u8 0, .int .u8 0, .int .u8 0], .agg #[.int .u8 2, .int .u8 0, .int .u8 0, .int .u8 0, .int .u8 0, .int .u8 0, .int .u8 0, .int .u8 0, .int .u8 0, .int .u8 0, .int .u8 0, .int .u8 0, .int .u8 0, .int .u8 0, .int .u8 0, .int .u8 0, .int .u8 0, .int .u8 0, .int .u8 0, .int .u8 0, .int .u8 0, .int .u8 0, .int .u8 0, .int .u8 0, .int .u8 0, .int .u8 0, .int .u8 0, .int .u8 0, .int .u8 0, .int .u8 0, .int .u8 0, .int .u8 0], .int .i64 3] w1 _ from cO)
 go_wp2_with fail
 refine cO.out.mono ?_
 rintro e w2 ⟨q, rfl, hq, ko, hb⟩
 have hl := kf.lt
 have cD := zH (dopen_fresh p q g 1 2 3 (Fl.new 128) w2 ko (kf.below hb) zOm zOm (by simp [Fl.new]) rfl rfl zDc zDc (unmarked_new 128 zDc))
 have hqw : w.heap.size ≤ q := by have := kb.size; omega
 have hql := zH ko.lt
 have hpl := zH (kf.below hb).lt
 replace kb := bel kb hb
 clear hb ko kf cO hl hq
 go_wp2_with fail
 refine cD.out.mono ?_
 rintro e w3 ⟨d, c, k, F', rfl, hd, hc, hdc, hde, -, -, kd, kc, ko, kf, hch⟩
 have hM : ∀ k, k ∈ [p, g, q] → w.heap.size ≤ k := by
  intro k hk
  simp only [List.mem_cons, List.not_mem_nil, or_false] at hk
  rcases hk with h | h | h <;> omega
 have hq3 := ko.lt
 have hdw : w.heap.size ≤ c := Nat.le_trans kb.size hc
 have hqc : q ≠ c := by
  intro e
  subst e
  have := hql.out
  omega
 have hpc : p ≠ c := by
  intro e
  subst e
  have := hpl.out.1
  omega
 have hgc : g ≠ c := by
  intro e
  subst e
  have := hpl.out.2
  omega
 replace kb := Ch.to_below kb hch hM kb.size
 have cA := zH (ddo4 d p g c k 1 2 F' (.slice none 0 0) 0 w3 kd kc kf hde hdc)
 clear cD hch hM hp hg hqw hd hc
 replace kd := zH kd
 replace ko := zH ko
 replace kf := zH kf
 replace hdc := zH hdc
 replace hqc := zH hqc
 replace hpc := zH hpc
 replace hgc := zH hgc
 replace hde := zH hde
 clear kc
 go_wp2_with fail
 refine (numT 0 _).mono ?_
 rintro e wn ⟨rfl, hw⟩
 subst hw
 go_wp2_with fail
 refine cA.out.mono ?_
 rintro e w4 ⟨rfl, kc, hch⟩
 replace kb := Ch.to_below kb hch (fun k hk => by simp only [List.mem_cons, List.not_mem_nil, or_false] at hk; omega) kb.size
 replace ko := zH (ko.out.ch hch (by simpa using hqc.out))
 replace kd := zH (kd.out.ch hch (by simpa using hdc.out))
 replace kf := zH (kf.out.ch hch (by simpa using hpc.out) (by simpa using hgc.out))
 replace kc := zH kc
 clear cA hch hqc hdc hpc hgc
 go_upto_region 7 with fail
 have hcv := fun (w : World) (C : Array Value) (n c : Nat) => Lib.run_convert_bytes_const (P := Tryz.prog) w 22 5 C n c Tryz.underlying22 Tryz.underlying5
 have kba := below_alloc w4 (.cells #[.int .u8 120] 5 (1, 2))
 have cB := zH (ddo1_short d p g c F' (some ⟨w4.heap.size, 0, none⟩) 1 1 0 [120] zDc _ (show Sl (w4.alloc (.cells #[.int .u8 120] 5 (1, 2))) (.slice (some ⟨w4.heap.size, 0, none⟩) 1 1) (u8s [120]) from Sl.newMk _ _ _ _ _ rfl _ rfl zDc) (kd.out.below kba) (kf.out.below kba) hde.out)
 have cS := zH (fun w' (hb : Below w4.heap.size w4 w') => dstate_any d p c k 1 2 (-1) w' (kd.out.below hb) (kc.out.below hb))
 have cN := zH (fun w' (hb : Below w4.heap.size w4 w') => ocount_any q (some ⟨p, 0, none⟩) 1 2 1 ((3 : Nat) : Int) w' (ko.out.below hb))
 clear kd kf kc ko hde
 go_wp2_with fail
 refine cB.out.mono ?_
 rintro e w5 ⟨rfl, hb⟩
 have kb4 := bel kba hb
 clear cB hcv hb kba
 go_wp2_with fail
 refine (cS.out _ kb4).mono ?_
 rintro e w6 ⟨v, rfl, hone, hb⟩
 replace kb4 := bel kb4 hb
 clear cS hb
 have hla := newS_len v
 go_upto_region 9 with (refine wpl_storeG rfl _ _ _ rfl _ (newS.cs v) rfl rfl _ (Arr.new _ _ _) (by rw [newS_len]; kernel_rfl) (by rfl) hone (fun w7 k7 hg hsz => ?_))
 replace kb4 := bel kb4 (below_fresh hg)
 have x8 := k7.cell (j := 8) rfl
 clear hg hsz k7 hone hla
 go_wp2_with fail
 refine (numT 18 _).mono ?_
 rintro e wn ⟨rfl, hw⟩
 subst hw
 go_wp2_with fail
 refine (numT 4 _).mono ?_
 rintro e wn ⟨rfl, hw⟩
 subst hw
 go_wp2_with fail
 refine (cN.out _ kb4).mono ?_
 rintro e w8 ⟨rfl, hw⟩
 subst hw
 clear cN
 go_wp2_with fail
 go_ret
 exact ⟨rfl, bel kb kb4⟩
end Go.Proofs.YtncnlfpiondpnaaGreat
