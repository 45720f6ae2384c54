/- TopSigned: part 42 of its proof: lemmas and contracts, each with its conditions in its own statement; the last part holds the law itself. -/
import Derived.ProofKit
import Derived.Test.YtncnlfpiondpnaaGreatJt38

set_option maxHeartbeats 4000000
set_option maxRecDepth 100000
namespace Go.Proofs.YtncnlfpiondpnaaGreat
open Go.RowKit
namespace Ed
structure Cv (p : Nat) [NeZero p] where
 c : Fin p
 i : Fin p
 h : Fin p
 iv : Fin p → Fin p
 iv_mul : ∀ a, a ≠ 0 → a * iv a = 1
 iv0 : iv 0 = 0
 two : 2 * h = 1
 one : (1 : Fin p) ≠ 0
 ii : i * i = -1
 nsq : ∀ x, x * x ≠ c
 ladder : 121665 * c + 121666 = 0
 nz : (121666 : Fin p) ≠ 0
structure Pt (p : Nat) where
 x : Fin p
 y : Fin p
theorem Pt.ext {p : Nat} : ∀ {P Q : Pt p} (_ : P.x = Q.x) (_ : P.y = Q.y), P = Q
 | ⟨_, _⟩, ⟨_, _⟩, rfl, rfl => rfl
section
variable {p : Nat} [NeZero p]
theorem Cv.zero_div (C : Cv p) {a b : Fin p} (h : a * b = 0) : a = 0 ∨ b = 0 := by
 by_cases ha : a = 0
 · exact .inl ha
 · right
   have := C.iv_mul a ha
   grind -lia -linarith
theorem Cv.mul_ne (C : Cv p) {a b : Fin p} (ha : a ≠ 0) (hb : b ≠ 0) : a * b ≠ 0 := fun h => (C.zero_div h).elim ha hb
theorem Cv.cancel (C : Cv p) {a b d : Fin p} (hd : d ≠ 0) (h : d * a = d * b) : a = b := by
 have := C.iv_mul d hd
 grind -lia -linarith
theorem Cv.sq_ne (C : Cv p) {a : Fin p} (h : a * a = 0) : a = 0 := (C.zero_div h).elim id id
theorem Cv.two_ne (C : Cv p) : (2 : Fin p) ≠ 0 := by
 intro e
 have h1 := C.two
 have h2 := C.one
 grind -lia -linarith
theorem Cv.c_ne (C : Cv p) : C.c ≠ 0 := fun e => C.nsq 0 (by grind -lia -linarith)
theorem Cv.i_ne (C : Cv p) : C.i ≠ 0 := by
 intro e
 have h1 := C.ii
 have h2 := C.one
 grind -lia -linarith
def On (C : Cv p) (P : Pt p) : Prop := P.x * P.x * P.y * P.y = C.c * (P.y * P.y - P.x * P.x - 1)
theorem Cv.no_sq (C : Cv p) {A B : Fin p} (hA : A ≠ 0) (h : A * A = C.c * (B * B)) : False := by
 have hB : B ≠ 0 := by
  intro e
  subst e
  exact hA (C.sq_ne (by grind -lia -linarith))
 have h1 := C.iv_mul B hB
 refine C.nsq (A * C.iv B) ?_
 grind -lia -linarith
theorem Cv.complete (C : Cv p) {P Q : Pt p} (hP : On C P) (hQ : On C Q) (e : Fin p) (he : e * e = 1) (hD : P.x * Q.x * P.y * Q.y = e * C.c) : False := by
 obtain ⟨x1, y1⟩ := P
 obtain ⟨x2, y2⟩ := Q
 simp only [On] at hP hQ hD
 have hc := C.c_ne
 have hi := C.ii
 have hin := C.i_ne
 have hx1 : x1 ≠ 0 := by
  intro h
  refine hc ?_
  grind -lia -linarith
 have hy1 : y1 ≠ 0 := by
  intro h
  refine hc ?_
  grind -lia -linarith
 have hx2 : x2 ≠ 0 := by
  intro h
  refine hc ?_
  grind -lia -linarith
 have k1 : (C.i * x1 * y1 * (C.i * x2 + y2)) * (C.i * x1 * y1 * (C.i * x2 + y2)) = C.c * ((C.i * (C.i * x1 + e * y1)) * (C.i * (C.i * x1 + e * y1))) := by
  refine C.cancel hc ?_
  grind -lia -linarith
 have k2 : (C.i * x1 * y1 * (C.i * x2 - y2)) * (C.i * x1 * y1 * (C.i * x2 - y2)) = C.c * ((C.i * (C.i * x1 - e * y1)) * (C.i * (C.i * x1 - e * y1))) := by
  refine C.cancel hc ?_
  grind -lia -linarith
 have h0 : C.i * x1 * y1 ≠ 0 := C.mul_ne (C.mul_ne hin hx1) hy1
 by_cases h1 : C.i * x2 + y2 = 0
 · by_cases h2 : C.i * x2 - y2 = 0
   · have h3 : 2 * (C.i * x2) = 0 := by grind -lia -linarith
     exact C.mul_ne C.two_ne (C.mul_ne hin hx2) h3
   · exact C.no_sq (C.mul_ne h0 h2) k2
 · exact C.no_sq (C.mul_ne h0 h1) k1
theorem Cv.dp (C : Cv p) {P Q : Pt p} (hP : On C P) (hQ : On C Q) : C.c + P.x * Q.x * P.y * Q.y ≠ 0 := by
 intro h
 refine C.complete hP hQ (-1) (by grind -lia -linarith) (by grind)
theorem Cv.dm (C : Cv p) {P Q : Pt p} (hP : On C P) (hQ : On C Q) : C.c - P.x * Q.x * P.y * Q.y ≠ 0 := by
 intro h
 refine C.complete hP hQ 1 (by grind -lia -linarith) (by grind)
def add (C : Cv p) (P Q : Pt p) : Pt p :=
 ⟨C.c * (P.x * Q.y + Q.x * P.y) * C.iv (C.c + P.x * Q.x * P.y * Q.y), C.c * (P.y * Q.y + P.x * Q.x) * C.iv (C.c - P.x * Q.x * P.y * Q.y)⟩
theorem add_x (C : Cv p) {P Q : Pt p} (hP : On C P) (hQ : On C Q) : (add C P Q).x * (C.c + P.x * Q.x * P.y * Q.y) = C.c * (P.x * Q.y + Q.x * P.y) := by
 have h := C.iv_mul _ (C.dp hP hQ)
 unfold add
 simp only
 grind -lia -linarith
theorem add_y (C : Cv p) {P Q : Pt p} (hP : On C P) (hQ : On C Q) : (add C P Q).y * (C.c - P.x * Q.x * P.y * Q.y) = C.c * (P.y * Q.y + P.x * Q.x) := by
 have h := C.iv_mul _ (C.dm hP hQ)
 unfold add
 simp only
 grind -lia -linarith
theorem add_comm (C : Cv p) (P Q : Pt p) : add C P Q = add C Q P := by
 unfold add
 have e1 : C.c + P.x * Q.x * P.y * Q.y = C.c + Q.x * P.x * Q.y * P.y := by grind -lia -linarith
 have e2 : C.c - P.x * Q.x * P.y * Q.y = C.c - Q.x * P.x * Q.y * P.y := by grind -lia -linarith
 rw [e1, e2]
 congr 1
 · grind
 · grind
theorem on_add (C : Cv p) {P Q : Pt p} (hP : On C P) (hQ : On C Q) : On C (add C P Q) := by
 have hx := add_x C hP hQ
 have hy := add_y C hP hQ
 have ha := C.dp hP hQ
 have hb := C.dm hP hQ
 have hc := C.c_ne
 generalize add C P Q = R at *
 obtain ⟨x1, y1⟩ := P
 obtain ⟨x2, y2⟩ := Q
 obtain ⟨x3, y3⟩ := R
 simp only [On] at *
 refine C.cancel (C.mul_ne (C.mul_ne ha ha) (C.mul_ne hb hb)) ?_
 have e1 : (C.c + x1 * x2 * y1 * y2) * (C.c + x1 * x2 * y1 * y2) * ((C.c - x1 * x2 * y1 * y2) * (C.c - x1 * x2 * y1 * y2)) * (x3 * x3 * y3 * y3) =
  (C.c * (x1 * y2 + x2 * y1)) * (C.c * (x1 * y2 + x2 * y1)) * ((C.c * (y1 * y2 + x1 * x2)) * (C.c * (y1 * y2 + x1 * x2))) := by
  rw [← hx, ← hy]
  grind -lia -linarith
 have e2 : (C.c + x1 * x2 * y1 * y2) * (C.c + x1 * x2 * y1 * y2) * ((C.c - x1 * x2 * y1 * y2) * (C.c - x1 * x2 * y1 * y2)) * (C.c * (y3 * y3 - x3 * x3 - 1)) =
  C.c * ((C.c * (y1 * y2 + x1 * x2)) * (C.c * (y1 * y2 + x1 * x2)) * ((C.c + x1 * x2 * y1 * y2) * (C.c + x1 * x2 * y1 * y2)) - (C.c * (x1 * y2 + x2 * y1)) * (C.c * (x1 * y2 + x2 * y1)) * ((C.c - x1 * x2 * y1 * y2) * (C.c - x1 * x2 * y1 * y2)) - (C.c + x1 * x2 * y1 * y2) * (C.c + x1 * x2 * y1 * y2) * ((C.c - x1 * x2 * y1 * y2) * (C.c - x1 * x2 * y1 * y2))) := by
  rw [← hx, ← hy]
  grind -lia -linarith
 rw [e1, e2]
 clear e1 e2 hx hy ha hb hc
 grind -lia -linarith
theorem assoc_x (c x1 y1 x2 y2 x3 y3 : Fin p)
 (e1 : x1*x1*y1*y1 = c*(y1*y1 - x1*x1 - 1))
 (e2 : x2*x2*y2*y2 = c*(y2*y2 - x2*x2 - 1))
 (e3 : x3*x3*y3*y3 = c*(y3*y3 - x3*x3 - 1)) :
 ((x1*y2+x2*y1)*(c - x1*x2*y1*y2)*y3 + x3*(y1*y2+x1*x2)*(c + x1*x2*y1*y2)) *
  ((c + x2*x3*y2*y3)*(c - x2*x3*y2*y3) + c*(x1*y1*(x2*y3+x3*y2)*(y2*y3+x2*x3)))
 = ((x2*y3+x3*y2)*(c - x2*x3*y2*y3)*y1 + x1*(y2*y3+x2*x3)*(c+x2*x3*y2*y3)) *
  ((c + x1*x2*y1*y2)*(c - x1*x2*y1*y2) + c*(x3*y3*(x1*y2+x2*y1)*(y1*y2+x1*x2))) := by
 grind -lia -linarith
theorem assoc_y (c x1 y1 x2 y2 x3 y3 : Fin p)
 (e1 : x1*x1*y1*y1 = c*(y1*y1 - x1*x1 - 1))
 (e2 : x2*x2*y2*y2 = c*(y2*y2 - x2*x2 - 1))
 (e3 : x3*x3*y3*y3 = c*(y3*y3 - x3*x3 - 1)) :
 ((y1*y2+x1*x2)*(c + x1*x2*y1*y2)*y3 + x3*(x1*y2+x2*y1)*(c - x1*x2*y1*y2)) *
  ((c + x2*x3*y2*y3)*(c - x2*x3*y2*y3) + c*(-(x1*y1*(x2*y3+x3*y2)*(y2*y3+x2*x3))))
 = ((y2*y3+x2*x3)*(c+x2*x3*y2*y3)*y1 + x1*(x2*y3+x3*y2)*(c - x2*x3*y2*y3)) *
  ((c + x1*x2*y1*y2)*(c - x1*x2*y1*y2) + c*(-(x3*y3*(x1*y2+x2*y1)*(y1*y2+x1*x2)))) := by
 grind -lia -linarith
theorem fr (c m nx ny s t X Y : Fin p) (hx : s * (c + m) = c * nx) (hy : t * (c - m) = c * ny) :
 (c + m) * (c - m) * (s * Y + X * t) = c * (nx * (c - m) * Y + X * ny * (c + m)) ∧ (c + m) * (c - m) * (t * Y + s * X) = c * (ny * (c + m) * Y + X * nx * (c - m)) ∧ (c + m) * (c - m) * (s * X * t * Y) = c * (c * (X * Y * nx * ny)) := by
 have e1 : (c + m) * (c - m) * (s * Y + X * t) = (s * (c + m)) * (c - m) * Y + X * (t * (c - m)) * (c + m) := by clear hx hy; grind -lia -linarith
 have e2 : (c + m) * (c - m) * (t * Y + s * X) = (t * (c - m)) * (c + m) * Y + X * (s * (c + m)) * (c - m) := by clear hx hy; grind -lia -linarith
 have e3 : (c + m) * (c - m) * (s * X * t * Y) = (s * (c + m)) * (t * (c - m)) * (X * Y) := by clear hx hy; grind -lia -linarith
 rw [e1, e2, e3, hx, hy]
 clear hx hy e1 e2 e3
 refine ⟨?_, ?_, ?_⟩ <;> grind -lia -linarith
theorem fin_eq (C : Cv p) {c M N sl sr nl nr L1 L3 R1 R3 u v : Fin p} (hc : c ≠ 0) (hM : M ≠ 0) (hN : N ≠ 0) (hl : c + sl ≠ 0) (hr : c + sr ≠ 0) (hu : u * (c + sl) = c * nl) (hv : v * (c + sr) = c * nr)
 (l1 : M * nl = c * L1) (l3 : M * sl = c * (c * L3)) (r1 : N * nr = c * R1) (r3 : N * sr = c * (c * R3)) (h : L1 * (N + c * R3) = R1 * (M + c * L3)) : u = v := by
 have a1 : M * (c + sl) = c * (M + c * L3) := by clear hu hv h r1 r3; grind -lia -linarith
 have a2 : N * (c + sr) = c * (N + c * R3) := by clear hu hv h l1 l3 a1; grind -lia -linarith
 have n1 : M + c * L3 ≠ 0 := fun e => C.mul_ne hM hl (by rw [a1, e]; clear hu hv h l1 l3 r1 r3 a1 a2 e; grind -lia -linarith)
 have n2 : N + c * R3 ≠ 0 := fun e => C.mul_ne hN hr (by rw [a2, e]; clear hu hv h l1 l3 r1 r3 a1 a2 n1 e; grind -lia -linarith)
 have b1 : u * (M + c * L3) = c * L1 := by
  refine C.cancel hc ?_
  have : c * (u * (M + c * L3)) = u * (c * (M + c * L3)) := by clear hu hv h l1 l3 r1 r3 a1 a2 n1 n2; grind -lia -linarith
  rw [this, ← a1, ← l1]
  have : u * (M * (c + sl)) = M * (u * (c + sl)) := by clear hu hv h l1 l3 r1 r3 a1 a2 n1 n2; grind -lia -linarith
  rw [this, hu]
  clear hu hv h l1 l3 r1 r3 a1 a2 n1 n2; grind -lia -linarith
 have b2 : v * (N + c * R3) = c * R1 := by
  refine C.cancel hc ?_
  have : c * (v * (N + c * R3)) = v * (c * (N + c * R3)) := by clear hu hv h l1 l3 r1 r3 a1 a2 n1 n2 b1; grind -lia -linarith
  rw [this, ← a2, ← r1]
  have : v * (N * (c + sr)) = N * (v * (c + sr)) := by clear hu hv h l1 l3 r1 r3 a1 a2 n1 n2 b1; grind -lia -linarith
  rw [this, hv]
  clear hu hv h l1 l3 r1 r3 a1 a2 n1 n2 b1; grind -lia -linarith
 refine C.cancel (C.mul_ne n1 n2) ?_
 have e1 : (M + c * L3) * (N + c * R3) * u = u * (M + c * L3) * (N + c * R3) := by clear hu hv h l1 l3 r1 r3 a1 a2 n1 n2 b1 b2; grind -lia -linarith
 have e2 : (M + c * L3) * (N + c * R3) * v = v * (N + c * R3) * (M + c * L3) := by clear hu hv h l1 l3 r1 r3 a1 a2 n1 n2 b1 b2 e1; grind -lia -linarith
 rw [e1, e2, b1, b2]
 have e3 : c * L1 * (N + c * R3) = c * (L1 * (N + c * R3)) := by clear hu hv h l1 l3 r1 r3 a1 a2 n1 n2 b1 b2 e1 e2; grind -lia -linarith
 rw [e3, h]
 clear hu hv h l1 l3 r1 r3 a1 a2 n1 n2 b1 b2 e1 e2 e3; grind -lia -linarith
theorem neg_form {c M sl L3 : Fin p} : c - sl = c + -sl ∧ (M * sl = c * (c * L3) → M * (-sl) = c * (c * (-L3))) := by
 refine ⟨by grind -lia -linarith, fun h => by grind -lia -linarith⟩
theorem add_assoc (C : Cv p) {P Q R : Pt p} (hP : On C P) (hQ : On C Q) (hR : On C R) : add C (add C P Q) R = add C P (add C Q R) := by
 rw [add_comm C P (add C Q R)]
 have h1 := on_add C hP hQ
 have h2 := on_add C hQ hR
 have hM := C.mul_ne (C.dp hP hQ) (C.dm hP hQ)
 have hN := C.mul_ne (C.dp hQ hR) (C.dm hQ hR)
 obtain ⟨l1, l2, l3⟩ := fr C.c _ _ _ _ _ R.x R.y (add_x C hP hQ) (add_y C hP hQ)
 obtain ⟨r1, r2, r3⟩ := fr C.c _ _ _ _ _ P.x P.y (add_x C hQ hR) (add_y C hQ hR)
 refine Pt.ext ?_ ?_
 · exact fin_eq C C.c_ne hM hN (C.dp h1 hR) (C.dp h2 hP) (add_x C h1 hR) (add_x C h2 hP) l1 l3 r1 r3 (assoc_x C.c P.x P.y Q.x Q.y R.x R.y hP hQ hR)
 · have d1 := C.dm h1 hR
   have d2 := C.dm h2 hP
   have f1 := add_y C h1 hR
   have f2 := add_y C h2 hP
   rw [(neg_form (M := 0) (L3 := 0)).1] at d1 d2 f1 f2
   exact fin_eq C C.c_ne hM hN d1 d2 f1 f2 l2 (neg_form.2 l3) r2 (neg_form.2 r3) (assoc_y C.c P.x P.y Q.x Q.y R.x R.y hP hQ hR)
def O (p : Nat) [NeZero p] : Pt p := ⟨0, 1⟩
def neg (P : Pt p) : Pt p := ⟨-P.x, P.y⟩
theorem on_O (C : Cv p) : On C (O p) := by simp only [On, O]; grind -lia -linarith
theorem on_neg (C : Cv p) {P : Pt p} (h : On C P) : On C (neg P) := by simp only [On, neg] at *; grind -lia -linarith
theorem add_O (C : Cv p) {P : Pt p} (h : On C P) : add C P (O p) = P := by
 have h1 := C.c_ne
 refine Pt.ext ?_ ?_
 · refine C.cancel h1 ?_
   have := add_x C h (on_O C)
   simp only [O] at *
   grind -lia -linarith
 · refine C.cancel h1 ?_
   have := add_y C h (on_O C)
   simp only [O] at *
   grind -lia -linarith
theorem add_neg (C : Cv p) {P : Pt p} (h : On C P) : add C P (neg P) = O p := by
 have hn := on_neg C h
 refine Pt.ext ?_ ?_
 · refine C.cancel (C.dp h hn) ?_
   have := add_x C h hn
   simp only [O, neg] at *
   grind -lia -linarith
 · refine C.cancel (C.dm h hn) ?_
   have := add_y C h hn
   simp only [O, neg, On] at *
   grind -lia -linarith
def mul (C : Cv p) (P : Pt p) : Nat → Pt p
 | 0 => O p
 | n + 1 => add C (mul C P n) P
theorem on_mul (C : Cv p) {P : Pt p} (h : On C P) : ∀ n, On C (mul C P n)
 | 0 => on_O C
 | n + 1 => on_add C (on_mul C h n) h
theorem mul_one (C : Cv p) {P : Pt p} (h : On C P) : mul C P 1 = P := by
 show add C (O p) P = P
 rw [add_comm, add_O C h]
theorem mul_add (C : Cv p) {P : Pt p} (h : On C P) (m : Nat) : ∀ n, mul C P (m + n) = add C (mul C P m) (mul C P n)
 | 0 => (add_O C (on_mul C h m)).symm
 | n + 1 => by
  show add C (mul C P (m + n)) P = add C (mul C P m) (add C (mul C P n) P)
  rw [mul_add C h m n, add_assoc C (on_mul C h m) (on_mul C h n) h]
theorem mul_mul (C : Cv p) {P : Pt p} (h : On C P) (m : Nat) : ∀ n, mul C (mul C P m) n = mul C P (m * n)
 | 0 => rfl
 | n + 1 => by
  show add C (mul C (mul C P m) n) (mul C P m) = _
  rw [mul_mul C h m n, ← mul_add C h, Nat.mul_succ]
def Rep (a b y : Fin p) : Prop := (a ≠ 0 ∨ b ≠ 0) ∧ a * (1 - y) = b * (1 + y)
theorem Rep.par (C : Cv p) {a b y : Fin p} (h : Rep a b y) : ∃ l, l ≠ 0 ∧ a = l * (1 + y) ∧ b = l * (1 - y) := by
 obtain ⟨h1, h2⟩ := h
 have h3 := C.two
 have e1 : a = C.h * (a + b) * (1 + y) := by clear h1; grind -lia -linarith
 have e2 : b = C.h * (a + b) * (1 - y) := by clear h1 e1; grind -lia -linarith
 refine ⟨C.h * (a + b), fun e => ?_, e1, e2⟩
 rw [e] at e1 e2
 rcases h1 with h1 | h1
 · exact h1 (by clear e2; grind -lia -linarith)
 · exact h1 (by clear e1; grind -lia -linarith)
theorem rep_double (C : Cv p) {a b : Fin p} {P : Pt p} (hP : On C P) (h : Rep a b P.y) :
 Rep ((a + b) * (a + b) * ((a - b) * (a - b))) (((a + b) * (a + b) - (a - b) * (a - b)) * ((a + b) * (a + b) + 121665 * ((a + b) * (a + b) - (a - b) * (a - b)))) (add C P P).y := by
 obtain ⟨l, hl, rfl, rfl⟩ := h.par C
 have h0 := add_y C hP hP
 have h2 := C.two_ne
 have hd := C.dm hP hP
 have hc := C.c_ne
 have hn := C.nz
 have hk := C.ladder
 obtain ⟨x, y⟩ := P
 generalize (add C ⟨x, y⟩ ⟨x, y⟩).y = Y at *
 simp only [On] at *
 have e1 : (l * (1 + y) + l * (1 - y)) * (l * (1 + y) + l * (1 - y)) * ((l * (1 + y) - l * (1 - y)) * (l * (1 + y) - l * (1 - y))) = 16 * (l * l * (l * l)) * (y * y) := by clear hP h0 hd hk; grind -lia -linarith
 have e2 : ((l * (1 + y) + l * (1 - y)) * (l * (1 + y) + l * (1 - y)) - (l * (1 + y) - l * (1 - y)) * (l * (1 + y) - l * (1 - y))) * ((l * (1 + y) + l * (1 - y)) * (l * (1 + y) + l * (1 - y)) + 121665 * ((l * (1 + y) + l * (1 - y)) * (l * (1 + y) + l * (1 - y)) - (l * (1 + y) - l * (1 - y)) * (l * (1 + y) - l * (1 - y)))) =
  16 * (l * l * (l * l)) * ((1 - y * y) * (1 + 121665 * (1 - y * y))) := by clear hP h0 hd hk e1; grind -lia -linarith
 rw [e1, e2]
 clear e1 e2
 have h16 : (16 : Fin p) * (l * l * (l * l)) ≠ 0 := by
  have : (16 : Fin p) = 2 * 2 * (2 * 2) := by grind -lia -linarith
  rw [this]
  exact C.mul_ne (C.mul_ne (C.mul_ne h2 h2) (C.mul_ne h2 h2)) (C.mul_ne (C.mul_ne hl hl) (C.mul_ne hl hl))
 refine ⟨?_, ?_⟩
 · by_cases hy : y = 0
   · right
     subst hy
     have : 16 * (l * l * (l * l)) * ((1 - 0 * 0) * (1 + 121665 * (1 - 0 * 0))) = 16 * (l * l * (l * l)) * 121666 := by clear hP h0 hd hk; grind -lia -linarith
     rw [this]
     exact C.mul_ne h16 hn
   · exact .inl (C.mul_ne h16 (C.mul_ne hy hy))
 · refine C.cancel hd ?_
   have k1 : (C.c - x * x * y * y) * (16 * (l * l * (l * l)) * (y * y) * (1 - Y)) = 16 * (l * l * (l * l)) * ((y * y) * ((C.c - x * x * y * y) - C.c * (y * y + x * x))) := by rw [← h0]; clear hP h0 hd hk; grind -lia -linarith
   have k2 : (C.c - x * x * y * y) * (16 * (l * l * (l * l)) * ((1 - y * y) * (1 + 121665 * (1 - y * y))) * (1 + Y)) = 16 * (l * l * (l * l)) * (((1 - y * y) * (1 + 121665 * (1 - y * y))) * ((C.c - x * x * y * y) + C.c * (y * y + x * x))) := by rw [← h0]; clear hP h0 hd hk k1; grind -lia -linarith
   rw [k1, k2]
   congr 1
   clear k1 k2 h0 hd h16 hl
   refine C.cancel hc ?_
   generalize C.c = c at *
   grind -lia -linarith
theorem diff_poly (c x2 y2 x3 y3 : Fin p) (e2 : x2*x2*y2*y2 = c*(y2*y2 - x2*x2 - 1)) (e3 : x3*x3*y3*y3 = c*(y3*y3 - x3*x3 - 1)) :
 c * ((y2 + y3) * (y2 + y3) * ((c - x2*x3*y2*y3) - c*(y2*y3 + x2*x3)) * ((c + x2*x3*y2*y3) - c*(y2*y3 - x2*x3))) = c * ((y3 - y2) * (y3 - y2) * ((c - x2*x3*y2*y3) + c*(y2*y3 + x2*x3)) * ((c + x2*x3*y2*y3) + c*(y2*y3 - x2*x3))) := by
 grind -lia -linarith
theorem rep_diff (C : Cv p) {a b c d x y1 : Fin p} {P Q : Pt p} (hP : On C P) (hQ : On C Q) (h1 : Rep a b P.y) (h2 : Rep c d Q.y) (hx : x ≠ 0) (hx1 : x * (1 - y1) = 1 + y1) (hy1 : (add C P (neg Q)).y = y1) :
 Rep ((((c - d) * (a + b)) + ((c + d) * (a - b))) * (((c - d) * (a + b)) + ((c + d) * (a - b)))) (x * ((((c - d) * (a + b)) - ((c + d) * (a - b))) * (((c - d) * (a + b)) - ((c + d) * (a - b))))) (add C P Q).y := by
 obtain ⟨l, hl, rfl, rfl⟩ := h1.par C
 obtain ⟨m, hm, rfl, rfl⟩ := h2.par C
 clear h1 h2
 have h0 := add_y C hP hQ
 have h3 := add_y C hP (on_neg C hQ)
 have hdm := C.dm hP hQ
 have hdp := C.dp hP hQ
 rw [hy1] at h3
 have h2 := C.two_ne
 have hc := C.c_ne
 have h11 := C.one
 obtain ⟨x2, y2⟩ := P
 obtain ⟨x3, y3⟩ := Q
 generalize (add C ⟨x2, y2⟩ ⟨x3, y3⟩).y = Y at *
 simp only [On, neg] at *
 clear hy1
 generalize C.c = k at *
 have hp := diff_poly k x2 y2 x3 y3 hP hQ
 have h3' : y1 * (k + x2 * x3 * y2 * y3) = k * (y2 * y3 - x2 * x3) := by clear hP hQ h0 hp hx1; grind -lia -linarith
 clear h3
 have e1 : (m * (1 + y3) - m * (1 - y3)) * (l * (1 + y2) + l * (1 - y2)) + (m * (1 + y3) + m * (1 - y3)) * (l * (1 + y2) - l * (1 - y2)) = 2 * 2 * (l * m) * (y2 + y3) := by clear hP hQ h0 hp hx1 h3'; grind -lia -linarith
 have e2 : (m * (1 + y3) - m * (1 - y3)) * (l * (1 + y2) + l * (1 - y2)) - (m * (1 + y3) + m * (1 - y3)) * (l * (1 + y2) - l * (1 - y2)) = 2 * 2 * (l * m) * (y3 - y2) := by clear hP hQ h0 hp hx1 h3' e1; grind -lia -linarith
 rw [e1, e2]
 clear e1 e2
 have h4 : (2 : Fin p) * 2 * (l * m) ≠ 0 := C.mul_ne (C.mul_ne h2 h2) (C.mul_ne hl hm)
 generalize (2 : Fin p) * 2 * (l * m) = n at *
 refine ⟨?_, ?_⟩
 · by_cases hs : y2 + y3 = 0
   · by_cases ht : y3 - y2 = 0
     · exfalso
       have hy3 : y3 = 0 := by
        refine C.cancel h2 ?_
        clear hP hQ h0 hp hx1 h3'
        grind -lia -linarith
       have hy2 : y2 = 0 := by
        clear hP hQ h0 hp hx1 h3'
        grind -lia -linarith
       subst hy3 hy2
       have q2 : x2 * x2 = -1 := by
        refine C.cancel hc ?_
        clear hQ h0 hp hx1 h3'
        grind -lia -linarith
       have q3 : x3 * x3 = -1 := by
        refine C.cancel hc ?_
        clear hP h0 hp hx1 h3'
        grind -lia -linarith
       have q1 : y1 = -(x2 * x3) := by
        refine C.cancel hc ?_
        clear hP hQ h0 hp hx1
        grind -lia -linarith
       have q4 : (y1 - 1) * (y1 + 1) = 0 := by
        clear hP hQ h0 hp hx1 h3'
        grind -lia -linarith
       rcases C.zero_div q4 with q | q
       · refine h2 ?_
         clear hP hQ h0 hp h3' q1 q2 q3 q4
         grind -lia -linarith
       · refine C.mul_ne hx h2 ?_
         clear hP hQ h0 hp h3' q1 q2 q3 q4
         grind -lia -linarith
     · right
       exact C.mul_ne hx (C.mul_ne (C.mul_ne h4 ht) (C.mul_ne h4 ht))
   · exact .inl (C.mul_ne (C.mul_ne h4 hs) (C.mul_ne h4 hs))
 · -- y1 ≠ 1
   have hy : 1 - y1 ≠ 0 := by
    intro e
    refine h2 ?_
    clear hP hQ h0 hp h3'
    grind -lia -linarith
   have hp' := C.cancel hc hp
   clear hp hP hQ
   refine C.cancel (C.mul_ne hy (C.mul_ne hdm hdp)) ?_
   have k1 : (1 - y1) * ((k - x2 * x3 * y2 * y3) * (k + x2 * x3 * y2 * y3)) * (n * (y2 + y3) * (n * (y2 + y3)) * (1 - Y)) = n * n * ((y2 + y3) * (y2 + y3) * ((k - x2*x3*y2*y3) - k*(y2*y3 + x2*x3)) * ((k + x2*x3*y2*y3) - k*(y2*y3 - x2*x3))) := by
    rw [← h0, ← h3']
    clear h0 h3' hp' hx1
    grind -lia -linarith
   have k2 : (1 - y1) * ((k - x2 * x3 * y2 * y3) * (k + x2 * x3 * y2 * y3)) * (x * (n * (y3 - y2) * (n * (y3 - y2))) * (1 + Y)) = n * n * ((y3 - y2) * (y3 - y2) * ((k - x2*x3*y2*y3) + k*(y2*y3 + x2*x3)) * ((k + x2*x3*y2*y3) + k*(y2*y3 - x2*x3))) := by
    rw [← h0, ← h3']
    have : (1 - y1) * ((k - x2 * x3 * y2 * y3) * (k + x2 * x3 * y2 * y3)) * (x * (n * (y3 - y2) * (n * (y3 - y2))) * (1 + Y)) = (x * (1 - y1)) * ((k - x2 * x3 * y2 * y3) * (k + x2 * x3 * y2 * y3)) * ((n * (y3 - y2) * (n * (y3 - y2))) * (1 + Y)) := by
     clear h0 h3' hp' hx1 k1
     grind -lia -linarith
    rw [this, hx1]
    clear h0 h3' hp' hx1 k1 this
    grind -lia -linarith
   rw [k1, k2, hp']
def U (C : Cv p) (P : Pt p) : Fin p := (1 + P.y) * C.iv (1 - P.y)
theorem rep_U (C : Cv p) {a b : Fin p} {P : Pt p} (h : Rep a b P.y) : a * C.iv b = U C P := by
 obtain ⟨l, hl, rfl, rfl⟩ := h.par C
 unfold U
 by_cases h1 : 1 - P.y = 0
 · have e : l * (1 - P.y) = 0 := by rw [h1]; clear h1; grind -lia -linarith
   rw [e, h1, C.iv0]
   clear h1 e
   grind -lia -linarith
 · have q1 := C.iv_mul _ h1
   have q2 := C.iv_mul _ (C.mul_ne hl h1)
   refine C.cancel (C.mul_ne hl h1) ?_
   generalize C.iv (l * (1 - P.y)) = i1 at *
   generalize C.iv (1 - P.y) = i2 at *
   have k1 : l * (1 - P.y) * (l * (1 + P.y) * i1) = l * (1 - P.y) * i1 * (l * (1 + P.y)) := by clear q1 q2 h; grind -lia -linarith
   have k2 : l * (1 - P.y) * ((1 + P.y) * i2) = (1 - P.y) * i2 * (l * (1 + P.y)) := by clear q1 q2 h k1; grind -lia -linarith
   rw [k1, k2, q1, q2]
theorem U_flat (C : Cv p) {P : Pt p} (hP : On C P) (h : U C P = 0) : P.x = 0 ∧ P.y * P.y = 1 := by
 have hy : P.y * P.y = 1 := by
  rcases C.zero_div h with e | e
  · have : P.y = -1 := by clear h; grind -lia -linarith
    rw [this]
    clear h e
    grind -lia -linarith
  · have e2 : 1 - P.y = 0 := by
     refine Classical.byContradiction fun hn => ?_
     have := C.iv_mul _ hn
     rw [e] at this
     refine C.one ?_
     clear h e hn
     grind -lia -linarith
    clear h e
    grind -lia -linarith
 refine ⟨?_, hy⟩
 have hk := C.ladder
 have h1 := C.one
 simp only [On] at hP
 have h2 : P.x * P.x * (121665 * (1 + C.c)) = 0 := by
  clear h h1
  grind -lia -linarith
 have h3 : (121665 : Fin p) * (1 + C.c) = -1 := by
  clear h h1 h2 hP hy
  grind -lia -linarith
 rw [h3] at h2
 refine C.sq_ne ?_
 clear h h1 hP hy hk h3
 grind -lia -linarith
theorem flat_U (C : Cv p) {P : Pt p} (h : P.y * P.y = 1) : U C P = 0 := by
 unfold U
 have h0 : (1 + P.y) * (1 - P.y) = 0 := by grind -lia -linarith
 rcases C.zero_div h0 with e | e
 · rw [e]
   clear h h0 e
   grind -lia -linarith
 · rw [e, C.iv0]
   clear h h0 e
   grind -lia -linarith
theorem flat_mul (C : Cv p) {P : Pt p} (hP : On C P) (h : P.x = 0 ∧ P.y * P.y = 1) : ∀ n, (mul C P n).x = 0 ∧ (mul C P n).y * (mul C P n).y = 1
 | 0 => ⟨rfl, by show (1 : Fin p) * 1 = 1; grind -lia -linarith⟩
 | n + 1 => by
  obtain ⟨i1, i2⟩ := flat_mul C hP h n
  have hx := add_x C (on_mul C hP n) hP
  have hy := add_y C (on_mul C hP n) hP
  have hc := C.c_ne
  show (add C (mul C P n) P).x = 0 ∧ (add C (mul C P n) P).y * (add C (mul C P n) P).y = 1
  generalize add C (mul C P n) P = R at *
  generalize mul C P n = T at *
  obtain ⟨h1, h2⟩ := h
  rw [i1, h1] at hx hy
  refine ⟨C.cancel hc ?_, ?_⟩
  · clear hy i2 h2
    grind -lia -linarith
  · have : R.y = T.y * P.y := by
     refine C.cancel hc ?_
     clear hx i2 h2
     grind -lia -linarith
    rw [this]
    clear hx hy this
    grind -lia -linarith
theorem U_nil (C : Cv p) {P : Pt p} (hP : On C P) (h : U C P = 0) (n : Nat) : U C (mul C P n) = 0 := flat_U C (flat_mul C hP (U_flat C hP h) n).2
end
end Ed
theorem pow_mod_c : 29203323570479832313932222820853031755424015489030106335172286495629888845891 ^ ((pN - 1) / 2) % pN = pN - 1 := Nt.pow_mod_of 256 zDc zDk
instance : NeZero pN := ⟨by decide⟩
def fi (n : Nat) : Fin pN := Fin.ofNat pN n
theorem fi_val (n : Nat) : (fi n).val = n % pN := rfl
theorem fi_add (a b : Nat) : fi ((a + b) % pN) = fi a + fi b := by
 apply Fin.ext
 rw [Fin.val_add, fi_val, fi_val, fi_val, Nat.mod_mod, Nat.add_mod]
theorem fi_mul (a b : Nat) : fi (a * b % pN) = fi a * fi b := by
 apply Fin.ext
 rw [Fin.val_mul, fi_val, fi_val, fi_val, Nat.mod_mod, Nat.mul_mod]
theorem fi_sub {a b : Nat} (hb : b < pN) : fi ((a + pN - b) % pN) = fi a - fi b := by
 apply Fin.ext
 rw [Fin.val_sub, fi_val, fi_val, fi_val, Nat.mod_mod, Nat.mod_eq_of_lt hb, Nat.add_mod_mod]
 congr 1
 omega
theorem fi_inj {a b : Nat} (ha : a < pN) (hb : b < pN) (h : fi a = fi b) : a = b := by
 have := congrArg Fin.val h
 rwa [fi_val, fi_val, Nat.mod_eq_of_lt ha, Nat.mod_eq_of_lt hb] at this
def ivN (a : Fin pN) : Fin pN := fi (a.val ^ (pN - 2))
theorem iv_zero : ivN 0 = 0 := by
 unfold ivN
 have : ((0 : Fin pN).val) = 0 := rfl
 rw [this, Nat.zero_pow zDc]
 rfl
theorem iv_mul {a : Fin pN} (h : a ≠ 0) : a * ivN a = 1 := by
 have h0 : a.val % pN ≠ 0 := by
  rw [Nat.mod_eq_of_lt a.isLt]
  intro e
  exact h (Fin.ext e)
 have h1 := fermat_p h0
 apply Fin.ext
 rw [Fin.val_mul]
 unfold ivN
 rw [fi_val, Nat.mul_mod_mod, ← Nat.pow_succ']
 have : pN - 2 + 1 = pN - 1 := by decide
 rw [show Nat.succ (pN - 2) = pN - 1 from this, h1]
 rfl
def cN : Fin pN := fi 29203323570479832313932222820853031755424015489030106335172286495629888845891
theorem c_nsq (x : Fin pN) : x * x ≠ cN := by
 intro h
 have hv := congrArg Fin.val h
 rw [Fin.val_mul] at hv
 have hc : cN.val = 29203323570479832313932222820853031755424015489030106335172286495629888845891 := by decide +kernel
 rw [hc] at hv
 have hx : x.val % pN ≠ 0 := by
  intro e
  rw [Nat.mul_mod, e, Nat.mul_zero, Nat.zero_mod] at hv
  exact absurd hv zDc
 have h1 := fermat_p hx
 have h2 := pow_mod_c
 rw [← hv, ← Nat.pow_mod, ← Nat.pow_two, ← Nat.pow_mul, show 2 * ((pN - 1) / 2) = pN - 1 by decide, h1] at h2
 exact absurd h2 zDc
def cvN : Ed.Cv pN where
 c := cN
 i := fi 19681161376707505956807079304988542015446066515923890162744021073123829784752
 h := fi 28948022309329048855892746252171976963317496166410141009864396001978282409975
 iv := ivN
 iv_mul := fun _ h => iv_mul h
 iv0 := iv_zero
 two := by decide +kernel
 one := by decide +kernel
 ii := by decide +kernel
 nsq := c_nsq
 ladder := by decide +kernel
 nz := by decide +kernel
theorem step_rep {x : Nat} {v : St} (hv : v.low) (hx0 : fi x ≠ 0) {y1 : Fin pN} (hx1 : fi x * (1 - y1) = 1 + y1) {P Q : Ed.Pt pN} (hP : Ed.On cvN P) (hQ : Ed.On cvN Q) (h1 : Ed.Rep (fi v.a) (fi v.b) P.y) (h2 : Ed.Rep (fi v.c) (fi v.d) Q.y)
 (hy1 : (Ed.add cvN P (Ed.neg Q)).y = y1) : Ed.Rep (fi (stepN x v).a) (fi (stepN x v).b) (Ed.add cvN P P).y ∧ Ed.Rep (fi (stepN x v).c) (fi (stepN x v).d) (Ed.add cvN P Q).y := by
 have hm := fun n : Nat => Nat.mod_lt n pN_pos
 refine ⟨?_, ?_⟩
 · have := Ed.rep_double cvN hP h1
   simp only [stepN, fi_mul, fi_add, fi_sub (hm _), fi_sub hv.2.1]
   exact this
 · have := Ed.rep_diff cvN hP hQ h1 h2 hx0 hx1 hy1
   simp only [stepN, fi_mul, fi_add, fi_sub (hm _), fi_sub hv.2.1, fi_sub hv.2.2.2]
   exact this
theorem on_k {P : Ed.Pt pN} (hP : Ed.On cvN P) (k : Nat) : Ed.On cvN (Ed.mul cvN P k) := Ed.on_mul cvN hP k
theorem diff_y {P : Ed.Pt pN} (hP : Ed.On cvN P) (k : Nat) : (Ed.add cvN (Ed.mul cvN P (k + 1)) (Ed.neg (Ed.mul cvN P k))).y = P.y ∧ (Ed.add cvN (Ed.mul cvN P k) (Ed.neg (Ed.mul cvN P (k + 1)))).y = P.y := by
 have hk := on_k hP k
 have hn := Ed.on_neg cvN hk
 refine ⟨?_, ?_⟩
 · show (Ed.add cvN (Ed.add cvN (Ed.mul cvN P k) P) (Ed.neg (Ed.mul cvN P k))).y = P.y
   rw [Ed.add_comm cvN (Ed.mul cvN P k) P, Ed.add_assoc cvN hP hk hn, Ed.add_neg cvN hk, Ed.add_O cvN hP]
 · have hs := Ed.on_add cvN hk hP
   have hsn := Ed.on_neg cvN hs
   have hT := Ed.on_add cvN hk hsn
   have hO := Ed.on_O cvN
   have hPn := Ed.on_neg cvN hP
   -- T + (A + P) = A
   have e1 : Ed.add cvN (Ed.add cvN (Ed.mul cvN P k) (Ed.neg (Ed.add cvN (Ed.mul cvN P k) P))) (Ed.add cvN (Ed.mul cvN P k) P) = Ed.mul cvN P k := by
    rw [Ed.add_assoc cvN hk hsn hs, Ed.add_comm cvN (Ed.neg _), Ed.add_neg cvN hs, Ed.add_O cvN hk]
   show (Ed.add cvN (Ed.mul cvN P k) (Ed.neg (Ed.add cvN (Ed.mul cvN P k) P))).y = P.y
   generalize Ed.add cvN (Ed.mul cvN P k) (Ed.neg (Ed.add cvN (Ed.mul cvN P k) P)) = T at *
   have e2 : Ed.add cvN T P = Ed.O pN := by
    have e3 : Ed.add cvN (Ed.neg (Ed.mul cvN P k)) (Ed.add cvN T (Ed.add cvN (Ed.mul cvN P k) P)) = Ed.add cvN (Ed.neg (Ed.mul cvN P k)) (Ed.mul cvN P k) := congrArg (fun X => Ed.add cvN (Ed.neg (Ed.mul cvN P k)) X) e1
    rw [Ed.add_comm cvN _ (Ed.mul cvN P k), Ed.add_neg cvN hk, Ed.add_comm cvN (Ed.mul cvN P k) P, ← Ed.add_assoc cvN hT hP hk, Ed.add_comm cvN _ (Ed.mul cvN P k), ← Ed.add_assoc cvN hn hk (Ed.on_add cvN hT hP), Ed.add_comm cvN _ (Ed.mul cvN P k), Ed.add_neg cvN hk, Ed.add_comm cvN (Ed.O pN), Ed.add_O cvN (Ed.on_add cvN hT hP)] at e3
    exact e3
   have e4 : T = Ed.neg P := by
    have e3 : Ed.add cvN (Ed.add cvN T P) (Ed.neg P) = Ed.add cvN (Ed.O pN) (Ed.neg P) := congrArg (fun X => Ed.add cvN X (Ed.neg P)) e2
    rwa [Ed.add_assoc cvN hT hP hPn, Ed.add_neg cvN hP, Ed.add_O cvN hT, Ed.add_comm cvN (Ed.O pN), Ed.add_O cvN hPn] at e3
   rw [e4]
   rfl
theorem lad_rep {P : Ed.Pt pN} (hP : Ed.On cvN P) {x : Nat} (hx : x < pN) (hx0 : fi x ≠ 0) (hx1 : fi x * (1 - P.y) = 1 + P.y) {n : Nat} (hn : n < 2 ^ 255) : ∀ m, m ≤ 255 →
 Ed.Rep (fi (ladT x n m).a) (fi (ladT x n m).b) (Ed.mul cvN P (n / 2 ^ (255 - m))).y ∧ Ed.Rep (fi (ladT x n m).c) (fi (ladT x n m).d) (Ed.mul cvN P (n / 2 ^ (255 - m) + 1)).y
 | 0, _ => by
  rw [show n / 2 ^ (255 - 0) = 0 from Nat.div_eq_of_lt hn]
  refine ⟨⟨.inl ?_, ?_⟩, ⟨.inr ?_, ?_⟩⟩
  · show fi 1 ≠ 0
    decide +kernel
  · show fi 1 * (1 - 1) = fi 0 * (1 + 1)
    decide +kernel
  · show fi 1 ≠ 0
    decide +kernel
  · rw [show (0 + 1) = 1 from rfl, Ed.mul_one cvN hP]
    show fi x * (1 - P.y) = fi 1 * (1 + P.y)
    rw [hx1]
    have : fi 1 = 1 := rfl
    rw [this, Fin.one_mul]
 | m + 1, hm => by
  obtain ⟨i1, i2⟩ := lad_rep hP hx hx0 hx1 hn m zOm
  have hl := lad_low hx n m
  obtain ⟨k, hk⟩ : ∃ k, n / 2 ^ (255 - m) = k := ⟨_, rfl⟩
  obtain ⟨t, ht⟩ : ∃ t, n / 2 ^ (254 - m) % 2 = t := ⟨_, rfl⟩
  have hk1 : n / 2 ^ (255 - (m + 1)) = 2 * k + t := by
   have e : 255 - m = (254 - m) + 1 := by omega
   rw [show 255 - (m + 1) = 254 - m by omega, ← hk, ← ht, e, Nat.pow_succ, ← Nat.div_div_eq_div_mul]
   omega
  rw [hk1]
  rw [hk] at i1 i2
  show Ed.Rep (fi ((stepN x ((ladT x n m).swp (n / 2 ^ (254 - m) % 2))).swp (n / 2 ^ (254 - m) % 2)).a) (fi ((stepN x ((ladT x n m).swp (n / 2 ^ (254 - m) % 2))).swp (n / 2 ^ (254 - m) % 2)).b) _ ∧ Ed.Rep (fi ((stepN x ((ladT x n m).swp (n / 2 ^ (254 - m) % 2))).swp (n / 2 ^ (254 - m) % 2)).c) (fi ((stepN x ((ladT x n m).swp (n / 2 ^ (254 - m) % 2))).swp (n / 2 ^ (254 - m) % 2)).d) _
  rw [ht]
  have htt : t = 0 ∨ t = 1 := by omega
  have ok := on_k hP k
  have ok1 := on_k hP (k + 1)
  rcases htt with rfl | rfl
  · have e0 : ∀ v : St, v.swp 0 = v := fun v => rfl
    rw [e0, e0]
    obtain ⟨r1, r2⟩ := step_rep hl hx0 hx1 ok ok1 i1 i2 (diff_y hP k).2
    rw [← Ed.mul_add cvN hP] at r1 r2
    rw [show 2 * k + 0 = k + k by omega, show k + k + 1 = k + (k + 1) by omega]
    exact ⟨r1, r2⟩
  · have e1 : ∀ v : St, v.swp 1 = ⟨v.c, v.d, v.a, v.b⟩ := fun v => rfl
    rw [e1 (ladT x n m), e1]
    obtain ⟨r1, r2⟩ := step_rep (v := ⟨(ladT x n m).c, (ladT x n m).d, (ladT x n m).a, (ladT x n m).b⟩) ⟨hl.2.2.1, hl.2.2.2, hl.1, hl.2.1⟩ hx0 hx1 ok1 ok i2 i1 (diff_y hP k).1
    rw [← Ed.mul_add cvN hP] at r1 r2
    rw [show 2 * k + 1 = k + 1 + k by omega, show k + 1 + k + 1 = k + 1 + (k + 1) by omega]
    exact ⟨r2, r1⟩
theorem clamp_lt' (k : Nat) : clampN k < 2 ^ 255 := by
 unfold clampN
 have := Nat.mod_lt (k - k % 8) (show 0 < 2 ^ 254 by decide)
 omega
theorem clamp_top' (k : Nat) : clampN k / 2 ^ 254 % 2 = 1 := by
 unfold clampN
 have := Nat.mod_lt (k - k % 8) (show 0 < 2 ^ 254 by decide)
 omega
theorem self_sub' {q : Nat} : (q + pN - q) % pN = 0 := by rw [Nat.add_sub_cancel_left, Nat.mod_self]
theorem inf_dbl (x : Nat) {v : St} (hb : v.b = 0) : (stepN x v).b = 0 := by
 simp only [stepN]
 rw [hb]
 have e : (v.a + pN - 0) % pN = (v.a + 0) % pN := by rw [Nat.sub_zero, Nat.add_mod_right]; rfl
 rw [e, self_sub', Nat.zero_mul, Nat.zero_mod]
theorem nil_d (v : St) : (stepN 0 v).d = 0 := by simp only [stepN]; rw [Nat.zero_mul, Nat.zero_mod]
theorem nil_b : (stepN 0 ⟨0, 1, 1, 0⟩).b = 0 := by decide +kernel
theorem sw0 (v : St) : v.swp 0 = v := rfl
theorem sw1 (v : St) : v.swp 1 = ⟨v.c, v.d, v.a, v.b⟩ := rfl
theorem lad_one (n : Nat) : ladT 0 n 1 = (stepN 0 (St.swp (n / 2 ^ 254 % 2) ⟨1, 0, 0, 1⟩)).swp (n / 2 ^ 254 % 2) := rfl
theorem lad_next (x n m : Nat) : ladT x n (m + 1) = (stepN x ((ladT x n m).swp (n / 2 ^ (254 - m) % 2))).swp (n / 2 ^ (254 - m) % 2) := rfl
theorem nil_all {n : Nat} (h : n / 2 ^ 254 % 2 = 1) : ∀ m, (ladT 0 n (m + 1)).b = 0 ∧ (ladT 0 n (m + 1)).d = 0
 | 0 => by
  rw [lad_one, h, sw1, sw1]
  exact ⟨nil_d ⟨0, 1, 1, 0⟩, nil_b⟩
 | m + 1 => by
  obtain ⟨h1, h2⟩ := nil_all h m
  rw [lad_next]
  have htt : n / 2 ^ (254 - (m + 1)) % 2 = 0 ∨ n / 2 ^ (254 - (m + 1)) % 2 = 1 := by omega
  rcases htt with e | e
  · rw [e, sw0, sw0]
    exact ⟨inf_dbl 0 h1, nil_d _⟩
  · rw [e, sw1 (ladT 0 n (m + 1)), sw1]
    exact ⟨nil_d _, inf_dbl 0 (v := ⟨(ladT 0 n (m + 1)).c, (ladT 0 n (m + 1)).d, (ladT 0 n (m + 1)).a, (ladT 0 n (m + 1)).b⟩) h2⟩
theorem nil_mul {k u : Nat} (hu : u % 2 ^ 255 % pN = 0) : lmulN k u = 0 := by
 refine lmul_nil ?_
 rw [hu]
 exact (nil_all (clamp_top' k) 254).1
theorem U_zero {P : Ed.Pt pN} (hP : Ed.On cvN P) (h : Ed.U cvN P = 0) (n : Nat) : Ed.U cvN (Ed.mul cvN P n) = 0 :=
 Ed.U_nil cvN hP h n
theorem lmul_U {P : Ed.Pt pN} (hP : Ed.On cvN P) (k : Nat) {u : Nat} (hu : u < pN) (h : fi u = Ed.U cvN P) : fi (lmulN k u) = Ed.U cvN (Ed.mul cvN P (clampN k)) := by
 have hu2 : u % 2 ^ 255 % pN = u := by
  have : pN < 2 ^ 255 := by decide
  have e : u % 2 ^ 255 = u := Nat.mod_eq_of_lt (Nat.lt_trans hu this)
  rw [e, Nat.mod_eq_of_lt hu]
 by_cases h0 : u = 0
 · subst h0
   rw [nil_mul hu2, U_zero hP (by rw [← h]; rfl)]
   rfl
 · have hx0 : fi u ≠ 0 := fun e => h0 (fi_inj hu pN_pos (by rw [e]; rfl))
   have hy : 1 - P.y ≠ 0 := by
    intro e
    refine hx0 ?_
    rw [h, Ed.U, e]
    show _ * ivN 0 = 0
    rw [iv_zero, Fin.mul_zero]
   have hx1 : fi u * (1 - P.y) = 1 + P.y := by
    have := cvN.iv_mul _ hy
    rw [h, Ed.U, Fin.mul_assoc, Fin.mul_comm (cvN.iv _), this, Fin.mul_one]
   have hr := (lad_rep hP hu hx0 hx1 (clamp_lt' k) 255 (Nat.le_refl _)).1
   rw [show clampN k / 2 ^ (255 - 255) = clampN k from Nat.div_one _] at hr
   rw [← Ed.rep_U cvN hr, lmulN, hu2, fi_mul]
   congr 1
   show fi (_ % pN) = ivN _
   unfold ivN
   apply Fin.ext
   rw [fi_val, fi_val, fi_val, Nat.mod_mod, ← Nat.pow_mod]
def gN : Ed.Pt pN := ⟨fi 42783823269122696939284341094755422415180979639778424813682678720006717057747, fi 46316835694926478169428394003475163141307993866256225615783033603165251855960⟩
theorem g_on : Ed.On cvN gN := by
 show _ = _
 decide +kernel
theorem g_U : fi 9 = Ed.U cvN gN := by
 have h : (1 : Fin pN) - gN.y ≠ 0 := by decide +kernel
 have h1 : fi 9 * (1 - gN.y) = 1 + gN.y := by decide +kernel
 have h2 := cvN.iv_mul _ h
 rw [Ed.U, ← h1, Fin.mul_assoc, h2, Fin.mul_one]
theorem lmul_ltp (k u : Nat) : lmulN k u < pN := Nat.mod_lt _ pN_pos
theorem lmul_one (a : Nat) : fi (lmulN a 9) = Ed.U cvN (Ed.mul cvN gN (clampN a)) := lmul_U g_on a zDc g_U
theorem lmul_two (a b : Nat) : fi (lmulN a (lmulN b 9)) = Ed.U cvN (Ed.mul cvN gN (clampN b * clampN a)) := by
 rw [lmul_U (on_k g_on (clampN b)) a (lmul_ltp _ _) (lmul_one b), Ed.mul_mul cvN g_on]
namespace Nt
theorem prime_531581 : Prime 531581 := prime_small 730 zDc zDc zDk
theorem prime_1224481 : Prime 1224481 := prime_small 1107 zDc zDc zDk
theorem prime_qd : Prime 1257559732178653 := pock2 (q := 531581) (R := 2365697292) (q' := 1224481) (R' := 1027014492) prime_531581 prime_1224481 zDk zDk zDk zDk zDk zDk zDk zDk zDk zDk zDk
theorem prime_qe : Prime 4434155615661930479 := pock1 (q := 1257559732178653) (R := 3526) prime_qd zDk zDk zDk zDk zDk zDk zDk
theorem prime_qf : Prime 172054593956031949258510691 := pock1 (q := 4434155615661930479) (R := 38802110) prime_qe zDk zDk zDk zDk zDk zDk zDk
theorem prime_qg : Prime 19757330305831588566944191468367130476339 := pock1 (q := 172054593956031949258510691) (R := 114831751082918) prime_qf zDk zDk zDk zDk zDk zDk zDk
theorem prime_qh : Prime 276602624281642239937218680557139826668747 := pock1 (q := 19757330305831588566944191468367130476339) (R := 14) prime_qg zDk zDk zDk zDk zDk zDk zDk
theorem prime_q : Prime 7237005577332262213973186563042994240857116359379907606001950938285454250989 := pock1 (q := 276602624281642239937218680557139826668747) (R := 26163907866482859529727157400808004) prime_qh zDk zDk zDk zDk zDk zDk zDk
end Nt
end Go.Proofs.YtncnlfpiondpnaaGreat
