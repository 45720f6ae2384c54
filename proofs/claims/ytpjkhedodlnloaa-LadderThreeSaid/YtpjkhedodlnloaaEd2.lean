/- The ladder's product is that of the curve's points: two come to one secret, three do. -/
import Derived.Test.YtpjkhedodlnloaaLd3
import Derived.Test.YtpjkhedodlnloaaEd
namespace Go.Proofs.Ytpjkhedodlnloaa
open Go.RowKit

theorem pow_mod_c : 29203323570479832313932222820853031755424015489030106335172286495629888845891 ^ ((pN - 1) / 2) % pN = pN - 1 := Nt.pow_mod_of 256 (by decide) (by decide +kernel)

instance : NeZero pN := ⟨by decide⟩
/-- A number as one of the field. -/
def fi (n : Nat) : Fin pN := Fin.ofNat pN n
theorem fi_val (n : Nat) : (fi n).val = n % pN := rfl
theorem fi_add (a b : Nat) : fi ((a + b) % pN) = fi a + fi b := by
  apply Fin.ext
  rw [Fin.val_add, fi_val, fi_val, fi_val, Nat.mod_mod, Nat.add_mod]
theorem fi_mul (a b : Nat) : fi (a * b % pN) = fi a * fi b := by
  apply Fin.ext
  rw [Fin.val_mul, fi_val, fi_val, fi_val, Nat.mod_mod, Nat.mul_mod]
theorem fi_sub {a b : Nat} (hb : b < pN) : fi ((a + pN - b) % pN) = fi a - fi b := by
  apply Fin.ext
  rw [Fin.val_sub, fi_val, fi_val, fi_val, Nat.mod_mod, Nat.mod_eq_of_lt hb, Nat.add_mod_mod]
  congr 1
  omega
theorem fi_inj {a b : Nat} (ha : a < pN) (hb : b < pN) (h : fi a = fi b) : a = b := by
  have := congrArg Fin.val h
  rwa [fi_val, fi_val, Nat.mod_eq_of_lt ha, Nat.mod_eq_of_lt hb] at this

/-- What undoes a product. -/
def ivN (a : Fin pN) : Fin pN := fi (a.val ^ (pN - 2))
theorem iv_zero : ivN 0 = 0 := by
  unfold ivN
  have : ((0 : Fin pN).val) = 0 := rfl
  rw [this, Nat.zero_pow (by decide)]
  rfl
theorem iv_mul {a : Fin pN} (h : a ≠ 0) : a * ivN a = 1 := by
  have h0 : a.val % pN ≠ 0 := by
    rw [Nat.mod_eq_of_lt a.isLt]
    intro e
    exact h (Fin.ext e)
  have h1 := fermat_p h0
  apply Fin.ext
  rw [Fin.val_mul]
  unfold ivN
  rw [fi_val, Nat.mul_mod_mod, ← Nat.pow_succ']
  have : pN - 2 + 1 = pN - 1 := by decide
  rw [show Nat.succ (pN - 2) = pN - 1 from this, h1]
  rfl

def cN : Fin pN := fi 29203323570479832313932222820853031755424015489030106335172286495629888845891
theorem c_nsq (x : Fin pN) : x * x ≠ cN := by
  intro h
  have hv := congrArg Fin.val h
  rw [Fin.val_mul] at hv
  have hc : cN.val = 29203323570479832313932222820853031755424015489030106335172286495629888845891 := by decide +kernel
  rw [hc] at hv
  have hx : x.val % pN ≠ 0 := by
    intro e
    rw [Nat.mul_mod, e, Nat.mul_zero, Nat.zero_mod] at hv
    exact absurd hv (by decide)
  have h1 := fermat_p hx
  have h2 := pow_mod_c
  rw [← hv, ← Nat.pow_mod, ← Nat.pow_two, ← Nat.pow_mul, show 2 * ((pN - 1) / 2) = pN - 1 by decide, h1] at h2
  exact absurd h2 (by decide)

def cvN : Ed.Cv pN where
  c := cN
  i := fi 19681161376707505956807079304988542015446066515923890162744021073123829784752
  h := fi 28948022309329048855892746252171976963317496166410141009864396001978282409975
  iv := ivN
  iv_mul := fun _ h => iv_mul h
  iv0 := iv_zero
  two := by decide +kernel
  one := by decide +kernel
  ii := by decide +kernel
  nsq := c_nsq
  ladder := by decide +kernel
  nz := by decide +kernel

/-- A round's pairs. -/
theorem step_rep {x : Nat} {v : St} (hv : v.low) (hx0 : fi x ≠ 0) {y1 : Fin pN} (hx1 : fi x * (1 - y1) = 1 + y1) {P Q : Ed.Pt pN} (hP : Ed.On cvN P) (hQ : Ed.On cvN Q) (h1 : Ed.Rep (fi v.a) (fi v.b) P.y) (h2 : Ed.Rep (fi v.c) (fi v.d) Q.y)
    (hy1 : (Ed.add cvN P (Ed.neg Q)).y = y1) : Ed.Rep (fi (stepN x v).a) (fi (stepN x v).b) (Ed.add cvN P P).y ∧ Ed.Rep (fi (stepN x v).c) (fi (stepN x v).d) (Ed.add cvN P Q).y := by
  have hm := fun n : Nat => Nat.mod_lt n pN_pos
  refine ⟨?_, ?_⟩
  · have := Ed.rep_double cvN hP h1
    simp only [stepN, fi_mul, fi_add, fi_sub (hm _), fi_sub hv.2.1]
    exact this
  · have := Ed.rep_diff cvN hP hQ h1 h2 hx0 hx1 hy1
    simp only [stepN, fi_mul, fi_add, fi_sub (hm _), fi_sub hv.2.1, fi_sub hv.2.2.2]
    exact this

theorem on_k {P : Ed.Pt pN} (hP : Ed.On cvN P) (k : Nat) : Ed.On cvN (Ed.mul cvN P k) := Ed.on_mul cvN hP k
theorem diff_y {P : Ed.Pt pN} (hP : Ed.On cvN P) (k : Nat) : (Ed.add cvN (Ed.mul cvN P (k + 1)) (Ed.neg (Ed.mul cvN P k))).y = P.y ∧ (Ed.add cvN (Ed.mul cvN P k) (Ed.neg (Ed.mul cvN P (k + 1)))).y = P.y := by
  have hk := on_k hP k
  have hn := Ed.on_neg cvN hk
  refine ⟨?_, ?_⟩
  · show (Ed.add cvN (Ed.add cvN (Ed.mul cvN P k) P) (Ed.neg (Ed.mul cvN P k))).y = P.y
    rw [Ed.add_comm cvN (Ed.mul cvN P k) P, Ed.add_assoc cvN hP hk hn, Ed.add_neg cvN hk, Ed.add_O cvN hP]
  · have hs := Ed.on_add cvN hk hP
    have hsn := Ed.on_neg cvN hs
    have hT := Ed.on_add cvN hk hsn
    have hO := Ed.on_O cvN
    have hPn := Ed.on_neg cvN hP
    -- T + (A + P) = A
    have e1 : Ed.add cvN (Ed.add cvN (Ed.mul cvN P k) (Ed.neg (Ed.add cvN (Ed.mul cvN P k) P))) (Ed.add cvN (Ed.mul cvN P k) P) = Ed.mul cvN P k := by
      rw [Ed.add_assoc cvN hk hsn hs, Ed.add_comm cvN (Ed.neg _), Ed.add_neg cvN hs, Ed.add_O cvN hk]
    show (Ed.add cvN (Ed.mul cvN P k) (Ed.neg (Ed.add cvN (Ed.mul cvN P k) P))).y = P.y
    generalize Ed.add cvN (Ed.mul cvN P k) (Ed.neg (Ed.add cvN (Ed.mul cvN P k) P)) = T at *
    have e2 : Ed.add cvN T P = Ed.O pN := by
      have e3 : Ed.add cvN (Ed.neg (Ed.mul cvN P k)) (Ed.add cvN T (Ed.add cvN (Ed.mul cvN P k) P)) = Ed.add cvN (Ed.neg (Ed.mul cvN P k)) (Ed.mul cvN P k) := congrArg (fun X => Ed.add cvN (Ed.neg (Ed.mul cvN P k)) X) e1
      rw [Ed.add_comm cvN _ (Ed.mul cvN P k), Ed.add_neg cvN hk, Ed.add_comm cvN (Ed.mul cvN P k) P, ← Ed.add_assoc cvN hT hP hk, Ed.add_comm cvN _ (Ed.mul cvN P k), ← Ed.add_assoc cvN hn hk (Ed.on_add cvN hT hP), Ed.add_comm cvN _ (Ed.mul cvN P k), Ed.add_neg cvN hk, Ed.add_comm cvN (Ed.O pN), Ed.add_O cvN (Ed.on_add cvN hT hP)] at e3
      exact e3
    have e4 : T = Ed.neg P := by
      have e3 : Ed.add cvN (Ed.add cvN T P) (Ed.neg P) = Ed.add cvN (Ed.O pN) (Ed.neg P) := congrArg (fun X => Ed.add cvN X (Ed.neg P)) e2
      rwa [Ed.add_assoc cvN hT hP hPn, Ed.add_neg cvN hP, Ed.add_O cvN hT, Ed.add_comm cvN (Ed.O pN), Ed.add_O cvN hPn] at e3
    rw [e4]
    rfl

theorem lad_rep {P : Ed.Pt pN} (hP : Ed.On cvN P) {x : Nat} (hx : x < pN) (hx0 : fi x ≠ 0) (hx1 : fi x * (1 - P.y) = 1 + P.y) {n : Nat} (hn : n < 2 ^ 255) : ∀ m, m ≤ 255 →
    Ed.Rep (fi (ladT x n m).a) (fi (ladT x n m).b) (Ed.mul cvN P (n / 2 ^ (255 - m))).y ∧ Ed.Rep (fi (ladT x n m).c) (fi (ladT x n m).d) (Ed.mul cvN P (n / 2 ^ (255 - m) + 1)).y
  | 0, _ => by
    rw [show n / 2 ^ (255 - 0) = 0 from Nat.div_eq_of_lt hn]
    refine ⟨⟨.inl ?_, ?_⟩, ⟨.inr ?_, ?_⟩⟩
    · show fi 1 ≠ 0
      decide +kernel
    · show fi 1 * (1 - 1) = fi 0 * (1 + 1)
      decide +kernel
    · show fi 1 ≠ 0
      decide +kernel
    · rw [show (0 + 1) = 1 from rfl, Ed.mul_one cvN hP]
      show fi x * (1 - P.y) = fi 1 * (1 + P.y)
      rw [hx1]
      have : fi 1 = 1 := rfl
      rw [this, Fin.one_mul]
  | m + 1, hm => by
    obtain ⟨i1, i2⟩ := lad_rep hP hx hx0 hx1 hn m (by omega)
    have hl := lad_low hx n m
    obtain ⟨k, hk⟩ : ∃ k, n / 2 ^ (255 - m) = k := ⟨_, rfl⟩
    obtain ⟨t, ht⟩ : ∃ t, n / 2 ^ (254 - m) % 2 = t := ⟨_, rfl⟩
    have hk1 : n / 2 ^ (255 - (m + 1)) = 2 * k + t := by
      have e : 255 - m = (254 - m) + 1 := by omega
      rw [show 255 - (m + 1) = 254 - m by omega, ← hk, ← ht, e, Nat.pow_succ, ← Nat.div_div_eq_div_mul]
      omega
    rw [hk1]
    rw [hk] at i1 i2
    show Ed.Rep (fi ((stepN x ((ladT x n m).swp (n / 2 ^ (254 - m) % 2))).swp (n / 2 ^ (254 - m) % 2)).a) (fi ((stepN x ((ladT x n m).swp (n / 2 ^ (254 - m) % 2))).swp (n / 2 ^ (254 - m) % 2)).b) _ ∧ Ed.Rep (fi ((stepN x ((ladT x n m).swp (n / 2 ^ (254 - m) % 2))).swp (n / 2 ^ (254 - m) % 2)).c) (fi ((stepN x ((ladT x n m).swp (n / 2 ^ (254 - m) % 2))).swp (n / 2 ^ (254 - m) % 2)).d) _
    rw [ht]
    have htt : t = 0 ∨ t = 1 := by omega
    have ok := on_k hP k
    have ok1 := on_k hP (k + 1)
    rcases htt with rfl | rfl
    · have e0 : ∀ v : St, v.swp 0 = v := fun v => rfl
      rw [e0, e0]
      obtain ⟨r1, r2⟩ := step_rep hl hx0 hx1 ok ok1 i1 i2 (diff_y hP k).2
      rw [← Ed.mul_add cvN hP] at r1 r2
      rw [show 2 * k + 0 = k + k by omega, show k + k + 1 = k + (k + 1) by omega]
      exact ⟨r1, r2⟩
    · have e1 : ∀ v : St, v.swp 1 = ⟨v.c, v.d, v.a, v.b⟩ := fun v => rfl
      rw [e1 (ladT x n m), e1]
      obtain ⟨r1, r2⟩ := step_rep (v := ⟨(ladT x n m).c, (ladT x n m).d, (ladT x n m).a, (ladT x n m).b⟩) ⟨hl.2.2.1, hl.2.2.2, hl.1, hl.2.1⟩ hx0 hx1 ok1 ok i2 i1 (diff_y hP k).1
      rw [← Ed.mul_add cvN hP] at r1 r2
      rw [show 2 * k + 1 = k + 1 + k by omega, show k + 1 + k + 1 = k + 1 + (k + 1) by omega]
      exact ⟨r2, r1⟩

theorem clamp_lt' (k : Nat) : clampN k < 2 ^ 255 := by
  unfold clampN
  have := Nat.mod_lt (k - k % 8) (show 0 < 2 ^ 254 by decide)
  omega
theorem clamp_top' (k : Nat) : clampN k / 2 ^ 254 % 2 = 1 := by
  unfold clampN
  have := Nat.mod_lt (k - k % 8) (show 0 < 2 ^ 254 by decide)
  omega
theorem self_sub' {q : Nat} : (q + pN - q) % pN = 0 := by rw [Nat.add_sub_cancel_left, Nat.mod_self]
theorem inf_dbl (x : Nat) {v : St} (hb : v.b = 0) : (stepN x v).b = 0 := by
  simp only [stepN]
  rw [hb]
  have e : (v.a + pN - 0) % pN = (v.a + 0) % pN := by rw [Nat.sub_zero, Nat.add_mod_right]; rfl
  rw [e, self_sub', Nat.zero_mul, Nat.zero_mod]
theorem nil_d (v : St) : (stepN 0 v).d = 0 := by simp only [stepN]; rw [Nat.zero_mul, Nat.zero_mod]
theorem nil_b : (stepN 0 ⟨0, 1, 1, 0⟩).b = 0 := by decide +kernel
theorem sw0 (v : St) : v.swp 0 = v := rfl
theorem sw1 (v : St) : v.swp 1 = ⟨v.c, v.d, v.a, v.b⟩ := rfl
theorem lad_one (n : Nat) : ladT 0 n 1 = (stepN 0 (St.swp (n / 2 ^ 254 % 2) ⟨1, 0, 0, 1⟩)).swp (n / 2 ^ 254 % 2) := rfl
theorem lad_next (x n m : Nat) : ladT x n (m + 1) = (stepN x ((ladT x n m).swp (n / 2 ^ (254 - m) % 2))).swp (n / 2 ^ (254 - m) % 2) := rfl
theorem nil_all {n : Nat} (h : n / 2 ^ 254 % 2 = 1) : ∀ m, (ladT 0 n (m + 1)).b = 0 ∧ (ladT 0 n (m + 1)).d = 0
  | 0 => by
    rw [lad_one, h, sw1, sw1]
    exact ⟨nil_d ⟨0, 1, 1, 0⟩, nil_b⟩
  | m + 1 => by
    obtain ⟨h1, h2⟩ := nil_all h m
    rw [lad_next]
    have htt : n / 2 ^ (254 - (m + 1)) % 2 = 0 ∨ n / 2 ^ (254 - (m + 1)) % 2 = 1 := by omega
    rcases htt with e | e
    · rw [e, sw0, sw0]
      exact ⟨inf_dbl 0 h1, nil_d _⟩
    · rw [e, sw1 (ladT 0 n (m + 1)), sw1]
      exact ⟨nil_d _, inf_dbl 0 (v := ⟨(ladT 0 n (m + 1)).c, (ladT 0 n (m + 1)).d, (ladT 0 n (m + 1)).a, (ladT 0 n (m + 1)).b⟩) h2⟩
theorem nil_mul {k u : Nat} (hu : u % 2 ^ 255 % pN = 0) : lmulN k u = 0 := by
  refine lmul_nil ?_
  rw [hu]
  exact (nil_all (clamp_top' k) 254).1

/-- Points that no number stands for. -/
theorem U_zero {P : Ed.Pt pN} (hP : Ed.On cvN P) (h : Ed.U cvN P = 0) (n : Nat) : Ed.U cvN (Ed.mul cvN P n) = 0 :=
  Ed.U_nil cvN hP h n

/-- What the ladder makes of a point's number. -/
theorem lmul_U {P : Ed.Pt pN} (hP : Ed.On cvN P) (k : Nat) {u : Nat} (hu : u < pN) (h : fi u = Ed.U cvN P) : fi (lmulN k u) = Ed.U cvN (Ed.mul cvN P (clampN k)) := by
  have hu2 : u % 2 ^ 255 % pN = u := by
    have : pN < 2 ^ 255 := by decide
    have e : u % 2 ^ 255 = u := Nat.mod_eq_of_lt (Nat.lt_trans hu this)
    rw [e, Nat.mod_eq_of_lt hu]
  by_cases h0 : u = 0
  · subst h0
    rw [nil_mul hu2, U_zero hP (by rw [← h]; rfl)]
    rfl
  · have hx0 : fi u ≠ 0 := fun e => h0 (fi_inj hu pN_pos (by rw [e]; rfl))
    have hy : 1 - P.y ≠ 0 := by
      intro e
      refine hx0 ?_
      rw [h, Ed.U, e]
      show _ * ivN 0 = 0
      rw [iv_zero, Fin.mul_zero]
    have hx1 : fi u * (1 - P.y) = 1 + P.y := by
      have := cvN.iv_mul _ hy
      rw [h, Ed.U, Fin.mul_assoc, Fin.mul_comm (cvN.iv _), this, Fin.mul_one]
    have hr := (lad_rep hP hu hx0 hx1 (clamp_lt' k) 255 (Nat.le_refl _)).1
    rw [show clampN k / 2 ^ (255 - 255) = clampN k from Nat.div_one _] at hr
    rw [← Ed.rep_U cvN hr, lmulN, hu2, fi_mul]
    congr 1
    show fi (_ % pN) = ivN _
    unfold ivN
    apply Fin.ext
    rw [fi_val, fi_val, fi_val, Nat.mod_mod, ← Nat.pow_mod]

/-- The base point. -/
def gN : Ed.Pt pN := ⟨fi 42783823269122696939284341094755422415180979639778424813682678720006717057747, fi 46316835694926478169428394003475163141307993866256225615783033603165251855960⟩
theorem g_on : Ed.On cvN gN := by
  show _ = _
  decide +kernel
theorem g_U : fi 9 = Ed.U cvN gN := by
  have h : (1 : Fin pN) - gN.y ≠ 0 := by decide +kernel
  have h1 : fi 9 * (1 - gN.y) = 1 + gN.y := by decide +kernel
  have h2 := cvN.iv_mul _ h
  rw [Ed.U, ← h1, Fin.mul_assoc, h2, Fin.mul_one]

theorem lmul_ltp (k u : Nat) : lmulN k u < pN := Nat.mod_lt _ pN_pos
/-- What a number's ladder makes, from nine on. -/
theorem lmul_one (a : Nat) : fi (lmulN a 9) = Ed.U cvN (Ed.mul cvN gN (clampN a)) := lmul_U g_on a (by decide) g_U
theorem lmul_two (a b : Nat) : fi (lmulN a (lmulN b 9)) = Ed.U cvN (Ed.mul cvN gN (clampN b * clampN a)) := by
  rw [lmul_U (on_k g_on (clampN b)) a (lmul_ltp _ _) (lmul_one b), Ed.mul_mul cvN g_on]
theorem lmul_three (a b c : Nat) : fi (lmulN a (lmulN b (lmulN c 9))) = Ed.U cvN (Ed.mul cvN gN (clampN c * clampN b * clampN a)) := by
  rw [lmul_U (on_k g_on (clampN c * clampN b)) a (lmul_ltp _ _) (lmul_two b c), Ed.mul_mul cvN g_on]
/-- Two come to one secret. -/
theorem lmul_swap (a b : Nat) : lmulN a (lmulN b 9) = lmulN b (lmulN a 9) :=
  fi_inj (lmul_ltp _ _) (lmul_ltp _ _) (by rw [lmul_two, lmul_two, Nat.mul_comm])
/-- Three do, in whichever order. -/
theorem lmul_turn (a b c : Nat) : lmulN a (lmulN b (lmulN c 9)) = lmulN c (lmulN a (lmulN b 9)) :=
  fi_inj (lmul_ltp _ _) (lmul_ltp _ _) (by rw [lmul_three, lmul_three, Nat.mul_comm (clampN b * clampN a) (clampN c), Nat.mul_assoc])

end Go.Proofs.Ytpjkhedodlnloaa
