import Derived.Test.YtmlmggmnlgcbcaaGreatJb29
import Derived.Test.YtmlmggmnlgcbcaaGreatJb21
import Derived.Test.YtmlmggmnlgcbcaaGreatJb22
import Derived.Test.YtmlmggmnlgcbcaaGreatJb25

namespace Go.Proofs.YtmlmggmnlgcbcaaGreat
open Go.RowKit
theorem pow_mod_c : 29203323570479832313932222820853031755424015489030106335172286495629888845891 ^ ((pN - 1) / 2) % pN = pN - 1 := Nt.pow_mod_of 256 (by decide) (by decide +kernel)
instance : NeZero pN := ⟨by decide⟩
/-- A number as one of the field. -/
def fi (n : Nat) : Fin pN := Fin.ofNat pN n
theorem fi_val (n : Nat) : (fi n).val = n % pN := rfl
theorem fi_add (a b : Nat) : fi ((a + b) % pN) = fi a + fi b := by
  apply Fin.ext
  rw [Fin.val_add, fi_val, fi_val, fi_val, Nat.mod_mod, Nat.add_mod]
theorem fi_mul (a b : Nat) : fi (a * b % pN) = fi a * fi b := by
  apply Fin.ext
  rw [Fin.val_mul, fi_val, fi_val, fi_val, Nat.mod_mod, Nat.mul_mod]
theorem fi_sub {a b : Nat} (hb : b < pN) : fi ((a + pN - b) % pN) = fi a - fi b := by
  apply Fin.ext
  rw [Fin.val_sub, fi_val, fi_val, fi_val, Nat.mod_mod, Nat.mod_eq_of_lt hb, Nat.add_mod_mod]
  congr 1
  omega
theorem fi_inj {a b : Nat} (ha : a < pN) (hb : b < pN) (h : fi a = fi b) : a = b := by
  have := congrArg Fin.val h
  rwa [fi_val, fi_val, Nat.mod_eq_of_lt ha, Nat.mod_eq_of_lt hb] at this
/-- What undoes a product. -/
def ivN (a : Fin pN) : Fin pN := fi (a.val ^ (pN - 2))
theorem iv_zero : ivN 0 = 0 := by
  unfold ivN
  have : ((0 : Fin pN).val) = 0 := rfl
  rw [this, Nat.zero_pow (by decide)]
  rfl
theorem iv_mul {a : Fin pN} (h : a ≠ 0) : a * ivN a = 1 := by
  have h0 : a.val % pN ≠ 0 := by
    rw [Nat.mod_eq_of_lt a.isLt]
    intro e
    exact h (Fin.ext e)
  have h1 := fermat_p h0
  apply Fin.ext
  rw [Fin.val_mul]
  unfold ivN
  rw [fi_val, Nat.mul_mod_mod, ← Nat.pow_succ']
  have : pN - 2 + 1 = pN - 1 := by decide
  rw [show Nat.succ (pN - 2) = pN - 1 from this, h1]
  rfl
def cN : Fin pN := fi 29203323570479832313932222820853031755424015489030106335172286495629888845891
theorem c_nsq (x : Fin pN) : x * x ≠ cN := by
  intro h
  have hv := congrArg Fin.val h
  rw [Fin.val_mul] at hv
  have hc : cN.val = 29203323570479832313932222820853031755424015489030106335172286495629888845891 := by decide +kernel
  rw [hc] at hv
  have hx : x.val % pN ≠ 0 := by
    intro e
    rw [Nat.mul_mod, e, Nat.mul_zero, Nat.zero_mod] at hv
    exact absurd hv (by decide)
  have h1 := fermat_p hx
  have h2 := pow_mod_c
  rw [← hv, ← Nat.pow_mod, ← Nat.pow_two, ← Nat.pow_mul, show 2 * ((pN - 1) / 2) = pN - 1 by decide, h1] at h2
  exact absurd h2 (by decide)
def cvN : Ed.Cv pN where
  c := cN
  i := fi 19681161376707505956807079304988542015446066515923890162744021073123829784752
  h := fi 28948022309329048855892746252171976963317496166410141009864396001978282409975
  iv := ivN
  iv_mul := fun _ h => iv_mul h
  iv0 := iv_zero
  two := by decide +kernel
  one := by decide +kernel
  ii := by decide +kernel
  nsq := c_nsq
  ladder := by decide +kernel
  nz := by decide +kernel
/-- A round's pairs. -/
theorem step_rep {x : Nat} {v : St} (hv : v.low) (hx0 : fi x ≠ 0) {y1 : Fin pN} (hx1 : fi x * (1 - y1) = 1 + y1) {P Q : Ed.Pt pN} (hP : Ed.On cvN P) (hQ : Ed.On cvN Q) (h1 : Ed.Rep (fi v.a) (fi v.b) P.y) (h2 : Ed.Rep (fi v.c) (fi v.d) Q.y)
    (hy1 : (Ed.add cvN P (Ed.neg Q)).y = y1) : Ed.Rep (fi (stepN x v).a) (fi (stepN x v).b) (Ed.add cvN P P).y ∧ Ed.Rep (fi (stepN x v).c) (fi (stepN x v).d) (Ed.add cvN P Q).y := by
  have hm := fun n : Nat => Nat.mod_lt n pN_pos
  refine ⟨?_, ?_⟩
  · have := Ed.rep_double cvN hP h1
    simp only [stepN, fi_mul, fi_add, fi_sub (hm _), fi_sub hv.2.1]
    exact this
  · have := Ed.rep_diff cvN hP hQ h1 h2 hx0 hx1 hy1
    simp only [stepN, fi_mul, fi_add, fi_sub (hm _), fi_sub hv.2.1, fi_sub hv.2.2.2]
    exact this
theorem on_k {P : Ed.Pt pN} (hP : Ed.On cvN P) (k : Nat) : Ed.On cvN (Ed.mul cvN P k) := Ed.on_mul cvN hP k
theorem diff_y {P : Ed.Pt pN} (hP : Ed.On cvN P) (k : Nat) : (Ed.add cvN (Ed.mul cvN P (k + 1)) (Ed.neg (Ed.mul cvN P k))).y = P.y ∧ (Ed.add cvN (Ed.mul cvN P k) (Ed.neg (Ed.mul cvN P (k + 1)))).y = P.y := by
  have hk := on_k hP k
  have hn := Ed.on_neg cvN hk
  refine ⟨?_, ?_⟩
  · show (Ed.add cvN (Ed.add cvN (Ed.mul cvN P k) P) (Ed.neg (Ed.mul cvN P k))).y = P.y
    rw [Ed.add_comm cvN (Ed.mul cvN P k) P, Ed.add_assoc cvN hP hk hn, Ed.add_neg cvN hk, Ed.add_O cvN hP]
  · have hs := Ed.on_add cvN hk hP
    have hsn := Ed.on_neg cvN hs
    have hT := Ed.on_add cvN hk hsn
    have hO := Ed.on_O cvN
    have hPn := Ed.on_neg cvN hP
    -- T + (A + P) = A
    have e1 : Ed.add cvN (Ed.add cvN (Ed.mul cvN P k) (Ed.neg (Ed.add cvN (Ed.mul cvN P k) P))) (Ed.add cvN (Ed.mul cvN P k) P) = Ed.mul cvN P k := by
      rw [Ed.add_assoc cvN hk hsn hs, Ed.add_comm cvN (Ed.neg _), Ed.add_neg cvN hs, Ed.add_O cvN hk]
    show (Ed.add cvN (Ed.mul cvN P k) (Ed.neg (Ed.add cvN (Ed.mul cvN P k) P))).y = P.y
    generalize Ed.add cvN (Ed.mul cvN P k) (Ed.neg (Ed.add cvN (Ed.mul cvN P k) P)) = T at *
    have e2 : Ed.add cvN T P = Ed.O pN := by
      have e3 : Ed.add cvN (Ed.neg (Ed.mul cvN P k)) (Ed.add cvN T (Ed.add cvN (Ed.mul cvN P k) P)) = Ed.add cvN (Ed.neg (Ed.mul cvN P k)) (Ed.mul cvN P k) := congrArg (fun X => Ed.add cvN (Ed.neg (Ed.mul cvN P k)) X) e1
      rw [Ed.add_comm cvN _ (Ed.mul cvN P k), Ed.add_neg cvN hk, Ed.add_comm cvN (Ed.mul cvN P k) P, ← Ed.add_assoc cvN hT hP hk, Ed.add_comm cvN _ (Ed.mul cvN P k), ← Ed.add_assoc cvN hn hk (Ed.on_add cvN hT hP), Ed.add_comm cvN _ (Ed.mul cvN P k), Ed.add_neg cvN hk, Ed.add_comm cvN (Ed.O pN), Ed.add_O cvN (Ed.on_add cvN hT hP)] at e3
      exact e3
    have e4 : T = Ed.neg P := by
      have e3 : Ed.add cvN (Ed.add cvN T P) (Ed.neg P) = Ed.add cvN (Ed.O pN) (Ed.neg P) := congrArg (fun X => Ed.add cvN X (Ed.neg P)) e2
      rwa [Ed.add_assoc cvN hT hP hPn, Ed.add_neg cvN hP, Ed.add_O cvN hT, Ed.add_comm cvN (Ed.O pN), Ed.add_O cvN hPn] at e3
    rw [e4]
    rfl
theorem lad_rep {P : Ed.Pt pN} (hP : Ed.On cvN P) {x : Nat} (hx : x < pN) (hx0 : fi x ≠ 0) (hx1 : fi x * (1 - P.y) = 1 + P.y) {n : Nat} (hn : n < 2 ^ 255) : ∀ m, m ≤ 255 →
    Ed.Rep (fi (ladT x n m).a) (fi (ladT x n m).b) (Ed.mul cvN P (n / 2 ^ (255 - m))).y ∧ Ed.Rep (fi (ladT x n m).c) (fi (ladT x n m).d) (Ed.mul cvN P (n / 2 ^ (255 - m) + 1)).y
  | 0, _ => by
    rw [show n / 2 ^ (255 - 0) = 0 from Nat.div_eq_of_lt hn]
    refine ⟨⟨.inl ?_, ?_⟩, ⟨.inr ?_, ?_⟩⟩
    · show fi 1 ≠ 0
      decide +kernel
    · show fi 1 * (1 - 1) = fi 0 * (1 + 1)
      decide +kernel
    · show fi 1 ≠ 0
      decide +kernel
    · rw [show (0 + 1) = 1 from rfl, Ed.mul_one cvN hP]
      show fi x * (1 - P.y) = fi 1 * (1 + P.y)
      rw [hx1]
      have : fi 1 = 1 := rfl
      rw [this, Fin.one_mul]
  | m + 1, hm => by
    obtain ⟨i1, i2⟩ := lad_rep hP hx hx0 hx1 hn m (by omega)
    have hl := lad_low hx n m
    obtain ⟨k, hk⟩ : ∃ k, n / 2 ^ (255 - m) = k := ⟨_, rfl⟩
    obtain ⟨t, ht⟩ : ∃ t, n / 2 ^ (254 - m) % 2 = t := ⟨_, rfl⟩
    have hk1 : n / 2 ^ (255 - (m + 1)) = 2 * k + t := by
      have e : 255 - m = (254 - m) + 1 := by omega
      rw [show 255 - (m + 1) = 254 - m by omega, ← hk, ← ht, e, Nat.pow_succ, ← Nat.div_div_eq_div_mul]
      omega
    rw [hk1]
    rw [hk] at i1 i2
    show Ed.Rep (fi ((stepN x ((ladT x n m).swp (n / 2 ^ (254 - m) % 2))).swp (n / 2 ^ (254 - m) % 2)).a) (fi ((stepN x ((ladT x n m).swp (n / 2 ^ (254 - m) % 2))).swp (n / 2 ^ (254 - m) % 2)).b) _ ∧ Ed.Rep (fi ((stepN x ((ladT x n m).swp (n / 2 ^ (254 - m) % 2))).swp (n / 2 ^ (254 - m) % 2)).c) (fi ((stepN x ((ladT x n m).swp (n / 2 ^ (254 - m) % 2))).swp (n / 2 ^ (254 - m) % 2)).d) _
    rw [ht]
    have htt : t = 0 ∨ t = 1 := by omega
    have ok := on_k hP k
    have ok1 := on_k hP (k + 1)
    rcases htt with rfl | rfl
    · have e0 : ∀ v : St, v.swp 0 = v := fun v => rfl
      rw [e0, e0]
      obtain ⟨r1, r2⟩ := step_rep hl hx0 hx1 ok ok1 i1 i2 (diff_y hP k).2
      rw [← Ed.mul_add cvN hP] at r1 r2
      rw [show 2 * k + 0 = k + k by omega, show k + k + 1 = k + (k + 1) by omega]
      exact ⟨r1, r2⟩
    · have e1 : ∀ v : St, v.swp 1 = ⟨v.c, v.d, v.a, v.b⟩ := fun v => rfl
      rw [e1 (ladT x n m), e1]
      obtain ⟨r1, r2⟩ := step_rep (v := ⟨(ladT x n m).c, (ladT x n m).d, (ladT x n m).a, (ladT x n m).b⟩) ⟨hl.2.2.1, hl.2.2.2, hl.1, hl.2.1⟩ hx0 hx1 ok1 ok i2 i1 (diff_y hP k).1
      rw [← Ed.mul_add cvN hP] at r1 r2
      rw [show 2 * k + 1 = k + 1 + k by omega, show k + 1 + k + 1 = k + 1 + (k + 1) by omega]
      exact ⟨r2, r1⟩
theorem clamp_lt' (k : Nat) : clampN k < 2 ^ 255 := by
  unfold clampN
  have := Nat.mod_lt (k - k % 8) (show 0 < 2 ^ 254 by decide)
  omega
theorem clamp_top' (k : Nat) : clampN k / 2 ^ 254 % 2 = 1 := by
  unfold clampN
  have := Nat.mod_lt (k - k % 8) (show 0 < 2 ^ 254 by decide)
  omega
theorem self_sub' {q : Nat} : (q + pN - q) % pN = 0 := by rw [Nat.add_sub_cancel_left, Nat.mod_self]
theorem inf_dbl (x : Nat) {v : St} (hb : v.b = 0) : (stepN x v).b = 0 := by
  simp only [stepN]
  rw [hb]
  have e : (v.a + pN - 0) % pN = (v.a + 0) % pN := by rw [Nat.sub_zero, Nat.add_mod_right]; rfl
  rw [e, self_sub', Nat.zero_mul, Nat.zero_mod]
theorem nil_d (v : St) : (stepN 0 v).d = 0 := by simp only [stepN]; rw [Nat.zero_mul, Nat.zero_mod]
theorem nil_b : (stepN 0 ⟨0, 1, 1, 0⟩).b = 0 := by decide +kernel
theorem sw0 (v : St) : v.swp 0 = v := rfl
theorem sw1 (v : St) : v.swp 1 = ⟨v.c, v.d, v.a, v.b⟩ := rfl
theorem lad_one (n : Nat) : ladT 0 n 1 = (stepN 0 (St.swp (n / 2 ^ 254 % 2) ⟨1, 0, 0, 1⟩)).swp (n / 2 ^ 254 % 2) := rfl
theorem lad_next (x n m : Nat) : ladT x n (m + 1) = (stepN x ((ladT x n m).swp (n / 2 ^ (254 - m) % 2))).swp (n / 2 ^ (254 - m) % 2) := rfl
theorem nil_all {n : Nat} (h : n / 2 ^ 254 % 2 = 1) : ∀ m, (ladT 0 n (m + 1)).b = 0 ∧ (ladT 0 n (m + 1)).d = 0
  | 0 => by
    rw [lad_one, h, sw1, sw1]
    exact ⟨nil_d ⟨0, 1, 1, 0⟩, nil_b⟩
  | m + 1 => by
    obtain ⟨h1, h2⟩ := nil_all h m
    rw [lad_next]
    have htt : n / 2 ^ (254 - (m + 1)) % 2 = 0 ∨ n / 2 ^ (254 - (m + 1)) % 2 = 1 := by omega
    rcases htt with e | e
    · rw [e, sw0, sw0]
      exact ⟨inf_dbl 0 h1, nil_d _⟩
    · rw [e, sw1 (ladT 0 n (m + 1)), sw1]
      exact ⟨nil_d _, inf_dbl 0 (v := ⟨(ladT 0 n (m + 1)).c, (ladT 0 n (m + 1)).d, (ladT 0 n (m + 1)).a, (ladT 0 n (m + 1)).b⟩) h2⟩
theorem nil_mul {k u : Nat} (hu : u % 2 ^ 255 % pN = 0) : lmulN k u = 0 := by
  refine lmul_nil ?_
  rw [hu]
  exact (nil_all (clamp_top' k) 254).1
/-- Points that no number stands for. -/
theorem U_zero {P : Ed.Pt pN} (hP : Ed.On cvN P) (h : Ed.U cvN P = 0) (n : Nat) : Ed.U cvN (Ed.mul cvN P n) = 0 :=
  Ed.U_nil cvN hP h n
/-- What the ladder makes of a point's number. -/
theorem lmul_U {P : Ed.Pt pN} (hP : Ed.On cvN P) (k : Nat) {u : Nat} (hu : u < pN) (h : fi u = Ed.U cvN P) : fi (lmulN k u) = Ed.U cvN (Ed.mul cvN P (clampN k)) := by
  have hu2 : u % 2 ^ 255 % pN = u := by
    have : pN < 2 ^ 255 := by decide
    have e : u % 2 ^ 255 = u := Nat.mod_eq_of_lt (Nat.lt_trans hu this)
    rw [e, Nat.mod_eq_of_lt hu]
  by_cases h0 : u = 0
  · subst h0
    rw [nil_mul hu2, U_zero hP (by rw [← h]; rfl)]
    rfl
  · have hx0 : fi u ≠ 0 := fun e => h0 (fi_inj hu pN_pos (by rw [e]; rfl))
    have hy : 1 - P.y ≠ 0 := by
      intro e
      refine hx0 ?_
      rw [h, Ed.U, e]
      show _ * ivN 0 = 0
      rw [iv_zero, Fin.mul_zero]
    have hx1 : fi u * (1 - P.y) = 1 + P.y := by
      have := cvN.iv_mul _ hy
      rw [h, Ed.U, Fin.mul_assoc, Fin.mul_comm (cvN.iv _), this, Fin.mul_one]
    have hr := (lad_rep hP hu hx0 hx1 (clamp_lt' k) 255 (Nat.le_refl _)).1
    rw [show clampN k / 2 ^ (255 - 255) = clampN k from Nat.div_one _] at hr
    rw [← Ed.rep_U cvN hr, lmulN, hu2, fi_mul]
    congr 1
    show fi (_ % pN) = ivN _
    unfold ivN
    apply Fin.ext
    rw [fi_val, fi_val, fi_val, Nat.mod_mod, ← Nat.pow_mod]
/-- The base point. -/
def gN : Ed.Pt pN := ⟨fi 42783823269122696939284341094755422415180979639778424813682678720006717057747, fi 46316835694926478169428394003475163141307993866256225615783033603165251855960⟩
theorem g_on : Ed.On cvN gN := by
  show _ = _
  decide +kernel
theorem g_U : fi 9 = Ed.U cvN gN := by
  have h : (1 : Fin pN) - gN.y ≠ 0 := by decide +kernel
  have h1 : fi 9 * (1 - gN.y) = 1 + gN.y := by decide +kernel
  have h2 := cvN.iv_mul _ h
  rw [Ed.U, ← h1, Fin.mul_assoc, h2, Fin.mul_one]
theorem lmul_ltp (k u : Nat) : lmulN k u < pN := Nat.mod_lt _ pN_pos
/-- What a number's ladder makes, from nine on. -/
theorem lmul_one (a : Nat) : fi (lmulN a 9) = Ed.U cvN (Ed.mul cvN gN (clampN a)) := lmul_U g_on a (by decide) g_U
theorem lmul_two (a b : Nat) : fi (lmulN a (lmulN b 9)) = Ed.U cvN (Ed.mul cvN gN (clampN b * clampN a)) := by
  rw [lmul_U (on_k g_on (clampN b)) a (lmul_ltp _ _) (lmul_one b), Ed.mul_mul cvN g_on]
/-- Two come to one secret. -/
theorem lmul_swap (a b : Nat) : lmulN a (lmulN b 9) = lmulN b (lmulN a 9) :=
  fi_inj (lmul_ltp _ _) (lmul_ltp _ _) (by rw [lmul_two, lmul_two, Nat.mul_comm])
end Go.Proofs.YtmlmggmnlgcbcaaGreat


namespace Go.Proofs.YtmlmggmnlgcbcaaGreat
open Go.RowKit Go.ChangeShapes Go.WideShapes
set_option maxRecDepth 100000 in
/-- A nonce. -/
theorem in_nonce {H : Type} {enc : TypeId × Value → H} {w : World} {r : Reach} {b0 : Nat} {v : Value} {d : DataW H} {p : List MemPlace}
    (hval : Value.okWide Tryz.prog w r b0 25 v) (h : DataW.Trod enc Tryz.prog w 0 (fun _ => true) true 25 v d p) : ∃ n : Nat, v = .agg (bytn 12 n).toArray := by
  obtain ⟨ds, h1, h2, rfl⟩ := in_arr (n := 12) Tryz.underlying25 Tryz.underlying5 (by kernel_rfl) (by kernel_rfl) hval h
  refine ⟨val 256 ds, ?_⟩
  have := digs_val 256 (by decide) ds h2
  rw [h1] at this
  rw [bytn, this]
theorem open_seal (k n : Nat) (bs : List UInt8) (l1 : bs.length ≤ 50000) (g c : Nat) (w : World) (hs : Sl w (.slice (some ⟨g, 0, none⟩) (sealB k n bs).length c) (u8s (sealB k n bs))) :
    Calls Tryz.prog 10 #[.agg (bytn 32 k).toArray, .agg (bytn 12 n).toArray, .slice (some ⟨g, 0, none⟩) (sealB k n bs).length c, .slice none 0 0] w fun e w' =>
      ∃ g', e = .returned (.tuple #[.slice (some ⟨g', 0, none⟩) bs.length bs.length, .int .i64 0]) ∧ Arr w' g' (u8s bs) ∧ Below w.heap.size w w' := by
  have q := aopen_any k n (some ⟨g, 0, none⟩) none c 0 (sealB k n bs) [] (by rw [sealB_len]; omega) (by decide) (by rw [sealB_len]; omega) w hs (Sl.nil _)
  rw [sealB_take, sealB_drop, sealB_len, Nat.add_sub_cancel] at q
  rw [sealB_len]
  refine q.mono ?_
  rintro e w' ⟨h, hb⟩
  unfold ORet at h
  rw [if_pos rfl, trB_twice] at h
  obtain ⟨g', rfl, -, hg⟩ := h
  exact ⟨g', rfl, hg, hb⟩
set_option maxHeartbeats 4000000 in
set_option maxRecDepth 100000 in
theorem topSecret_walk (a b nn : Nat) (av : Option Addr) (cap : Nat) (bs : List UInt8) (w : World) (ha : a < 256 ^ 32) (hb : b < 256 ^ 32) (hs : Sl w (.slice av bs.length cap) (u8s bs)) :
    Calls Tryz.prog 3 #[.agg (byts a).toArray, .agg (byts b).toArray, .agg (bytn 12 nn).toArray, .slice av bs.length cap] w fun e w' => e = .returned (.bool true) ∧ Below w.heap.size w w' := by
  obtain ⟨p, hp⟩ : ∃ r, lmulN a 9 = r := ⟨_, rfl⟩
  obtain ⟨q, hq⟩ : ∃ r, lmulN b 9 = r := ⟨_, rfl⟩
  have lp : p < 256 ^ 32 := hp ▸ lmul_lt _ _
  have lq : q < 256 ^ 32 := hq ▸ lmul_lt _ _
  obtain ⟨s, hs0⟩ : ∃ r, lmulN a q = r := ⟨_, rfl⟩
  have ht : lmulN b p = s := by rw [← hs0, ← hp, ← hq, lmul_swap]
  have ls : s < 256 ^ 32 := hs0 ▸ lmul_lt _ _
  have q2 := Lib.hid (eq_num (m := s) (n := s) (b := true) (decide_eq_true rfl) ls ls)
  obtain ⟨e0, he0⟩ : ∃ e0 : Int, e0 = if s = 0 then 21 else 0 := ⟨_, rfl⟩
  have c1 := Lib.hid (fun w => lpublic_r (Lib.hid hp) ha w)
  have c2 := Lib.hid (fun w => lpublic_r (Lib.hid hq) hb w)
  have c4 := Lib.hid (fun w => lshared_r (Lib.hid hs0) ha lq he0 w)
  have c5 := Lib.hid (fun w => lshared_r (Lib.hid ht) hb lp he0 w)
  have hse : e0 = 21 ∨ e0 = 0 := by
    by_cases h : s = 0
    · rw [if_pos h] at he0; exact .inl he0
    · rw [if_neg h] at he0; exact .inr he0
  clear hp hq hs0 ht lp lq ls ha hb he0
  have hsl := Lib.hid hs
  have hlen := hs.len
  rw [u8s_len] at hlen
  clear hs
  obtain ⟨L, hL⟩ : ∃ L, bs.length = L := ⟨_, rfl⟩
  rw [hL] at hlen hsl ⊢
  replace hL := Lib.hid hL
  go_enter Tryz.func3, Tryz.ntmps3
  go_upto_region 1 with fail
  refine wp_new3 (fun W hsz k4 k5 k6 kb => ?_)
  have k6 : Arr W (w.heap.size + 1 + 1) (bytn 12 nn) := k6
  clear hsz
  go_wp2_with fail
  refine (works_any _).mono ?_
  rintro e w1 ⟨rfl, hb⟩
  replace k4 := k4.below hb
  replace k5 := k5.below hb
  replace k6 := k6.below hb
  replace kb := bel kb hb
  clear hb
  by_cases h3 : 300 < (L : Int)
  · go_wp2_with fail
    go_ret
    exact ⟨rfl, kb⟩
  have h3' : (L : Int) ≤ 300 := by omega
  go_upto_region 4 with (first | (refine wpList_load_arr2 rfl _ _ rfl _ rfl (by decide +kernel) _ (by assumption) (by first | (rw [lims_len]; kernel_rfl) | (rw [el_rep]; kernel_rfl) | (rw [el_len]; kernel_rfl) | (rw [byts_len]; kernel_rfl) | (rw [us_len]; kernel_rfl) | (rw [bytn_len]; kernel_rfl) | (rw [ens_len, digs_len]; kernel_rfl) | kernel_rfl) ?_) | (refine wpList_store_arr rfl _ _ _ rfl _ _ rfl rfl _ (by first | assumption | exact Arr.new _ _ _) (by first | (rw [lims_len]; kernel_rfl) | (rw [el_rep]; kernel_rfl) | (rw [el_len]; kernel_rfl) | (rw [byts_len]; kernel_rfl) | (rw [us_len]; kernel_rfl) | (rw [bytn_len]; kernel_rfl) | (rw [ens_len, digs_len]; kernel_rfl) | kernel_rfl) (by first | (rw [lims_len, lims_len]) | (rw [el_rep, el_rep]) | (rw [el_rep, el_len]; rfl) | (rw [el_len, el_rep]; rfl) | (rw [el_len, el_len]; rfl) | (rw [byts_len, byts_len]) | (rw [lims_len]; rfl) | (rw [byts_len]; rfl) | (rw [us_len, us_len]; rfl) | (rw [bytn_len, bytn_len]) | (rw [bytn_len]; rfl) | (rw [ens_len, ens_len, digs_len, digs_len]) | rfl) (by first | exact lims_one _ _ | exact el_one _ | exact byts_one _ | exact us_one _ | exact bytn_one _ _ | exact ens_one _ | (intro v hv; simp at hv; rcases hv with rfl | rfl | rfl | rfl <;> rfl)) ?_))
  refine Tx.start (fun w' => Below (w1).heap.size (w1) w') 8 10 rfl (by kernel_rfl) ?_
  have hS_1 : Below (w1).heap.size (w1) (World.drew w1) := (Below.refl _ _).drew
  refine Tx.seg2 (A := ?_) 8 3 (by kernel_rfl) (by exact hS_1) [0, 1] (by kernel_rfl) ?_ ?_
  rotate_left
  · intro w' hB
    have y0 := k4.below hB
    have y1 := k5.below hB
    have y2 := k6.below hB
    iterate 2 (first | (refine rd_skip rfl rfl ?_; simp only [Act.put, List.setIfInBounds_toArray, List.set_cons_zero, List.set_cons_succ]) | (refine rd_load_arr rfl rfl _ _ rfl _ rfl (by decide +kernel) _ (by assumption) (by first | (rw [lims_len]; kernel_rfl) | (rw [el_rep]; kernel_rfl) | (rw [el_len]; kernel_rfl) | (rw [byts_len]; kernel_rfl) | (rw [us_len]; kernel_rfl) | (rw [bytn_len]; kernel_rfl) | (rw [ens_len, digs_len]; kernel_rfl) | kernel_rfl) ?_; simp only [Act.put, List.setIfInBounds_toArray, List.set_cons_zero, List.set_cons_succ]) | (refine rd_take (v := ?_) rfl rfl ?_ ?_; rotate_left; (focus (go_simp; try (with_reducible rfl))); simp only [Act.put, List.setIfInBounds_toArray, List.set_cons_zero, List.set_cons_succ]))
    exact rd_nil
  refine Tx.poolB 2 255 [(2, 29), (3, 30), (4, 26), (5, 31), (6, 32), (7, 10)] [(false, []), (false, [(2, 29)]), (true, [(3, 30)]), (true, [(4, 26)]), (true, [(4, 26)]), (false, [])] [(2, Ph.is (.agg (byts q).toArray)), (3, Ph.is (.tuple #[.agg (byts s).toArray, .int .i64 e0])), (4, Ph.is (.tuple #[.agg (byts s).toArray, .int .i64 e0])), (5, Ph.is (.agg (byts s).toArray)), (6, Ph.is (.int .i64 e0)), (7, Ph.arr (w1).heap.size (byts 0))] (by kernel_rfl) (by kernel_rfl) (by first | assumption | exact (Below.refl _ _).drew) ?_ ?_
  · refine ⟨⟨_, rfl, ?_⟩, ⟨_, rfl, ?_⟩, ⟨_, rfl, ?_⟩, ⟨_, rfl, ?_⟩, ⟨_, rfl, ?_⟩, ⟨_, rfl, ?_⟩, trivial⟩
    · intro vs w1 hS hE hD K hK
      clear hD
      simp only [fillL, Act.put, List.setIfInBounds_toArray, List.set_cons_zero, List.set_cons_succ] at hK ⊢
      go_simp
      refine (c2.out _).mono ?_
      rintro e w2 ⟨rfl, hb2⟩
      exact hK _ _ rfl hb2 nofun
    · intro vs w1 hS hE hD K hK
      obtain ⟨q2, -⟩ := hD
      simp only [fillL, Act.put, List.setIfInBounds_toArray, List.set_cons_zero, List.set_cons_succ] at hK ⊢
      rw [show vs 2 = _ from q2] at hK ⊢
      clear q2
      go_simp
      refine (c4.out _).mono ?_
      rintro e w2 ⟨rfl, hb2⟩
      exact hK _ _ rfl hb2 nofun
    · intro vs w1 hS hE hD
      obtain ⟨q3, -⟩ := hD
      simp only [fillL, Act.put, List.setIfInBounds_toArray, List.set_cons_zero, List.set_cons_succ] at ⊢
      rw [show vs 3 = _ from q3] at ⊢
      clear q3
      refine ⟨_, rfl, fun w' => (by first | (go_simp; done) | (go_simp; rfl)), rfl, nofun⟩
    · intro vs w1 hS hE hD
      obtain ⟨q4, -⟩ := hD
      simp only [fillL, Act.put, List.setIfInBounds_toArray, List.set_cons_zero, List.set_cons_succ] at ⊢
      rw [show vs 4 = _ from q4] at ⊢
      clear q4
      refine ⟨_, rfl, fun w' => (by first | (go_simp; done) | (go_simp; rfl)), rfl, nofun⟩
    · intro vs w1 hS hE hD
      obtain ⟨q4, -⟩ := hD
      simp only [fillL, Act.put, List.setIfInBounds_toArray, List.set_cons_zero, List.set_cons_succ] at ⊢
      rw [show vs 4 = _ from q4] at ⊢
      clear q4
      refine ⟨_, rfl, fun w' => (by first | (go_simp; done) | (go_simp; rfl)), rfl, nofun⟩
    · intro vs w1 hS hE hD K hK
      clear hD
      simp only [fillL, Act.put, List.setIfInBounds_toArray, List.set_cons_zero, List.set_cons_succ] at hK ⊢
      go_simp
      exact hK _ _ ⟨_, rfl, Nat.le_trans (by first | exact Nat.le_refl _ | omega | (simp; omega)) hE.size, Arr.new _ _ _⟩ (below_alloc _ _) (fun _ => ⟨_, rfl, Nat.le_refl _⟩)
  intro vs w_p4 hS_p4 hE_p4 hP hD
  obtain ⟨q2, q3, q4, q5, q6, q7, -⟩ := hP
  simp only [fillL, Act.put, List.setIfInBounds_toArray, List.set_cons_zero, List.set_cons_succ]
  rw [show vs 2 = _ from q2]
  clear q2
  rw [show vs 3 = _ from q3]
  clear q3
  rw [show vs 4 = _ from q4]
  clear q4
  rw [show vs 5 = _ from q5]
  clear q5
  rw [show vs 6 = _ from q6]
  clear q6
  obtain ⟨g7, e7, hg7, ha7⟩ := q7
  rw [e7]
  clear e7 hD vs
  have lt_k10_k4 := Nat.lt_of_lt_of_le k4.lt hg7
  have lt_k10_k5 := Nat.lt_of_lt_of_le k5.lt hg7
  have lt_k10_k6 := Nat.lt_of_lt_of_le k6.lt hg7
  have k4 := k4.below hS_p4
  have k5 := k5.below hS_p4
  have k6 := k6.below hS_p4
  have kb := bel kb hS_p4
  refine Tx.bar 511 rfl (by decide +kernel) (fun K hK => ?_)
  refine step_store_arr rfl _ _ _ rfl _ _ rfl rfl _ (by assumption) (by first | (rw [lims_len]; kernel_rfl) | (rw [el_rep]; kernel_rfl) | (rw [el_len]; kernel_rfl) | (rw [byts_len]; kernel_rfl) | (rw [us_len]; kernel_rfl) | (rw [bytn_len]; kernel_rfl) | (rw [ens_len, digs_len]; kernel_rfl) | kernel_rfl) (by first | (rw [lims_len, lims_len]) | (rw [el_rep, el_rep]) | (rw [el_rep, el_len]; rfl) | (rw [el_len, el_rep]; rfl) | (rw [el_len, el_len]; rfl) | (rw [byts_len, byts_len]) | (rw [lims_len]; rfl) | (rw [byts_len]; rfl) | (rw [us_len, us_len]; rfl) | (rw [bytn_len, bytn_len]) | (rw [bytn_len]; rfl) | (rw [ens_len, ens_len, digs_len, digs_len]) | rfl) (by first | exact lims_one _ _ | exact el_one _ | exact byts_one _ | exact us_one _ | exact bytn_one _ _ | exact ens_one _ | (intro v hv; simp at hv; rcases hv with rfl | rfl | rfl | rfl <;> rfl)) ?_
  refine hK (fun _ => True) 9999 _ _ ?_
  clear hK K
  try simp only [Act.put]
  try simp only [List.setIfInBounds_toArray, List.set_cons_zero, List.set_cons_succ]
  refine Tx.seg2 (A := ?_) 0 1023 (by kernel_rfl) (by exact trivial) [9] (by kernel_rfl) ?_ ?_
  rotate_left
  · intro w' hB
    iterate 1 (first | (refine rd_skip rfl rfl ?_; simp only [Act.put, List.setIfInBounds_toArray, List.set_cons_zero, List.set_cons_succ]) | (refine rd_load_arr rfl rfl _ _ rfl _ rfl (by decide +kernel) _ (by assumption) (by first | (rw [lims_len]; kernel_rfl) | (rw [el_rep]; kernel_rfl) | (rw [el_len]; kernel_rfl) | (rw [byts_len]; kernel_rfl) | (rw [us_len]; kernel_rfl) | (rw [bytn_len]; kernel_rfl) | (rw [ens_len, digs_len]; kernel_rfl) | kernel_rfl) ?_; simp only [Act.put, List.setIfInBounds_toArray, List.set_cons_zero, List.set_cons_succ]) | (refine rd_take (v := ?_) rfl rfl ?_ ?_; rotate_left; (focus (go_simp; try (with_reducible rfl))); simp only [Act.put, List.setIfInBounds_toArray, List.set_cons_zero, List.set_cons_succ]))
    exact rd_nil
  refine Tx.done (by kernel_rfl) ?_
  first | refine then_row ha7 (fun w_2 ha7 hoth hbel => ?_) | refine inb_row ha7 (fun w_2 ha7 hoth hbel => ?_)
  have k4 := hoth _ _ (by omega) k4
  have k5 := hoth _ _ (by omega) k5
  have k6 := hoth _ _ (by omega) k6
  have kb := hbel _ _ (by omega) kb
  clear hoth hbel
  have k10 := ha7
  clear ha7
  generalize g7 = g_k10 at *
  go_upto_region 5 with (first | (refine wpList_load_arr2 rfl _ _ rfl _ rfl (by decide +kernel) _ (by assumption) (by first | (rw [lims_len]; kernel_rfl) | (rw [el_rep]; kernel_rfl) | (rw [el_len]; kernel_rfl) | (rw [byts_len]; kernel_rfl) | (rw [us_len]; kernel_rfl) | (rw [bytn_len]; kernel_rfl) | (rw [ens_len, digs_len]; kernel_rfl) | kernel_rfl) ?_) | (refine wpList_store_arr rfl _ _ _ rfl _ _ rfl rfl _ (by first | assumption | exact Arr.new _ _ _) (by first | (rw [lims_len]; kernel_rfl) | (rw [el_rep]; kernel_rfl) | (rw [el_len]; kernel_rfl) | (rw [byts_len]; kernel_rfl) | (rw [us_len]; kernel_rfl) | (rw [bytn_len]; kernel_rfl) | (rw [ens_len, digs_len]; kernel_rfl) | kernel_rfl) (by first | (rw [lims_len, lims_len]) | (rw [el_rep, el_rep]) | (rw [el_rep, el_len]; rfl) | (rw [el_len, el_rep]; rfl) | (rw [el_len, el_len]; rfl) | (rw [byts_len, byts_len]) | (rw [lims_len]; rfl) | (rw [byts_len]; rfl) | (rw [us_len, us_len]; rfl) | (rw [bytn_len, bytn_len]) | (rw [bytn_len]; rfl) | (rw [ens_len, ens_len, digs_len, digs_len]) | rfl) (by first | exact lims_one _ _ | exact el_one _ | exact byts_one _ | exact us_one _ | exact bytn_one _ _ | exact ens_one _ | (intro v hv; simp at hv; rcases hv with rfl | rfl | rfl | rfl <;> rfl)) ?_))
  refine Tx.start (fun w' => Below (w_2).heap.size (w_2) w') 8 10 rfl (by kernel_rfl) ?_
  have hS_3 : Below (w_2).heap.size (w_2) (World.drew w_2) := (Below.refl _ _).drew
  refine Tx.seg2 (A := ?_) 8 3 (by kernel_rfl) (by exact hS_3) [0, 1] (by kernel_rfl) ?_ ?_
  rotate_left
  · intro w' hB
    have y0 := k4.below hB
    have y1 := k5.below hB
    have y2 := k6.below hB
    have y3 := k10.below hB
    iterate 2 (first | (refine rd_skip rfl rfl ?_; simp only [Act.put, List.setIfInBounds_toArray, List.set_cons_zero, List.set_cons_succ]) | (refine rd_load_arr rfl rfl _ _ rfl _ rfl (by decide +kernel) _ (by assumption) (by first | (rw [lims_len]; kernel_rfl) | (rw [el_rep]; kernel_rfl) | (rw [el_len]; kernel_rfl) | (rw [byts_len]; kernel_rfl) | (rw [us_len]; kernel_rfl) | (rw [bytn_len]; kernel_rfl) | (rw [ens_len, digs_len]; kernel_rfl) | kernel_rfl) ?_; simp only [Act.put, List.setIfInBounds_toArray, List.set_cons_zero, List.set_cons_succ]) | (refine rd_take (v := ?_) rfl rfl ?_ ?_; rotate_left; (focus (go_simp; try (with_reducible rfl))); simp only [Act.put, List.setIfInBounds_toArray, List.set_cons_zero, List.set_cons_succ]))
    exact rd_nil
  refine Tx.poolB 2 255 [(2, 36), (3, 37), (4, 33), (5, 38), (6, 39), (7, 12)] [(false, []), (false, [(2, 36)]), (true, [(3, 37)]), (true, [(4, 33)]), (true, [(4, 33)]), (false, [])] [(2, Ph.is (.agg (byts p).toArray)), (3, Ph.is (.tuple #[.agg (byts s).toArray, .int .i64 e0])), (4, Ph.is (.tuple #[.agg (byts s).toArray, .int .i64 e0])), (5, Ph.is (.agg (byts s).toArray)), (6, Ph.is (.int .i64 e0)), (7, Ph.arr (w_2).heap.size (byts 0))] (by kernel_rfl) (by kernel_rfl) (by first | assumption | exact (Below.refl _ _).drew) ?_ ?_
  · refine ⟨⟨_, rfl, ?_⟩, ⟨_, rfl, ?_⟩, ⟨_, rfl, ?_⟩, ⟨_, rfl, ?_⟩, ⟨_, rfl, ?_⟩, ⟨_, rfl, ?_⟩, trivial⟩
    · intro vs w1 hS hE hD K hK
      clear hD
      simp only [fillL, Act.put, List.setIfInBounds_toArray, List.set_cons_zero, List.set_cons_succ] at hK ⊢
      go_simp
      refine (c1.out _).mono ?_
      rintro e w2 ⟨rfl, hb2⟩
      exact hK _ _ rfl hb2 nofun
    · intro vs w1 hS hE hD K hK
      obtain ⟨q2, -⟩ := hD
      simp only [fillL, Act.put, List.setIfInBounds_toArray, List.set_cons_zero, List.set_cons_succ] at hK ⊢
      rw [show vs 2 = _ from q2] at hK ⊢
      clear q2
      go_simp
      refine (c5.out _).mono ?_
      rintro e w2 ⟨rfl, hb2⟩
      exact hK _ _ rfl hb2 nofun
    · intro vs w1 hS hE hD
      obtain ⟨q3, -⟩ := hD
      simp only [fillL, Act.put, List.setIfInBounds_toArray, List.set_cons_zero, List.set_cons_succ] at ⊢
      rw [show vs 3 = _ from q3] at ⊢
      clear q3
      refine ⟨_, rfl, fun w' => (by first | (go_simp; done) | (go_simp; rfl)), rfl, nofun⟩
    · intro vs w1 hS hE hD
      obtain ⟨q4, -⟩ := hD
      simp only [fillL, Act.put, List.setIfInBounds_toArray, List.set_cons_zero, List.set_cons_succ] at ⊢
      rw [show vs 4 = _ from q4] at ⊢
      clear q4
      refine ⟨_, rfl, fun w' => (by first | (go_simp; done) | (go_simp; rfl)), rfl, nofun⟩
    · intro vs w1 hS hE hD
      obtain ⟨q4, -⟩ := hD
      simp only [fillL, Act.put, List.setIfInBounds_toArray, List.set_cons_zero, List.set_cons_succ] at ⊢
      rw [show vs 4 = _ from q4] at ⊢
      clear q4
      refine ⟨_, rfl, fun w' => (by first | (go_simp; done) | (go_simp; rfl)), rfl, nofun⟩
    · intro vs w1 hS hE hD K hK
      clear hD
      simp only [fillL, Act.put, List.setIfInBounds_toArray, List.set_cons_zero, List.set_cons_succ] at hK ⊢
      go_simp
      exact hK _ _ ⟨_, rfl, Nat.le_trans (by first | exact Nat.le_refl _ | omega | (simp; omega)) hE.size, Arr.new _ _ _⟩ (below_alloc _ _) (fun _ => ⟨_, rfl, Nat.le_refl _⟩)
  intro vs w_p5 hS_p5 hE_p5 hP hD
  obtain ⟨q2, q3, q4, q5, q6, q7, -⟩ := hP
  simp only [fillL, Act.put, List.setIfInBounds_toArray, List.set_cons_zero, List.set_cons_succ]
  rw [show vs 2 = _ from q2]
  clear q2
  rw [show vs 3 = _ from q3]
  clear q3
  rw [show vs 4 = _ from q4]
  clear q4
  rw [show vs 5 = _ from q5]
  clear q5
  rw [show vs 6 = _ from q6]
  clear q6
  obtain ⟨g7, e7, hg7, ha7⟩ := q7
  rw [e7]
  clear e7 hD vs
  have lt_k12_k4 := Nat.lt_of_lt_of_le k4.lt hg7
  have lt_k12_k5 := Nat.lt_of_lt_of_le k5.lt hg7
  have lt_k12_k6 := Nat.lt_of_lt_of_le k6.lt hg7
  have lt_k12_k10 := Nat.lt_of_lt_of_le k10.lt hg7
  have k4 := k4.below hS_p5
  have k5 := k5.below hS_p5
  have k6 := k6.below hS_p5
  have k10 := k10.below hS_p5
  have kb := bel kb hS_p5
  refine Tx.bar 511 rfl (by decide +kernel) (fun K hK => ?_)
  refine step_store_arr rfl _ _ _ rfl _ _ rfl rfl _ (by assumption) (by first | (rw [lims_len]; kernel_rfl) | (rw [el_rep]; kernel_rfl) | (rw [el_len]; kernel_rfl) | (rw [byts_len]; kernel_rfl) | (rw [us_len]; kernel_rfl) | (rw [bytn_len]; kernel_rfl) | (rw [ens_len, digs_len]; kernel_rfl) | kernel_rfl) (by first | (rw [lims_len, lims_len]) | (rw [el_rep, el_rep]) | (rw [el_rep, el_len]; rfl) | (rw [el_len, el_rep]; rfl) | (rw [el_len, el_len]; rfl) | (rw [byts_len, byts_len]) | (rw [lims_len]; rfl) | (rw [byts_len]; rfl) | (rw [us_len, us_len]; rfl) | (rw [bytn_len, bytn_len]) | (rw [bytn_len]; rfl) | (rw [ens_len, ens_len, digs_len, digs_len]) | rfl) (by first | exact lims_one _ _ | exact el_one _ | exact byts_one _ | exact us_one _ | exact bytn_one _ _ | exact ens_one _ | (intro v hv; simp at hv; rcases hv with rfl | rfl | rfl | rfl <;> rfl)) ?_
  refine hK (fun _ => True) 9999 _ _ ?_
  clear hK K
  try simp only [Act.put]
  try simp only [List.setIfInBounds_toArray, List.set_cons_zero, List.set_cons_succ]
  refine Tx.seg2 (A := ?_) 0 1023 (by kernel_rfl) (by exact trivial) [9] (by kernel_rfl) ?_ ?_
  rotate_left
  · intro w' hB
    iterate 1 (first | (refine rd_skip rfl rfl ?_; simp only [Act.put, List.setIfInBounds_toArray, List.set_cons_zero, List.set_cons_succ]) | (refine rd_load_arr rfl rfl _ _ rfl _ rfl (by decide +kernel) _ (by assumption) (by first | (rw [lims_len]; kernel_rfl) | (rw [el_rep]; kernel_rfl) | (rw [el_len]; kernel_rfl) | (rw [byts_len]; kernel_rfl) | (rw [us_len]; kernel_rfl) | (rw [bytn_len]; kernel_rfl) | (rw [ens_len, digs_len]; kernel_rfl) | kernel_rfl) ?_; simp only [Act.put, List.setIfInBounds_toArray, List.set_cons_zero, List.set_cons_succ]) | (refine rd_take (v := ?_) rfl rfl ?_ ?_; rotate_left; (focus (go_simp; try (with_reducible rfl))); simp only [Act.put, List.setIfInBounds_toArray, List.set_cons_zero, List.set_cons_succ]))
    exact rd_nil
  refine Tx.done (by kernel_rfl) ?_
  first | refine then_row ha7 (fun w_4 ha7 hoth hbel => ?_) | refine inb_row ha7 (fun w_4 ha7 hoth hbel => ?_)
  have k4 := hoth _ _ (by omega) k4
  have k5 := hoth _ _ (by omega) k5
  have k6 := hoth _ _ (by omega) k6
  have k10 := hoth _ _ (by omega) k10
  have kb := hbel _ _ (by omega) kb
  clear hoth hbel
  have k12 := ha7
  clear ha7
  generalize g7 = g_k12 at *
  rcases hse with rfl | rfl
  · skip
    go_wp2_with fail
    refine (numT 21 _).mono ?_
    rintro e wn ⟨rfl, hw⟩
    subst hw
    go_wp2_with fail
    refine (numT 21 _).mono ?_
    rintro e wn ⟨rfl, hw⟩
    subst hw
    go_wp2_with fail
    refine (numT 21 _).mono ?_
    rintro e wn ⟨rfl, hw⟩
    subst hw
    go_wp2_with fail
    go_ret
    exact ⟨rfl, kb⟩
  go_wp2_with fail
  refine (numT 0 _).mono ?_
  rintro e wn ⟨rfl, hw⟩
  subst hw
  go_wp2_with fail
  refine (numT 0 _).mono ?_
  rintro e wn ⟨rfl, hw⟩
  subst hw
  have cS := Lib.hid (fun w' (hb : Below w.heap.size w w') => show Calls Tryz.prog 9 #[.agg (byts s).toArray, .agg (bytn 12 nn).toArray, .slice av L cap, .slice none 0 0] w' (SRet (sealB s nn bs) w') from by
    have z := aseal_any s nn av cap bs (by rw [hL.out]; omega) w' (by rw [hL.out]; exact hsl.out.below hb)
    rw [hL.out] at z
    exact z)
  have cO := Lib.hid (fun w' g c (h : Sl w' (.slice (some ⟨g, 0, none⟩) (sealB s nn bs).length c) (u8s (sealB s nn bs))) => open_seal s nn bs (by rw [hL.out]; omega) g c w' h)
  obtain ⟨G, hG⟩ : ∃ G, sealB s nn bs = G := ⟨_, rfl⟩
  rw [hG, hL.out] at cO
  rw [hG] at cS
  clear hG
  go_wp2_with (refine wpList_load_arr2 rfl _ _ rfl _ rfl (by decide +kernel) _ (by assumption) (by first | (rw [lims_len]; kernel_rfl) | (rw [el_rep]; kernel_rfl) | (rw [el_len]; kernel_rfl) | (rw [byts_len]; kernel_rfl) | (rw [us_len]; kernel_rfl) | (rw [bytn_len]; kernel_rfl) | (rw [ens_len, digs_len]; kernel_rfl) | kernel_rfl) ?_)
  refine (cS.out _ kb).mono ?_
  rintro e w5 ⟨g, c, rfl, hz, hb⟩
  replace k6 := k6.below hb
  replace k10 := k10.below hb
  replace k12 := k12.below hb
  replace kb := bel kb hb
  have cO1 := Lib.hid (show Calls Tryz.prog 10 #[.agg (byts s).toArray, .agg (bytn 12 nn).toArray, .slice (some ⟨g, 0, none⟩) G.length c, .slice none 0 0] w5 _ from cO.out w5 g c hz)
  clear hb hz cO cS
  go_wp2_with (refine wpList_load_arr2 rfl _ _ rfl _ rfl (by decide +kernel) _ (by assumption) (by first | (rw [lims_len]; kernel_rfl) | (rw [el_rep]; kernel_rfl) | (rw [el_len]; kernel_rfl) | (rw [byts_len]; kernel_rfl) | (rw [us_len]; kernel_rfl) | (rw [bytn_len]; kernel_rfl) | (rw [ens_len, digs_len]; kernel_rfl) | kernel_rfl) ?_)
  refine cO1.out.mono ?_
  rintro e w6 ⟨g', rfl, kr, hb⟩
  replace k10 := k10.below hb
  replace k12 := k12.below hb
  replace kb := bel kb hb
  clear hb cO1 k6 k4 k5
  have s1 := strBk (show Sl w6 (.slice (some ⟨g', 0, none⟩) L L) (u8s bs) from Sl.ofArrN kr hL.out (by omega))
  have s2 := strBk (hsl.out.below kb)
  have q2 := q2.out
  go_wp2_with (refine wpList_load_arr2 rfl _ _ rfl _ rfl (by decide +kernel) _ (by assumption) (by first | (rw [lims_len]; kernel_rfl) | (rw [el_rep]; kernel_rfl) | (rw [el_len]; kernel_rfl) | (rw [byts_len]; kernel_rfl) | (rw [us_len]; kernel_rfl) | (rw [bytn_len]; kernel_rfl) | (rw [ens_len, digs_len]; kernel_rfl) | kernel_rfl) ?_)
  refine (numT 0 _).mono ?_
  rintro e wn ⟨rfl, hw⟩
  subst hw
  go_wp2_with fail
  go_ret
  exact ⟨rfl, kb⟩
end Go.Proofs.YtmlmggmnlgcbcaaGreat

