/- slots: what the calls make of a state, in plain words. -/
import Derived.Test.YtkipejhjpfakpaaSt10
namespace Go.Proofs.Ytkipejhjpfakpaa
open Go.RowKit

theorem slotB_full {m : List UInt8} (hm : m.length = 300) (d : Bool) {t : Int} (h0 : 0 ≤ t) (h3 : t ≤ 3) : slotB m d t = true := by
  rw [slotB_1 (by omega), hm]
  simp; omega
theorem mayB_of {S : Stt} (h : mayP S) : mayB S = true := (mayB_iff S).2 h
theorem mayB_no {S : Stt} (h : ¬ mayP S) : mayB S = false := by
  cases hb : mayB S with
  | false => rfl
  | true => exact absurd ((mayB_iff S).1 hb) h

theorem mayP_putC {S : Stt} {m : List UInt8} (h : mayP S) (hm : m.length = 300) : mayP (putC S m) := by
  obtain ⟨h1, h2, h3, h4, h5, h6, h7, h8, h9⟩ := h
  unfold putC
  by_cases ha : S.act = 0
  · rw [if_pos ha]
    exact ⟨h1, h2, h3, h4, h5, h6, fun h => absurd (show S.act = 1 from h) (by omega), h8, slotB_full hm _ (show (0 : Int) ≤ 0 by decide) (show (0 : Int) ≤ 3 by decide)⟩
  · rw [if_neg ha]
    exact ⟨h1, h2, h3, h4, h5, fun h => absurd h ha, h7, slotB_full hm _ (show (0 : Int) ≤ 0 by decide) (show (0 : Int) ≤ 3 by decide), h9⟩

theorem mayP_doneC {S : Stt} (h : mayP S) : mayP (doneC S) := by
  obtain ⟨h1, h2, h3, h4, h5, h6, h7, h8, h9⟩ := h
  unfold doneC
  by_cases ha : S.act = 0
  · rw [if_pos ha]
    refine ⟨h1, h2, h3, h4, h5, h6, fun h => absurd (show S.act = 1 from h) (by omega), h8, ?_⟩
    show slotB S.m1 (decide (0 < S.m1.length)) S.t1 = true
    by_cases hl : S.m1.length = 0
    · rw [slotB_0 hl] at h9 ⊢
      simp only [Bool.and_eq_true, Bool.not_eq_true', decide_eq_true_eq] at h9 ⊢
      exact ⟨by simp [hl], h9.2⟩
    · rw [slotB_1 hl] at h9 ⊢; exact h9
  · rw [if_neg ha]
    refine ⟨h1, h2, h3, h4, h5, fun h => absurd h ha, h7, ?_, h9⟩
    show slotB S.m0 (decide (0 < S.m0.length)) S.t0 = true
    by_cases hl : S.m0.length = 0
    · rw [slotB_0 hl] at h8 ⊢
      simp only [Bool.and_eq_true, Bool.not_eq_true', decide_eq_true_eq] at h8 ⊢
      exact ⟨by simp [hl], h8.2⟩
    · rw [slotB_1 hl] at h8 ⊢; exact h8

theorem mayP_tryC {S : Stt} (h : mayP S) : mayP (tryC S) := by
  have ht := mayP_try h
  have hd0 := mayP_d0 h
  have hd1 := mayP_d1 h
  obtain ⟨h1, h2, h3, h4, h5, h6, h7, h8, h9⟩ := id h
  unfold tryC
  by_cases ha : S.act = 0
  · rw [if_pos ha]
    by_cases hd : S.d1 = true
    · rw [if_pos hd]
      refine ⟨h1, h2, h3, h4, h5, h6, fun h => absurd (show S.act = 1 from h) (by omega), h8, ?_⟩
      show slotB S.m1 S.d1 (min (S.t1 + 1) 3) = true
      have hl : ¬ S.m1.length = 0 := fun e => by have := hd1 e; rw [hd] at this; cases this
      rw [slotB_1 hl] at h9 ⊢
      simp only [Bool.and_eq_true, decide_eq_true_eq] at h9 ⊢
      omega
    · rw [if_neg hd]; exact h
  · rw [if_neg ha]
    by_cases hd : S.d0 = true
    · rw [if_pos hd]
      refine ⟨h1, h2, h3, h4, h5, fun h => absurd h ha, h7, ?_, h9⟩
      show slotB S.m0 S.d0 (min (S.t0 + 1) 3) = true
      have hl : ¬ S.m0.length = 0 := fun e => by have := hd0 e; rw [hd] at this; cases this
      rw [slotB_1 hl] at h8 ⊢
      simp only [Bool.and_eq_true, decide_eq_true_eq] at h8 ⊢
      omega
    · rw [if_neg hd]; exact h

theorem flo_num {f v : Int} (h : numB f = true) : numB (flo f v) = true := by
  rw [numB_iff] at h ⊢
  unfold flo
  split <;> omega
theorem flo_le {f v : Int} : f ≤ flo f v := by
  unfold flo
  split <;> omega

theorem mayP_confirmC {S : Stt} {ver : Int} (h : mayP S) : mayP (confirmC S ver) := by
  have hd0 := mayP_d0 h
  have hd1 := mayP_d1 h
  have ht := mayP_try h
  obtain ⟨h1, h2, h3, h4, h5, h6, h7, h8, h9⟩ := id h
  unfold confirmC
  by_cases ha : S.act = 0
  · rw [if_pos ha]
    by_cases hd : S.d1 = true
    · rw [if_pos hd]
      have hl : ¬ S.m1.length = 0 := fun e => by have := hd1 e; rw [hd] at this; cases this
      refine ⟨flo_num h1, h2, by show (-1 : Int) ≤ 1; decide, by show (1 : Int) ≤ 1; decide, h5, fun h => absurd (show (1 : Int) = 0 from h) (by decide), fun _ => ⟨hl, hd⟩, rfl, ?_⟩
      show slotB S.m1 S.d1 0 = true
      rw [slotB_1 hl] at h9 ⊢
      simp only [Bool.and_eq_true, decide_eq_true_eq] at h9 ⊢
      omega
    · rw [if_neg hd]; exact h
  · rw [if_neg ha]
    by_cases hd : S.d0 = true
    · rw [if_pos hd]
      have hl : ¬ S.m0.length = 0 := fun e => by have := hd0 e; rw [hd] at this; cases this
      refine ⟨flo_num h1, h2, by show (-1 : Int) ≤ 0; decide, by show (0 : Int) ≤ 1; decide, h5, fun _ => ⟨hl, hd⟩, fun h => absurd (show (0 : Int) = 1 from h) (by decide), ?_, rfl⟩
      show slotB S.m0 S.d0 0 = true
      rw [slotB_1 hl] at h8 ⊢
      simp only [Bool.and_eq_true, decide_eq_true_eq] at h8 ⊢
      omega
    · rw [if_neg hd]; exact h

theorem chg_of {F : Stt → Stt} {S : Stt} (h : mayP S) : chg F S = F S := by unfold chg; rw [if_pos (mayB_of h)]
theorem putS_of {S : Stt} {m : List UInt8} (h : mayP S) (hm : m.length = 300) : putS S m = putC S m := by unfold putS; rw [if_pos hm, chg_of h]

/-- A manifest, put and done, tried i times. -/
def bS (S : Stt) (m : List UInt8) (i : Int) : Stt := if S.act = 0 then { S with m1 := m, d1 := true, t1 := min i 3 } else { S with m0 := m, d0 := true, t0 := min i 3 }
/-- It is confirmed. -/
def cS (S : Stt) (m : List UInt8) (ver : Int) : Stt := if S.act = 0 then ⟨flo S.floor ver, S.rev, [], false, 0, m, true, 0, 1⟩ else ⟨flo S.floor ver, S.rev, m, true, 0, [], false, 0, 0⟩

theorem bS_done {S : Stt} {m : List UInt8} (h : mayP S) (hm : m.length = 300) : doneS (putS S m) = bS S m 0 := by
  rw [putS_of h hm, doneS, chg_of (mayP_putC h hm)]
  unfold putC doneC bS
  by_cases ha : S.act = 0
  · rw [if_pos ha, if_pos ha, if_pos ha]
    simp [hm]; rfl
  · rw [if_neg ha, if_neg ha, if_neg ha]
    simp [hm]; rfl

theorem bS_may {S : Stt} {m : List UInt8} {i : Int} (h : mayP S) (hm : m.length = 300) (hi : 0 ≤ i) : mayP (bS S m i) := by
  obtain ⟨h1, h2, h3, h4, h5, h6, h7, h8, h9⟩ := h
  unfold bS
  by_cases ha : S.act = 0
  · rw [if_pos ha]
    exact ⟨h1, h2, h3, h4, h5, h6, fun h => absurd (show S.act = 1 from h) (by omega), h8, slotB_full hm _ (show 0 ≤ min i 3 by omega) (show min i 3 ≤ 3 by omega)⟩
  · rw [if_neg ha]
    exact ⟨h1, h2, h3, h4, h5, fun h => absurd h ha, h7, slotB_full hm _ (show 0 ≤ min i 3 by omega) (show min i 3 ≤ 3 by omega), h9⟩

theorem bS_try {S : Stt} {m : List UInt8} {i : Int} (h : mayP S) (hm : m.length = 300) (hi : 0 ≤ i) : tryS (bS S m i) = bS S m (i + 1) := by
  rw [tryS, chg_of (bS_may h hm hi)]
  unfold bS tryC
  by_cases ha : S.act = 0
  · rw [if_pos ha, if_pos ha]
    simp only [ha, ite_true]
    congr 1; omega
  · rw [if_neg ha, if_neg ha]
    simp only [ha, ite_true]
    congr 1; omega

theorem bS_pick {S : Stt} {m : List UInt8} {i : Int} (h : mayP S) (hm : m.length = 300) (hi : 0 ≤ i) : pickS (bS S m i) true true = if i < 3 then (tgt S.act, true) else (S.act, false) := by
  have hlo := h.lo
  have hhi := h.hi
  unfold pickS
  rw [if_pos (mayB_of (bS_may h hm hi))]
  unfold bS tgt
  by_cases ha : S.act = 0
  · by_cases h3 : i < 3
    · simp [ha, h3, show min i 3 < 3 by omega]
    · simp [ha, h3, show ¬ min i 3 < 3 by omega]
  · by_cases h3 : i < 3
    · simp [ha, h3, show min i 3 < 3 by omega]
    · by_cases h1 : S.act = 1
      · simp [h1, h3, show ¬ min i 3 < 3 by omega]
      · have : S.act = -1 := by omega
        simp [this, h3, show ¬ min i 3 < 3 by omega]

theorem bS_confirm {S : Stt} {m : List UInt8} {i ver : Int} (h : mayP S) (hm : m.length = 300) (hi : 0 ≤ i) : confirmS (bS S m i) ver = cS S m ver := by
  rw [confirmS, chg_of (bS_may h hm hi)]
  unfold bS confirmC cS
  by_cases ha : S.act = 0
  · simp [ha]
  · simp [ha]

theorem cS_may {S : Stt} {m : List UInt8} {ver : Int} (h : mayP S) (hm : m.length = 300) : mayP (cS S m ver) := by
  have := mayP_confirmC (ver := ver) (bS_may h hm (Int.le_refl 0))
  rw [show confirmC (bS S m 0) ver = cS S m ver by rw [← bS_confirm h hm (Int.le_refl 0), confirmS, chg_of (bS_may h hm (Int.le_refl 0))]] at this
  exact this
theorem cS_act {S : Stt} {m : List UInt8} {ver : Int} : (cS S m ver).act = tgt S.act := by unfold cS tgt; split <;> rfl
theorem cS_floor {S : Stt} {m : List UInt8} {ver : Int} : (cS S m ver).floor = flo S.floor ver := by unfold cS; split <;> rfl
theorem cS_pick {S : Stt} {m : List UInt8} {ver : Int} (h : mayP S) (hm : m.length = 300) : pickS (cS S m ver) true true = (tgt S.act, false) := by
  unfold pickS
  rw [if_pos (mayB_of (cS_may h hm))]
  unfold cS tgt
  by_cases ha : S.act = 0 <;> simp [ha]
theorem cS_tgt {S : Stt} {m : List UInt8} {ver : Int} (h : mayP S) (hm : m.length = 300) : tgtS (cS S m ver) = 1 - tgt S.act := by
  unfold tgtS
  rw [if_pos (mayB_of (cS_may h hm)), cS_act]
  unfold tgt
  by_cases ha : S.act = 0 <;> simp [ha]

end Go.Proofs.Ytkipejhjpfakpaa
