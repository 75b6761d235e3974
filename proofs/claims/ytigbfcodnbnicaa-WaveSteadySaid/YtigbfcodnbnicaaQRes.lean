/- The reference's Resample over plain numbers: it returns what Resample returns; for every recording and every up and down. -/
import Derived.Test.YtigbfcodnbnicaaQBase
import Derived.Test.YtigbfcodnbnicaaHResample
import Derived.Test.YtigbfcodnbnicaaXF24
set_option linter.unusedVariables false
set_option linter.unusedSimpArgs false
namespace Go.Proofs.Ytigbfcodnbnicaa.P
open Go.RowKit Go.Proofs.YtigbfcodnbnicaaW.PrintWords Go.Proofs.YtigbfcodnbnicaaW.PrintLast Go.Proofs.YtigbfcodnbnicaaW.PrintMore

theorem Valid_eq (a : Int) (l : List Int) (hl : l.length ≤ 4611686018427387904) (k : Nat) (hk : l.length < k) : earshotref02_Valid.f k a l = some (decide (recErr a l = 0)) := by
  unfold earshotref02_Valid.f recErr
  by_cases h1 : l.length > 200000
  · rw [if_pos h1]
    by_cases c1 : a ≥ 1
    · rw [if_pos c1]
      by_cases c2 : a ≤ 192000
      · rw [if_pos c2, if_neg (show ¬ (l.length : Int) ≤ 200000 by omega)]; rfl
      · rw [if_neg c2]; rfl
    · rw [if_neg c1]; rfl
  · rw [if_neg h1]
    by_cases c1 : a ≥ 1
    · rw [if_pos c1]
      by_cases c2 : a ≤ 192000
      · rw [if_pos c2, if_pos (show (l.length : Int) ≤ 200000 by omega), all_some l _ _ hl k hk, Option.bind_some]
        have d1 : ¬ a < 1 := by omega
        have d2 : ¬ a > 192000 := by omega
        cases inR (-32768) 32767 l <;> simp [d1, d2]
      · rw [if_neg c2, if_pos (.inr (.inl (by omega)))]; rfl
    · rw [if_neg c1, if_pos (.inl (by omega))]; rfl
theorem Wrong_eq (a : Int) (l : List Int) (hl : l.length ≤ 4611686018427387904) (k : Nat) (hk : l.length < k) : earshotref02_Wrong.f k a l = some (recErr a l) := by
  unfold earshotref02_Wrong.f
  rw [Valid_eq a l hl k hk, Option.bind_some]
  by_cases h1 : l.length > 200000
  · rw [if_pos (show (l.length : Int) > 200000 by omega)]
    unfold recErr
    rw [if_pos h1]
  · rw [if_neg (show ¬ (l.length : Int) > 200000 by omega)]
    have h2 : recErr a l = 0 ∨ recErr a l = 2 := by
      unfold recErr
      rw [if_neg h1]
      split
      · exact .inr rfl
      · exact .inl rfl
    rcases h2 with h | h
    · rw [h]; rfl
    · rw [h]; rfl
theorem up_eq {a b : Int} (h1 : 0 ≤ a) (h2 : a ≤ 1099511627776) (h3 : 1 ≤ b) (h4 : b ≤ 1024) : earshotref02_up.f a b = some ((a + b - 1) / b) := by
  unfold earshotref02_up.f
  have h5 : 0 ≤ (a + b - 1) / b := Int.ediv_nonneg (by omega) (by omega)
  have h6 : (a + b - 1) / b ≤ a + b - 1 := Int.ediv_le_self _ (by omega)
  rw [if_neg (show ¬ b = 0 by omega), w64 (x := a + b) (by omega) (by omega), w64 (x := a + b - 1) (by omega) (by omega), Int.tdiv_eq_ediv_of_nonneg (by omega), w64 (by omega) (by omega)]
theorem at_eq (l : List Int) (i : Nat) (hl : 0 < l.length) (hl2 : l.length ≤ 200000) : earshotref02_at.f l i = some (l.getD (min i (l.length - 1)) 0) := by
  unfold earshotref02_at.f
  have e : wrap64 ((l.length : Int) - 1) = ((l.length - 1 : Nat) : Int) := by rw [w64 (by omega) (by omega)]; omega
  rw [e]
  clear e
  by_cases h : (i : Int) ≥ (l.length : Int)
  · rw [if_pos h, if_pos (show 0 ≤ ((l.length - 1 : Nat) : Int) by omega), if_pos (show ((l.length - 1 : Nat) : Int) < (l.length : Int) by omega), show min i (l.length - 1) = l.length - 1 by omega]
    simp [rd]
  · rw [if_neg h, if_pos (show 0 ≤ (i : Int) by omega), if_pos (show (i : Int) < (l.length : Int) by omega), show min i (l.length - 1) = i by omega]
    simp [rd]
theorem smooth_l0 (l : List Int) (i w : Nat) (hl : 0 < l.length) (hl2 : l.length ≤ 200000) (hv : ∀ v ∈ l, -32768 ≤ v ∧ v ≤ 32767) (hi : i ≤ 8000000) (hw1 : 1 ≤ w) (hw2 : w ≤ 32) : ∀ (d k q : Nat), q + d = w → d + 4 ≤ k →
    earshotref02_smooth.l0 k l i w (smoothSum l i q) q = some (smoothAt l w i) := by
  intro d
  induction d with
  | zero =>
    intro k q h1 h2
    obtain ⟨k, rfl⟩ : ∃ m, k = m + 1 := ⟨k - 1, by omega⟩
    obtain rfl : q = w := by omega
    have hb := smoothSum_bd hv hl i q
    rw [earshotref02_smooth.l0, if_neg (show ¬ (q : Int) < (q : Int) by omega), Round_some (by omega) (by omega) (by omega) (by omega) (by omega)]
    rfl
  | succ d ih =>
    intro k q h1 h2
    have ihh := ih (k - 1) (q + 1) (by omega) (by omega)
    obtain ⟨k, rfl⟩ : ∃ m, k = m + 1 := ⟨k - 1, by omega⟩
    rw [Nat.add_sub_cancel, smoothSum_succ] at ihh
    have hb := smoothSum_bd hv hl i q
    have hg := getD_bd hv (min (i + q) (l.length - 1)) (by omega)
    have e : wrap64 ((i : Int) + (q : Int)) = ((i + q : Nat) : Int) := by rw [w64 (by omega) (by omega)]; omega
    rw [earshotref02_smooth.l0, if_pos (show (q : Int) < (w : Int) by omega), e, at_eq l (i + q) hl hl2, Option.bind_some, w64 (x := smoothSum l i q + _) (by omega) (by omega), w64 (x := (q : Int) + 1) (by omega) (by omega), show (q : Int) + 1 = ((q + 1 : Nat) : Int) by omega]
    exact ihh
theorem smooth_eq (l : List Int) (i w k : Nat) (hl : 0 < l.length) (hl2 : l.length ≤ 200000) (hv : ∀ v ∈ l, -32768 ≤ v ∧ v ≤ 32767) (hi : i ≤ 8000000) (hw1 : 1 ≤ w) (hw2 : w ≤ 32) (hk : w + 4 ≤ k) :
    earshotref02_smooth.f k l i w = some (smoothAt l w i) := by
  unfold earshotref02_smooth.f
  have := smooth_l0 l i w hl hl2 hv hi hw1 hw2 w k 0 (by omega) hk
  exact this
theorem jd_bd {j d : Nat} (hj : j ≤ 200000) (hd : d ≤ 16) : j * d ≤ 3200000 := by
  have := Nat.mul_le_mul hj hd
  omega
theorem jdiv {j d u : Nat} (hj : j ≤ 200000) (hd : d ≤ 16) (hu : 1 ≤ u) : wrap64 (Int.tdiv (wrap64 ((j : Int) * (d : Int))) (u : Int)) = ((j * d / u : Nat) : Int) := by
  have h := jd_bd hj hd
  rw [show (j : Int) * (d : Int) = ((j * d : Nat) : Int) by push_cast; rfl]
  generalize j * d = q at *
  have h2 : q / u ≤ q := Nat.div_le_self _ _
  rw [w64 (x := (q : Int)) (by omega) (by omega), Int.tdiv_eq_ediv_of_nonneg (by omega), show (q : Int) / (u : Int) = ((q / u : Nat) : Int) by push_cast; rfl]
  generalize q / u = r at *
  rw [w64 (by omega) (by omega)]
theorem jmod {j d u : Nat} (hj : j ≤ 200000) (hd : d ≤ 16) (hu : 1 ≤ u) : Int.tmod (wrap64 ((j : Int) * (d : Int))) (u : Int) = ((j * d % u : Nat) : Int) := by
  have h := jd_bd hj hd
  rw [show (j : Int) * (d : Int) = ((j * d : Nat) : Int) by push_cast; rfl]
  generalize j * d = q at *
  rw [w64 (x := (q : Int)) (by omega) (by omega), Int.tmod_eq_emod_of_nonneg (by omega)]
  push_cast; rfl
theorem mix_round {S1 S2 : Int} {f u k : Nat} (h1 : -32768 ≤ S1 ∧ S1 ≤ 32768) (h2 : -32768 ≤ S2 ∧ S2 ≤ 32768) (hf : f ≤ u) (hu : 1 ≤ u) (hu2 : u ≤ 16) (hk : 2 ≤ k) :
    earshotref02_Round.f k (wrap64 (wrap64 (S1 * wrap64 ((u : Int) - (f : Int))) + wrap64 (S2 * (f : Int)))) (u : Int) = some (rnd (S1 * ((u : Int) - f) + S2 * f) u) := by
  have m1 : -32768 * 16 ≤ S1 * ((u : Int) - f) ∧ S1 * ((u : Int) - f) ≤ 32768 * 16 := mul_bd h1.1 h1.2 (by omega) (by omega)
  have m2 : -32768 * 16 ≤ S2 * (f : Int) ∧ S2 * (f : Int) ≤ 32768 * 16 := mul_bd h2.1 h2.2 (by omega) (by omega)
  rw [w64 (x := (u : Int) - (f : Int)) (by omega) (by omega)]
  generalize S1 * ((u : Int) - f) = p at *
  generalize S2 * (f : Int) = q at *
  rw [w64 (x := p) (by omega) (by omega), w64 (x := q) (by omega) (by omega), w64 (x := p + q) (by omega) (by omega), Round_some hk (by omega) (by omega) (by omega) (by omega)]
theorem res_l0 (l : List Int) (u d w m : Nat) (a0 R : Int) (hl2 : l.length ≤ 200000) (hv : ∀ v ∈ l, -32768 ≤ v ∧ v ≤ 32767) (hu : 1 ≤ u) (hu2 : u ≤ 16) (hd2 : d ≤ 16) (hw1 : 1 ≤ w) (hw2 : w ≤ 32) (hm : m ≤ 200000) (hn : m ≠ 0 → 0 < l.length) :
    ∀ (c k j : Nat), j + c = m → c + w + 8 ≤ k → earshotref02_Resample.l0 k u d m w j a0 l R (resPart l u d w j) = some (R, resPart l u d w m, 0) := by
  intro c
  induction c with
  | zero =>
    intro k j h1 h2
    obtain ⟨k, rfl⟩ : ∃ m, k = m + 1 := ⟨k - 1, by omega⟩
    obtain rfl : j = m := by omega
    rw [earshotref02_Resample.l0, if_neg (show ¬ (j : Int) < (j : Int) by omega)]
  | succ c ih =>
    intro k j h1 h2
    have ihh := ih (k - 1) (j + 1) (by omega) (by omega)
    obtain ⟨k, rfl⟩ : ∃ m, k = m + 1 := ⟨k - 1, by omega⟩
    rw [Nat.add_sub_cancel, resPart_succ] at ihh
    have hl := hn (by omega)
    have hq := jd_bd (show j ≤ 200000 by omega) hd2
    have hi : j * d / u ≤ 3200000 := Nat.le_trans (Nat.div_le_self _ _) hq
    have hf : j * d % u ≤ u := Nat.le_of_lt (Nat.mod_lt _ (by omega))
    have s1 := smoothAt_bd hv hl w (j * d / u) hw1
    have s2 := smoothAt_bd hv hl w (j * d / u + 1) hw1
    have e1 : wrap64 (((j * d / u : Nat) : Int) + 1) = ((j * d / u + 1 : Nat) : Int) := by
      generalize j * d / u = q at *
      rw [w64 (by omega) (by omega)]; omega
    have e2 : wrap64 ((j : Int) + 1) = ((j + 1 : Nat) : Int) := by
      clear e1
      rw [w64 (by omega) (by omega)]; omega
    have E1 := Aside0.mk e1
    have E2 := Aside0.mk e2
    clear e1 e2
    rw [earshotref02_Resample.l0, if_pos (show (j : Int) < (m : Int) by omega), if_neg (show ¬ (u : Int) = 0 by omega), jdiv (by omega) hd2 hu, jmod (by omega) hd2 hu, E1.out, E2.out, smooth_eq l _ w k hl hl2 hv (by omega) hw1 hw2 (by omega), Option.bind_some, smooth_eq l _ w k hl hl2 hv (by omega) hw1 hw2 (by omega), Option.bind_some,
      mix_round s1 s2 hf hu hu2 (by omega), Option.bind_some, if_pos (by rw [resPart_length]; omega)]
    exact ihh
theorem Resample_eq (a0 : Int) (l : List Int) (a1 a2 : Int) (hl : l.length ≤ 4611686018427387904) (k : Nat) (hk : l.length + 200100 ≤ k) : earshotref02_Resample.f k a0 l a1 a2 = wave_Resample.f a0 l a1 a2 := by
  unfold earshotref02_Resample.f wave_Resample.f
  rw [Wrong_eq a0 l hl k (by omega), Option.bind_some]
  obtain ⟨k, rfl⟩ : ∃ m, k = m + 1 := ⟨k - 1, by omega⟩
  have bad : ∀ (x62 : Bool), x62 = true → earshotref02_Resample.j0 (k + 1) a1 a2 x62 a0 l = some (0, [], 2) := by
    rintro x62 rfl
    rw [earshotref02_Resample.j0, if_pos rfl]
  by_cases he : recErr a0 l = 0
  · rw [if_pos he, if_neg (show ¬ recErr a0 l ≠ 0 from fun e => e he)]
    obtain ⟨hl2, ha1, ha2, hv⟩ := recErr_ok he
    by_cases c1 : a1 < 1
    · rw [if_pos c1, if_pos (.inl c1)]; exact bad _ rfl
    rw [if_neg c1]
    by_cases c2 : a1 > 16
    · rw [if_pos c2, if_pos (.inr (.inl c2))]; exact bad _ rfl
    rw [if_neg c2]
    by_cases c3 : a2 < 1
    · rw [if_pos c3, if_pos (.inr (.inr (.inl c3)))]; exact bad _ rfl
    rw [if_neg c3]
    by_cases c4 : a2 > 16
    · rw [if_pos c4, if_pos (.inr (.inr (.inr (.inl c4))))]; exact bad _ rfl
    rw [if_neg c4, if_neg (show ¬ a2 = 0 by omega)]
    have p0 : 0 ≤ a0 * a1 := Int.mul_nonneg (by omega) (by omega)
    have p1 : a0 * a1 ≤ 192000 * 16 := Int.mul_le_mul ha2 (by omega) (by omega) (by omega)
    have q0 : 0 ≤ a0 * a1 / a2 := Int.ediv_nonneg p0 (by omega)
    have q1 : a0 * a1 / a2 ≤ a0 * a1 := Int.ediv_le_self _ p0
    have em : Int.tmod (wrap64 (a0 * a1)) a2 = a0 * a1 % a2 := by rw [w64 (by omega) (by omega), Int.tmod_eq_emod_of_nonneg p0]
    have ed : wrap64 (Int.tdiv (wrap64 (a0 * a1)) a2) = a0 * a1 / a2 := by rw [w64 (x := a0 * a1) (by omega) (by omega), Int.tdiv_eq_ediv_of_nonneg p0, w64 (by omega) (by omega)]
    have ED := Aside0.mk ed
    rw [em, ed]
    clear em ed
    by_cases c5 : a0 * a1 % a2 = 0
    · rw [if_pos c5]
      by_cases c6 : a0 * a1 / a2 < 1
      · rw [if_pos c6, if_pos (.inr (.inr (.inr (.inr (.inr (.inl c6))))))]; exact bad _ rfl
      rw [if_neg c6]
      by_cases c7 : a0 * a1 / a2 > 192000
      · rw [if_pos (.inr (.inr (.inr (.inr (.inr (.inr c7))))))]; exact bad _ (decide_eq_true c7)
      have hno : ¬ (a1 < 1 ∨ a1 > 16 ∨ a2 < 1 ∨ a2 > 16 ∨ a0 * a1 % a2 ≠ 0 ∨ a0 * a1 / a2 < 1 ∨ a0 * a1 / a2 > 192000) := by
        rintro (h | h | h | h | h | h | h)
        · exact c1 h
        · exact c2 h
        · exact c3 h
        · exact c4 h
        · exact h c5
        · exact c6 h
        · exact c7 h
      rw [if_neg hno, decide_eq_false c7, earshotref02_Resample.j0, if_neg (show ¬ (false : Bool) = true by decide)]
      have p4 : 0 ≤ (l.length : Int) * a1 := Int.mul_nonneg (by omega) (by omega)
      have p5 : (l.length : Int) * a1 ≤ 200000 * 16 := Int.mul_le_mul (by omega) (by omega) (by omega) (by omega)
      rw [w64 (x := (l.length : Int) * a1) (by omega) (by omega), up_eq p4 (by omega) (by omega) (by omega), Option.bind_some]
      by_cases hm : ((l.length : Int) * a1 + a2 - 1) / a2 > 200000
      · rw [if_pos hm, if_pos hm]
      rw [if_neg hm, if_neg hm, if_neg (show ¬ a2 = 0 by omega), up_eq (a := a2) (b := a1) (by omega) (by omega) (by omega) (by omega), Option.bind_some, ED.out]
      obtain ⟨u, rfl⟩ := Int.eq_ofNat_of_zero_le (show 0 ≤ a1 by omega)
      obtain ⟨d, rfl⟩ := Int.eq_ofNat_of_zero_le (show 0 ≤ a2 by omega)
      have hq : 0 ≤ ((l.length : Int) * u + d - 1) / d := Int.ediv_nonneg (by omega) (by omega)
      obtain ⟨m, hm2⟩ := Int.eq_ofNat_of_zero_le hq
      rw [hm2] at hm ⊢
      rw [Int.toNat_natCast, Int.toNat_natCast, Int.toNat_natCast]
      have hk0 : ((d : Int) + u - 1) / u = (((d + u - 1) / u : Nat) : Int) := by
        have e : ((d : Int) + u - 1) = ((d + u - 1 : Nat) : Int) := by omega
        rw [e]; push_cast; rfl
      have hk1 : 1 ≤ (d + u - 1) / u := (Nat.le_div_iff_mul_le (by omega)).2 (by omega)
      have hk2 : (d + u - 1) / u ≤ d + u - 1 := Nat.div_le_self _ _
      rw [hk0]
      refine res_l0 l u d ((d + u - 1) / u) m a0 _ hl2 hv (by omega) (by omega) (by omega) hk1 (by omega) (by omega) ?_ m k 0 (by omega) (by omega)
      intro hne
      rcases Nat.eq_zero_or_pos l.length with h0 | h0
      · rw [h0] at hm2
        have e : (((0 : Nat) : Int) * u + d - 1) / d = 0 := Int.ediv_eq_zero_of_lt (by omega) (by omega)
        rw [e] at hm2
        omega
      · exact h0
    · rw [if_neg c5, if_pos (.inr (.inr (.inr (.inr (.inl c5)))))]; exact bad _ rfl
  · rw [if_neg he, if_pos he]
theorem resList_length (l : List Int) (u d m : Nat) : (resList l u d m).length = m := by simp [resList]
end Go.Proofs.Ytigbfcodnbnicaa.P
