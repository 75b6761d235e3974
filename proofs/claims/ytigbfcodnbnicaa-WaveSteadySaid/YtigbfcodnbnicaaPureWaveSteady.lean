/- The law of steady recordings over plain numbers: what Resample returns keeps to the range of the samples, is empty only with them, and is the same at the same rate; for every recording and every up and down. -/
import Derived.Test.YtigbfcodnbnicaaQSteady
import Derived.Test.YtigbfcodnbnicaaQKnown
import Derived.Test.YtigbfcodnbnicaaXF4
set_option linter.unusedVariables false
set_option linter.unusedSimpArgs false
namespace Go.Proofs.Ytigbfcodnbnicaa.Pure
open Go.RowKit Go.Proofs.Ytigbfcodnbnicaa.P Go.Proofs.YtigbfcodnbnicaaW.PrintWords Go.Proofs.YtigbfcodnbnicaaW.PrintLast Go.Proofs.YtigbfcodnbnicaaW.PrintMore

theorem steady_l0 (l s : List Int) (x1 x2 a0 R : Int) (hl : l.length ≤ 2000) (hs : s.length ≤ 200000) (hR : R * x2 = a0 * x1) (hin : ∀ lo hi : Int, (∀ v ∈ l, lo ≤ v ∧ v ≤ hi) → ∀ v ∈ s, lo ≤ v ∧ v ≤ hi) :
    ∀ (c k i : Nat) (lo hi : Int), i + c = l.length → c + 200050 ≤ k → (∀ j, j < i → lo ≤ l.getD j 0 ∧ l.getD j 0 ≤ hi) → earshotlaw02_WaveSteady.l0 k x1 x2 lo hi i a0 l R s = some true := by
  intro c
  induction c with
  | zero =>
    intro k i lo hi h1 h2 hpre
    obtain ⟨k, rfl⟩ : ∃ m, k = m + 1 := ⟨k - 1, by omega⟩
    have hall : inR lo hi s = true := inR_of (hin lo hi (by
      intro v hv
      obtain ⟨j, hj, rfl⟩ := List.getElem_of_mem hv
      have := hpre j (by omega)
      simpa [hj] using this))
    rw [earshotlaw02_WaveSteady.l0, if_neg (show ¬ (i : Int) < (l.length : Int) by omega), all_some s lo hi (by omega) k (by omega), hall, Option.bind_some, if_pos rfl, hR, if_pos rfl, known_k k (by omega)]
    rfl
  | succ c ih =>
    intro k i lo hi h1 h2 hpre
    have ihh := ih (k - 1) (i + 1) (min lo (l.getD i 0)) (max hi (l.getD i 0)) (by omega) (by omega) (by
      intro j hj
      rcases Nat.lt_or_ge j i with h | h
      · have := hpre j h
        omega
      · obtain rfl : j = i := by omega
        omega)
    obtain ⟨k, rfl⟩ : ∃ m, k = m + 1 := ⟨k - 1, by omega⟩
    rw [Nat.add_sub_cancel] at ihh
    have e : rd l (i : Int) = l.getD i 0 := by simp [rd]
    rw [earshotlaw02_WaveSteady.l0, if_pos (show (i : Int) < (l.length : Int) by omega), if_pos (show 0 ≤ (i : Int) by omega), mn_min, mx_max, e, w64 (x := (i : Int) + 1) (by omega) (by omega), show (i : Int) + 1 = ((i + 1 : Nat) : Int) by omega]
    exact ihh
theorem WaveSteady (a0 : Int) (l : List Int) (a1 a2 : Int) (w0 : (Lit.int .i64 a0).wf = true) (hm : l.length ≤ maxLen) (hw : ∀ x ∈ l, (Lit.int .i64 x).wf = true) (w1 : (Lit.int .i64 a1).wf = true) (w2 : (Lit.int .i64 a2).wf = true) : ∃ k, earshotlaw02_WaveSteady.f k a0 l a1 a2 = some true := by
  refine ⟨l.length + 210000, ?_⟩
  obtain ⟨K, hK⟩ : ∃ K, l.length + 210000 = K + 1 + 1 ∧ 209998 + l.length ≤ K := ⟨l.length + 209998, by omega, by omega⟩
  have stop : earshotlaw02_WaveSteady.j0 (K + 1 + 1) a1 a2 true a0 l = some true := by
    rw [earshotlaw02_WaveSteady.j0, if_pos rfl, known_k _ (by omega)]; rfl
  unfold earshotlaw02_WaveSteady.f
  rw [hK.1]
  by_cases h1 : (l.length : Int) > 2000
  · rw [if_pos h1]; exact stop
  · rw [if_neg h1, Valid_eq a0 l (by omega) _ (by omega), Option.bind_some]
    by_cases he : recErr a0 l = 0
    · obtain ⟨hl2, ha1, ha2, hv⟩ := recErr_ok he
      rw [decide_eq_true he, earshotlaw02_WaveSteady.j0, if_neg (show ¬ (!true) = true by decide)]
      unfold wave_Resample.f
      rw [if_neg (show ¬ recErr a0 l ≠ 0 from fun e => e he)]
      by_cases h2 : a1 < 1 ∨ a1 > 16 ∨ a2 < 1 ∨ a2 > 16 ∨ a0 * a1 % a2 ≠ 0 ∨ a0 * a1 / a2 < 1 ∨ a0 * a1 / a2 > 192000
      · rw [if_pos h2, Option.bind_some, if_neg (show ¬ (2 : Int) = 0 by decide), if_pos rfl, if_pos (show (([] : List Int).length : Int) = 0 by rfl), known_k _ (by omega)]; rfl
      rw [if_neg h2]
      by_cases h3 : ((l.length : Int) * a1 + a2 - 1) / a2 > 200000
      · rw [if_pos h3, Option.bind_some, if_neg (show ¬ (5 : Int) = 0 by decide), if_pos rfl, if_pos (show (([] : List Int).length : Int) = 0 by rfl), known_k _ (by omega)]; rfl
      rw [if_neg h3, Option.bind_some, if_pos rfl]
      have c1 : 1 ≤ a1 := Int.not_lt.1 (fun e => h2 (.inl e))
      have c2 : a1 ≤ 16 := Int.not_lt.1 (fun e => h2 (.inr (.inl e)))
      have c3 : 1 ≤ a2 := Int.not_lt.1 (fun e => h2 (.inr (.inr (.inl e))))
      have c4 : a2 ≤ 16 := Int.not_lt.1 (fun e => h2 (.inr (.inr (.inr (.inl e)))))
      have c5 : a0 * a1 % a2 = 0 := Decidable.not_not.1 (fun e => h2 (.inr (.inr (.inr (.inr (.inl e))))))
      have hR : a0 * a1 / a2 * a2 = a0 * a1 := Int.ediv_mul_cancel (Int.dvd_of_emod_eq_zero c5)
      obtain ⟨u, rfl⟩ := Int.eq_ofNat_of_zero_le (show 0 ≤ a1 by omega)
      obtain ⟨d, rfl⟩ := Int.eq_ofNat_of_zero_le (show 0 ≤ a2 by omega)
      have p4 : 0 ≤ (l.length : Int) * u := Int.mul_nonneg (by omega) (by omega)
      have hq : 0 ≤ ((l.length : Int) * u + d - 1) / d := Int.ediv_nonneg (by omega) (by omega)
      obtain ⟨m, hm2⟩ := Int.eq_ofNat_of_zero_le hq
      have hm0 : m = 0 ↔ l.length = 0 := by
        constructor
        · intro e
          rcases Nat.eq_zero_or_pos l.length with h | h
          · exact h
          · have hu : 1 * 1 ≤ (l.length : Int) * u := Int.mul_le_mul (by omega) (by omega) (by omega) (by omega)
            have : 1 ≤ ((l.length : Int) * u + d - 1) / d := (Int.le_ediv_iff_mul_le (by omega)).2 (by omega)
            omega
        · intro e
          rw [e] at hm2
          have e2 : (((0 : Nat) : Int) * u + d - 1) / d = 0 := Int.ediv_eq_zero_of_lt (by omega) (by omega)
          rw [e2] at hm2
          omega
      rw [hm2] at h3 ⊢
      simp only [Int.toNat_natCast]
      have hlen := resList_length l u d m
      have last : earshotlaw02_WaveSteady.j1 (K + 1) u d false a0 l (a0 * (u : Int) / d) (resList l u d m) = some true := by
        rw [earshotlaw02_WaveSteady.j1, if_neg (show ¬ (false : Bool) = true by decide)]
        by_cases h0 : (l.length : Int) = 0
        · rw [if_pos h0, known_k _ (by omega)]; rfl
        · rw [if_neg h0, if_pos (show 0 < (l.length : Int) by omega)]
          exact steady_l0 l (resList l u d m) u d a0 _ (by omega) (by omega) hR (fun lo hi h => resList_in h u d m (by omega) (by omega) (by omega)) l.length K 0 _ _ (by omega) (by omega) (fun j hj => absurd hj (Nat.not_lt_zero _))
      rw [if_neg (show ¬ ((((resList l u d m).length : Int) == 0) != ((l.length : Int) == 0)) = true by
        rw [hlen]
        by_cases h0 : m = 0
        · have := hm0.1 h0
          simp [h0, this]
        · have h9 : ¬ l.length = 0 := fun e => h0 (hm0.2 e)
          have g1 : ((m : Int) == 0) = false := beq_eq_false_iff_ne.2 (by omega)
          have g2 : ((l.length : Int) == 0) = false := beq_eq_false_iff_ne.2 (by omega)
          rw [g1, g2]; decide)]
      by_cases hud : (u : Int) = d
      · obtain rfl : u = d := by omega
        have hml : m = l.length := by
          have h9 : ((l.length : Int) * u + u - 1) / u = l.length := by
            refine Int.ediv_eq_iff_of_pos (by omega) |>.2 ?_
            constructor
            · omega
            · have : ((l.length : Int) + 1) * u = l.length * u + u := by rw [Int.add_mul, Int.one_mul]
              omega
          omega
        rw [if_pos rfl]
        have hs : resList l u u m = l := by rw [hml]; exact resList_same l u (by omega)
        rw [hs] at last ⊢
        rw [same_self l (by omega) _ (by omega), Option.bind_some]
        exact last
      · rw [if_neg hud]
        exact last
    · rw [decide_eq_false he]; exact stop
end Go.Proofs.Ytigbfcodnbnicaa.Pure
