/- The law of windows over plain numbers: Window equals its reference, and its weights are symmetric and rise to the middle; for every kind and size. -/
import Derived.Test.YtigbfcodnbnicaaQBase
import Derived.Test.YtigbfcodnbnicaaQKnown
import Derived.Test.YtigbfcodnbnicaaHWindow
import Derived.Test.YtigbfcodnbnicaaXF5
set_option linter.unusedVariables false
set_option linter.unusedSimpArgs false
namespace Go.Proofs.Ytigbfcodnbnicaa.P
open Go.RowKit Go.Proofs.YtigbfcodnbnicaaW.PrintWords Go.Proofs.YtigbfcodnbnicaaW.PrintLast Go.Proofs.YtigbfcodnbnicaaW.PrintMore

theorem mx_eq (a b : Int) : mx a b = max a b := by unfold mx; rw [Int.max_def]; split <;> split <;> omega
theorem Window_l0 (x0 : Int) (n : Nat) (h0 : 1 ≤ x0 ∧ x0 ≤ 3) (hn : 1 ≤ n) (hn2 : n ≤ 4096) : ∀ (d k j : Nat), j + d = n → d + 2 < k → earshotref02_Window.l0 k x0 n (winPart x0 n j) j = some (winPart x0 n n, true) := by
  intro d
  induction d with
  | zero =>
    intro k j h1 h2
    obtain ⟨k, rfl, _⟩ := succ_of h2
    simp only [earshotref02_Window.l0]
    rw [if_neg (by omega), show j = n by omega]
  | succ d ih =>
    intro k j h1 h2
    obtain ⟨k, rfl, h3⟩ := succ_of h2
    have hlen := winPart_length x0 n j
    have b1 := (sq_bd (x := (n : Int) + 1) (m := 4097) (by omega) (by omega)).1
    have b2 := (sq_bd (x := (n : Int) + 1) (m := 4097) (by omega) (by omega)).2
    have b3 := (sq_bd (x := 2 * (j : Int) - (n - 1)) (m := 4096) (by omega) (by omega)).1
    have b4 := (sq_bd (x := 2 * (j : Int) - (n - 1)) (m := 4096) (by omega) (by omega)).2
    have b5 : 1 ≤ ((n : Int) + 1) * (n + 1) := by
      have := Int.mul_le_mul (show (1 : Int) ≤ n + 1 by omega) (show (1 : Int) ≤ (n : Int) + 1 by omega) (by omega) (by omega)
      omega
    have nx : ((j : Int) + 1) = ((j + 1 : Nat) : Int) := by omega
    have hs := ih k (j + 1) (by omega) (by omega)
    rw [winPart_succ] at hs
    simp only [earshotref02_Window.l0]
    rw [if_pos (by omega)]
    have E := Aside0.mk (⟨w64 (by omega) (by omega), w64 (by omega) (by omega), w64 (by omega) (by omega), w64 (by omega) (by omega), w64 (by omega) (by omega), (w64 (x := (j : Int) + 1) (by omega) (by omega)).trans nx⟩ : wrap64 (2 * (j : Int)) = 2 * j ∧ wrap64 ((n : Int) - 1) = n - 1 ∧ wrap64 (2 * (j : Int) - (n - 1)) = 2 * j - (n - 1) ∧ wrap64 (-(2 * (j : Int) - (n - 1))) = -(2 * j - (n - 1)) ∧ wrap64 ((n : Int) + 1) = n + 1 ∧ wrap64 ((j : Int) + 1) = ((j + 1 : Nat) : Int))
    by_cases c2 : x0 = 2
    · subst c2
      have hw : winW 2 n (2 * (j : Int) - (n - 1)) = rnd (4096 * ((n : Int) + 1 - max (2 * (j : Int) - (n - 1)) (-(2 * j - (n - 1))))) (n + 1) := by unfold winW; rw [if_neg (by omega), if_pos rfl]
      rw [hw] at hs
      clear hw b1 b2 b3 b4 b5
      simp only [if_true, E.out.1, E.out.2.1, E.out.2.2.1, E.out.2.2.2.1, E.out.2.2.2.2.1, mx_eq]
      obtain ⟨q, hq⟩ : ∃ q, q = max (2 * (j : Int) - (n - 1)) (-(2 * j - (n - 1))) := ⟨_, rfl⟩
      have hd : 0 ≤ q ∧ q ≤ 4096 := by omega
      rw [← hq] at hs ⊢
      clear hq
      rw [w64 (x := (n : Int) + 1 - q) (by omega) (by omega), w64 (x := 4096 * ((n : Int) + 1 - q)) (by omega) (by omega), Round_some (by omega) (by omega) (by omega) (by omega) (by omega), Option.bind_some, if_neg (by decide), if_pos (by omega), E.out.2.2.2.2.2]
      exact hs
    · rw [if_neg c2]
      by_cases c3 : x0 = 3
      · subst c3
        have hw : winW 3 n (2 * (j : Int) - (n - 1)) = rnd (4096 * (((n : Int) + 1) * (n + 1) - (2 * (j : Int) - (n - 1)) * (2 * (j : Int) - (n - 1)))) (((n : Int) + 1) * (n + 1)) := by unfold winW; rw [if_neg (by omega), if_neg (by omega)]
        rw [hw] at hs
        clear hw
        simp only [if_true, E.out.1, E.out.2.1, E.out.2.2.1, E.out.2.2.2.2.1]
        rw [w64 (x := ((n : Int) + 1) * (n + 1)) (by omega) (by omega), w64 (x := (2 * (j : Int) - (n - 1)) * (2 * (j : Int) - (n - 1))) (by omega) (by omega), w64 (x := ((n : Int) + 1) * (n + 1) - (2 * (j : Int) - (n - 1)) * (2 * (j : Int) - (n - 1))) (by omega) (by omega), w64 (x := 4096 * (((n : Int) + 1) * (n + 1) - (2 * (j : Int) - (n - 1)) * (2 * (j : Int) - (n - 1)))) (by omega) (by omega), Round_some (by omega) (by omega) (by omega) (by omega) (by omega), Option.bind_some, if_pos (by omega), E.out.2.2.2.2.2]
        exact hs
      · rw [if_neg c3, if_pos (by omega), E.out.2.2.2.2.2]
        obtain rfl : x0 = 1 := by omega
        have hw : winW 1 n (2 * (j : Int) - (n - 1)) = 4096 := by unfold winW; rw [if_pos rfl]
        rw [hw] at hs
        exact hs
theorem ref_Window (a0 a1 : Int) (k : Nat) (hk : 5000 ≤ k) : earshotref02_Window.f k a0 a1 = some (if 1 ≤ a0 ∧ a0 ≤ 3 ∧ 1 ≤ a1 ∧ a1 ≤ 4096 then (winList a0 a1, true) else ([], false)) := by
  obtain ⟨k, rfl, hk2⟩ := succ_of (show 4999 < k by omega)
  unfold earshotref02_Window.f
  by_cases hc : 1 ≤ a0 ∧ a0 ≤ 3 ∧ 1 ≤ a1 ∧ a1 ≤ 4096
  · rw [if_pos hc, if_neg (by omega), if_neg (by omega), if_neg (by omega), decide_eq_false (by omega)]
    simp only [earshotref02_Window.j0]
    obtain ⟨n, rfl⟩ := Int.eq_ofNat_of_zero_le (show 0 ≤ a1 by omega)
    have := Window_l0 a0 n ⟨hc.1, hc.2.1⟩ (by omega) (by omega) n k 0 (by omega) (by omega)
    have e : winList a0 (n : Int) = winPart a0 n n := by unfold winList winPart; rw [Int.toNat_natCast]
    rw [e, if_neg (by decide)]
    exact this
  · rw [if_neg hc]
    by_cases c1 : a1 < 1
    · rw [if_pos c1]; simp [earshotref02_Window.j0]
    · rw [if_neg c1]
      by_cases c2 : a1 > 4096
      · rw [if_pos c2]; simp [earshotref02_Window.j0]
      · rw [if_neg c2]
        by_cases c3 : a0 < 1
        · rw [if_pos c3]; simp [earshotref02_Window.j0]
        · rw [if_neg c3, decide_eq_true (by omega)]; simp [earshotref02_Window.j0]
theorem rnd_mono {a b c : Int} (hc : 1 ≤ c) (ha : 0 ≤ a) (hab : a ≤ b) : rnd a c ≤ rnd b c := by
  rw [rnd_nn ha, rnd_nn (by omega)]
  exact Int.ediv_le_ediv (by omega) (by omega)
theorem rnd_pos {a b : Int} (hb : 1 ≤ b) (ha : 0 ≤ a) (h : b ≤ 2 * a) : 1 ≤ rnd a b := by
  rw [rnd_nn ha]
  exact (Int.le_ediv_iff_mul_le (by omega)).2 (by omega)
theorem win_sym (k n d : Int) : winW k n (-d) = winW k n d := by
  unfold winW
  rw [show max (-d) (-(-d)) = max d (-d) by omega, Int.neg_mul_neg]
theorem win_bd (k n d : Int) (hk : 1 ≤ k ∧ k ≤ 3) (h1 : 1 ≤ n) (h2 : n ≤ 4096) (h3 : -(n - 1) ≤ d) (h4 : d ≤ n - 1) : 1 ≤ winW k n d ∧ winW k n d ≤ 4096 := by
  unfold winW
  by_cases c1 : k = 1
  · rw [if_pos c1]; omega
  · rw [if_neg c1]
    by_cases c2 : k = 2
    · rw [if_pos c2]
      obtain ⟨q, hq⟩ : ∃ q, q = max d (-d) := ⟨_, rfl⟩
      rw [← hq]
      have q1 : 0 ≤ q ∧ q ≤ n - 1 := by omega
      exact ⟨rnd_pos (by omega) (by omega) (by omega), (rnd_bd (m := 4096) (b := n + 1) (by omega) (by omega) (by omega)).2⟩
    · rw [if_neg c2]
      have b3 := (sq_bd (x := d) (m := n - 1) (by omega) (by omega)).1
      have b4 := (sq_bd (x := d) (m := n - 1) (by omega) (by omega)).2
      have e : (n + 1) * (n + 1) = (n - 1) * (n - 1) + 4 * n := by simp only [Int.add_mul, Int.mul_add, Int.sub_mul, Int.mul_sub]; omega
      have b5 : (n + 1) * (n + 1) ≤ 4097 * (n + 1) := Int.mul_le_mul_of_nonneg_right (by omega) (by omega)
      obtain ⟨A, hA⟩ : ∃ A, A = (n + 1) * (n + 1) := ⟨_, rfl⟩
      obtain ⟨D, hD⟩ : ∃ D, D = d * d := ⟨_, rfl⟩
      obtain ⟨B, hB⟩ : ∃ B, B = (n - 1) * (n - 1) := ⟨_, rfl⟩
      rw [← hA, ← hB] at e
      rw [← hA] at b5 ⊢
      rw [← hD] at b3 b4 ⊢
      rw [← hB] at b4
      clear hA hD hB
      exact ⟨rnd_pos (by omega) (by omega) (by omega), (rnd_bd (m := 4096) (b := A) (by omega) (by omega) (by omega)).2⟩
theorem win_rise (k n d : Int) (hk : 1 ≤ k ∧ k ≤ 3) (h1 : 1 ≤ n) (h2 : n ≤ 4096) (h3 : -(n - 1) ≤ d) (h4 : d + 2 ≤ 0) : winW k n d ≤ winW k n (d + 2) := by
  unfold winW
  by_cases c1 : k = 1
  · rw [if_pos c1, if_pos c1]; omega
  · rw [if_neg c1, if_neg c1]
    by_cases c2 : k = 2
    · rw [if_pos c2, if_pos c2]
      obtain ⟨q, hq⟩ : ∃ q, q = max d (-d) := ⟨_, rfl⟩
      obtain ⟨p, hp⟩ : ∃ p, p = max (d + 2) (-(d + 2)) := ⟨_, rfl⟩
      rw [← hq, ← hp]
      exact rnd_mono (by omega) (by omega) (by omega)
    · rw [if_neg c2, if_neg c2]
      have b3 := (sq_bd (x := d) (m := n - 1) (by omega) (by omega)).2
      have e : (n + 1) * (n + 1) = (n - 1) * (n - 1) + 4 * n := by simp only [Int.add_mul, Int.mul_add, Int.sub_mul, Int.mul_sub]; omega
      have e2 : (d + 2) * (d + 2) = d * d + 4 * d + 4 := by simp only [Int.add_mul, Int.mul_add]; omega
      obtain ⟨A, hA⟩ : ∃ A, A = (n + 1) * (n + 1) := ⟨_, rfl⟩
      obtain ⟨D, hD⟩ : ∃ D, D = d * d := ⟨_, rfl⟩
      obtain ⟨B, hB⟩ : ∃ B, B = (n - 1) * (n - 1) := ⟨_, rfl⟩
      have b6 : 1 ≤ A := by
        have := Int.mul_le_mul (show (1 : Int) ≤ n + 1 by omega) (show (1 : Int) ≤ n + 1 by omega) (by omega) (by omega)
        omega
      rw [e2]
      rw [← hA, ← hB] at e
      rw [← hA]
      rw [← hD] at b3 ⊢
      rw [← hB] at b3
      clear hA hD hB
      exact rnd_mono (by omega) (by omega) (by omega)
end Go.Proofs.Ytigbfcodnbnicaa.P
