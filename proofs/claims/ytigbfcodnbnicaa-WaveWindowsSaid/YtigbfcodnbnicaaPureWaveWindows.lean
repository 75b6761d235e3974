/- The law of windows over plain numbers: what Window returns equals the reference, and the weights are symmetric, from 1 to 4096, and rise to the middle; for every kind and size. -/
import Derived.Test.YtigbfcodnbnicaaQWindows
set_option linter.unusedVariables false
set_option linter.unusedSimpArgs false
namespace Go.Proofs.Ytigbfcodnbnicaa.Pure
open Go.RowKit Go.Proofs.Ytigbfcodnbnicaa.P Go.Proofs.YtigbfcodnbnicaaW.PrintWords Go.Proofs.YtigbfcodnbnicaaW.PrintLast

theorem rnd_mono {a b c : Int} (hc : 1 ≤ c) (ha : 0 ≤ a) (hab : a ≤ b) : rnd a c ≤ rnd b c := by
  rw [rnd_nn ha, rnd_nn (by omega)]
  exact Int.ediv_le_ediv (by omega) (by omega)
theorem rnd_pos {a b : Int} (hb : 1 ≤ b) (ha : 0 ≤ a) (h : b ≤ 2 * a) : 1 ≤ rnd a b := by
  rw [rnd_nn ha]
  exact (Int.le_ediv_iff_mul_le (by omega)).2 (by omega)
theorem win_sym (k n d : Int) : winW k n (-d) = winW k n d := by
  unfold winW
  rw [show max (-d) (-(-d)) = max d (-d) by omega, Int.neg_mul_neg]
theorem win_bd (k n d : Int) (hk : 1 ≤ k ∧ k ≤ 3) (h1 : 1 ≤ n) (h2 : n ≤ 4096) (h3 : -(n - 1) ≤ d) (h4 : d ≤ n - 1) : 1 ≤ winW k n d ∧ winW k n d ≤ 4096 := by
  unfold winW
  by_cases c1 : k = 1
  · rw [if_pos c1]; omega
  · rw [if_neg c1]
    by_cases c2 : k = 2
    · rw [if_pos c2]
      obtain ⟨q, hq⟩ : ∃ q, q = max d (-d) := ⟨_, rfl⟩
      rw [← hq]
      have q1 : 0 ≤ q ∧ q ≤ n - 1 := by omega
      exact ⟨rnd_pos (by omega) (by omega) (by omega), (rnd_bd (m := 4096) (b := n + 1) (by omega) (by omega) (by omega)).2⟩
    · rw [if_neg c2]
      have b3 := (sq_bd (x := d) (m := n - 1) (by omega) (by omega)).1
      have b4 := (sq_bd (x := d) (m := n - 1) (by omega) (by omega)).2
      have e : (n + 1) * (n + 1) = (n - 1) * (n - 1) + 4 * n := by simp only [Int.add_mul, Int.mul_add, Int.sub_mul, Int.mul_sub]; omega
      have b5 : (n + 1) * (n + 1) ≤ 4097 * (n + 1) := Int.mul_le_mul_of_nonneg_right (by omega) (by omega)
      obtain ⟨A, hA⟩ : ∃ A, A = (n + 1) * (n + 1) := ⟨_, rfl⟩
      obtain ⟨D, hD⟩ : ∃ D, D = d * d := ⟨_, rfl⟩
      obtain ⟨B, hB⟩ : ∃ B, B = (n - 1) * (n - 1) := ⟨_, rfl⟩
      rw [← hA, ← hB] at e
      rw [← hA] at b5 ⊢
      rw [← hD] at b3 b4 ⊢
      rw [← hB] at b4
      clear hA hD hB
      exact ⟨rnd_pos (by omega) (by omega) (by omega), (rnd_bd (m := 4096) (b := A) (by omega) (by omega) (by omega)).2⟩
theorem win_rise (k n d : Int) (hk : 1 ≤ k ∧ k ≤ 3) (h1 : 1 ≤ n) (h2 : n ≤ 4096) (h3 : -(n - 1) ≤ d) (h4 : d + 2 ≤ 0) : winW k n d ≤ winW k n (d + 2) := by
  unfold winW
  by_cases c1 : k = 1
  · rw [if_pos c1, if_pos c1]; omega
  · rw [if_neg c1, if_neg c1]
    by_cases c2 : k = 2
    · rw [if_pos c2, if_pos c2]
      obtain ⟨q, hq⟩ : ∃ q, q = max d (-d) := ⟨_, rfl⟩
      obtain ⟨p, hp⟩ : ∃ p, p = max (d + 2) (-(d + 2)) := ⟨_, rfl⟩
      rw [← hq, ← hp]
      exact rnd_mono (by omega) (by omega) (by omega)
    · rw [if_neg c2, if_neg c2]
      have b3 := (sq_bd (x := d) (m := n - 1) (by omega) (by omega)).2
      have e : (n + 1) * (n + 1) = (n - 1) * (n - 1) + 4 * n := by simp only [Int.add_mul, Int.mul_add, Int.sub_mul, Int.mul_sub]; omega
      have e2 : (d + 2) * (d + 2) = d * d + 4 * d + 4 := by simp only [Int.add_mul, Int.mul_add]; omega
      obtain ⟨A, hA⟩ : ∃ A, A = (n + 1) * (n + 1) := ⟨_, rfl⟩
      obtain ⟨D, hD⟩ : ∃ D, D = d * d := ⟨_, rfl⟩
      obtain ⟨B, hB⟩ : ∃ B, B = (n - 1) * (n - 1) := ⟨_, rfl⟩
      have b6 : 1 ≤ A := by
        have := Int.mul_le_mul (show (1 : Int) ≤ n + 1 by omega) (show (1 : Int) ≤ n + 1 by omega) (by omega) (by omega)
        omega
      rw [e2]
      rw [← hA, ← hB] at e
      rw [← hA]
      rw [← hD] at b3 ⊢
      rw [← hB] at b3
      clear hA hD hB
      exact rnd_mono (by omega) (by omega) (by omega)
theorem rd_part (k : Int) (n i : Nat) (hi : i < n) : rd (winPart k n n) i = winW k n (2 * (i : Int) - (n - 1)) := by
  rw [rd_get (by rw [winPart_length]; exact hi)]
  simp [winPart]
theorem win_all (k : Int) (n : Nat) (hk : 1 ≤ k ∧ k ≤ 3) (h1 : 1 ≤ n) (h2 : n ≤ 4096) : inR 1 4096 (winPart k n n) = true := by
  refine inR_of ?_
  intro v hv
  unfold winPart at hv
  rw [List.mem_map] at hv
  obtain ⟨i, hi, rfl⟩ := hv
  rw [List.mem_range] at hi
  exact win_bd k n _ hk (by omega) (by omega) (by omega) (by omega)
theorem law_l0 (a : Int) (n : Nat) (hk : 1 ≤ a ∧ a ≤ 3) (h1 : 1 ≤ n) (h2 : n ≤ 4096) : ∀ (d k i : Nat), i + d = n → d + 41 ≤ k → earshotlaw02_WaveWindows.l0 k (winPart a n n) i = some true := by
  intro d
  have hlen := winPart_length a n n
  induction d with
  | zero =>
    intro k i h3 h4
    obtain ⟨k, rfl⟩ : ∃ m, k = m + 1 := ⟨k - 1, by omega⟩
    simp only [earshotlaw02_WaveWindows.l0]
    rw [if_neg (by omega), known_k k (by omega)]; rfl
  | succ d ih =>
    intro k i h3 h4
    obtain ⟨k, rfl⟩ : ∃ m, k = m + 1 := ⟨k - 1, by omega⟩
    have ihh := ih k (i + 1) (by omega) (by omega)
    have r1 := rd_part a n i (by omega)
    have r2 := rd_part a n (n - 1 - i) (by omega)
    have s : winW a n (2 * ((n - 1 - i : Nat) : Int) - (n - 1)) = winW a n (2 * (i : Int) - (n - 1)) := by
      rw [← win_sym a n (2 * (i : Int) - (n - 1))]
      congr 1
      omega
    rw [s] at r2
    have nx : ((i : Int) + 1) = ((i + 1 : Nat) : Int) := by omega
    have ny : ((n : Int) - 1 - i) = ((n - 1 - i : Nat) : Int) := by omega
    simp only [earshotlaw02_WaveWindows.l0]
    rw [hlen]
    have E1 : wrap64 ((n : Int) - 1) = n - 1 := w64 (by omega) (by omega)
    have E2 : wrap64 ((n : Int) - 1 - i) = ((n - 1 - i : Nat) : Int) := by rw [w64 (by omega) (by omega)]; exact ny
    have E3 : wrap64 ((i : Int) + 1) = ((i + 1 : Nat) : Int) := by rw [w64 (by omega) (by omega)]; exact nx
    rw [E1, E2, E3, r1, r2]
    clear E1 E2 E3
    rw [if_pos (by omega), if_pos (by omega), if_pos (by omega), if_pos (by omega), if_pos rfl]
    by_cases hi : (i : Int) > 0
    · rw [if_pos hi]
      have E4 : wrap64 (Int.tdiv ((n : Int) - 1) 2) = (n - 1) / 2 := by rw [Int.tdiv_eq_ediv_of_nonneg (by omega), w64 (by omega) (by omega)]
      have E5 : wrap64 ((i : Int) - 1) = ((i - 1 : Nat) : Int) := by rw [w64 (by omega) (by omega)]; omega
      rw [E4, E5]
      clear E4 E5
      by_cases hm : (i : Int) ≤ ((n : Int) - 1) / 2
      · have r3 := rd_part a n (i - 1) (by omega)
        have q := win_rise a n (2 * ((i - 1 : Nat) : Int) - (n - 1)) hk (by omega) (by omega) (by omega) (by omega)
        rw [show 2 * ((i - 1 : Nat) : Int) - (n - 1) + 2 = 2 * (i : Int) - (n - 1) by omega] at q
        rw [if_pos hm, if_pos (by omega), if_pos (by omega), r3, if_neg (by omega)]
        exact ihh
      · rw [if_neg hm]
        exact ihh
    · rw [if_neg hi]
      exact ihh
theorem WaveWindows : earshotlaw02_WaveWindows.Pure := by
  intro a0 a1 w0 w1
  refine ⟨6000, ?_⟩
  unfold earshotlaw02_WaveWindows.f
  rw [ref_Window a0 a1 6000 (by omega)]
  unfold wave_Window.f
  by_cases hc : 1 ≤ a0 ∧ a0 ≤ 3 ∧ 1 ≤ a1 ∧ a1 ≤ 4096
  · rw [if_pos hc, if_pos hc]
    obtain ⟨n, rfl⟩ := Int.eq_ofNat_of_zero_le (show 0 ≤ a1 by omega)
    have e : winList a0 (n : Int) = winPart a0 n n := by unfold winList winPart; rw [Int.toNat_natCast]
    have hlen := winPart_length a0 n n
    simp only [Option.bind_some]
    rw [e, same_self _ (by omega) _ (by omega), all_some _ _ _ (by omega) _ (by omega), win_all a0 n ⟨hc.1, hc.2.1⟩ (by omega) (by omega)]
    simp only [Option.bind_some, if_true, Bool.not_true]
    show earshotlaw02_WaveWindows.j0 (5999 + 1) (winPart a0 n n) false = some true
    simp only [earshotlaw02_WaveWindows.j0]
    rw [if_neg (by decide)]
    exact law_l0 a0 n ⟨hc.1, hc.2.1⟩ (by omega) (by omega) n 5999 0 (by omega) (by omega)
  · rw [if_neg hc, if_neg hc]
    simp [known_k 6000 (by omega)]
end Go.Proofs.Ytigbfcodnbnicaa.Pure
