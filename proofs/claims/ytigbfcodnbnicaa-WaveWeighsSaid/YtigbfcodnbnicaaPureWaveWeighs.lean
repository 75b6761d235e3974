/- The law of weighed frames over plain numbers: Weigh returns what the reference returns, and its energy is not greater than that of the frame; for every frame and kind. -/
import Derived.Test.YtigbfcodnbnicaaQVals
import Derived.Test.YtigbfcodnbnicaaQRnd
import Derived.Test.YtigbfcodnbnicaaQWindows
import Derived.Test.YtigbfcodnbnicaaXF13
set_option linter.unusedVariables false
set_option linter.unusedSimpArgs false
namespace Go.Proofs.Ytigbfcodnbnicaa.Pure
open Go.RowKit Go.Proofs.Ytigbfcodnbnicaa.P Go.Proofs.YtigbfcodnbnicaaW.PrintWords Go.Proofs.YtigbfcodnbnicaaW.PrintLast Go.Proofs.YtigbfcodnbnicaaW.PrintMore

/-- A frame, weighed. -/
def weighL : List Int → List Int → List Int
  | x :: t, c :: s => rnd (x * c) 4096 :: weighL t s
  | _, _ => []
theorem weigh_length : ∀ (l w : List Int), l.length = w.length → (weighL l w).length = l.length
  | [], [], _ => rfl
  | x :: t, c :: s, h => by
    have := weigh_length t s (by simpa using h)
    simp [weighL, this]
  | [], c :: s, h => by simp at h
  | x :: t, [], h => by simp at h
theorem weigh_at : ∀ (l w : List Int) (i : Nat), l.length = w.length → i < l.length → (weighL l w).getD i 0 = rnd (l.getD i 0 * w.getD i 0) 4096
  | [], _, i, _, h => absurd h (Nat.not_lt_zero _)
  | x :: t, [], i, h, _ => by simp at h
  | x :: t, c :: s, 0, _, _ => by simp [weighL]
  | x :: t, c :: s, i + 1, h, hi => by
    have := weigh_at t s i (by simpa using h) (by simp at hi; omega)
    simp only [weighL, List.getD_cons_succ]
    exact this
theorem rnd_between {x c : Int} (h1 : 1 ≤ c) (h2 : c ≤ 4096) : (0 ≤ x → 0 ≤ rnd (x * c) 4096 ∧ rnd (x * c) 4096 ≤ x) ∧ (x ≤ 0 → x ≤ rnd (x * c) 4096 ∧ rnd (x * c) 4096 ≤ 0) := by
  constructor
  · intro h
    have p1 : 0 ≤ x * c := Int.mul_nonneg h (by omega)
    have p2 : x * c ≤ x * 4096 := Int.mul_le_mul_of_nonneg_left h2 h
    exact rnd_in (by omega) (by omega) p2
  · intro h
    have p1 : -x * c ≥ 0 := Int.mul_nonneg (by omega) (by omega)
    have p2 : -x * c ≤ -x * 4096 := Int.mul_le_mul_of_nonneg_left h2 (by omega)
    rw [Int.neg_mul] at p1 p2
    exact rnd_in (by omega) (by omega) (by omega)
theorem sq_less {x y : Int} (h : (0 ≤ x → 0 ≤ y ∧ y ≤ x) ∧ (x ≤ 0 → x ≤ y ∧ y ≤ 0)) : y * y ≤ x * x := by
  rcases Int.le_total 0 x with h0 | h0
  · have := h.1 h0
    exact Int.mul_le_mul this.2 this.2 this.1 h0
  · have := h.2 h0
    have := Int.mul_le_mul (a := -y) (b := -y) (c := -x) (d := -x) (by omega) (by omega) (by omega) (by omega)
    rw [Int.neg_mul_neg, Int.neg_mul_neg] at this
    exact this
theorem weigh_energy : ∀ (l w : List Int), (∀ c ∈ w, 1 ≤ c ∧ c ≤ 4096) → sumsq (weighL l w) ≤ sumsq l
  | [], _, _ => by simp [weighL, sumsq]
  | x :: t, [], _ => by
    simp only [weighL]
    have : ∀ q : List Int, 0 ≤ sumsq q := by
      intro q
      induction q with
      | nil => simp [sumsq]
      | cons y q ih =>
        rw [sumsq_cons]
        have : 0 ≤ y * y := by
          rcases Int.le_total 0 y with h | h
          · exact Int.mul_nonneg h h
          · exact Int.mul_nonneg_of_nonpos_of_nonpos h h
        omega
    have := this (x :: t)
    simpa [sumsq] using this
  | x :: t, c :: s, h => by
    have ih := weigh_energy t s (fun v hv => h v (List.mem_cons_of_mem _ hv))
    have hc := h c List.mem_cons_self
    have := sq_less (rnd_between (x := x) hc.1 hc.2)
    simp only [weighL]
    rw [sumsq_cons, sumsq_cons]
    omega
theorem weigh_in : ∀ (l w : List Int) (lo hi : Int), lo ≤ 0 → 0 ≤ hi → (∀ c ∈ w, 1 ≤ c ∧ c ≤ 4096) → (∀ v ∈ l, lo ≤ v ∧ v ≤ hi) → ∀ v ∈ weighL l w, lo ≤ v ∧ v ≤ hi
  | [], _, _, _, _, _, _, _ => by simp [weighL]
  | x :: t, [], _, _, _, _, _, _ => by simp [weighL]
  | x :: t, c :: s, lo, hi, h1, h2, hc, hl => by
    intro v hv
    simp only [weighL, List.mem_cons] at hv
    rcases hv with rfl | hv
    · have hx := hl x List.mem_cons_self
      have hc := hc c List.mem_cons_self
      have b := rnd_between (x := x) hc.1 hc.2
      rcases Int.le_total 0 x with h | h
      · have := b.1 h; omega
      · have := b.2 h; omega
    · exact weigh_in t s lo hi h1 h2 (fun v hv => hc v (List.mem_cons_of_mem _ hv)) (fun v hv => hl v (List.mem_cons_of_mem _ hv)) v hv
theorem prod_w {x c : Int} (hx : isV x) (h1 : 1 ≤ c) (h2 : c ≤ 4096) : -9007199254740992 ≤ x * c ∧ x * c ≤ 9007199254740992 := by
  unfold isV at hx
  have := mul_bd (a := x) (b := c) (m := 2147483648) (n := 4096) (by omega) (by omega) (by omega) h2
  omega
theorem wei_l0 (l W : List Int) (hlen : l.length = W.length) (hl : l.length ≤ 200000) (hv : inR (-2147483647) 2147483647 l = true) (hW : ∀ c ∈ W, 1 ≤ c ∧ c ≤ 4096) : ∀ (d k i : Nat), i + d = l.length → d + 3 ≤ k →
    wave_Weigh.l0 k (mixT (weighL l W) W i) l l.length i = some (weighL l W, 0) := by
  have hE : (weighL l W).length = W.length := (weigh_length l W hlen).trans hlen
  intro d
  induction d with
  | zero =>
    intro k i h1 h2
    obtain ⟨k, rfl⟩ : ∃ m, k = m + 1 := ⟨k - 1, by omega⟩
    rw [wave_Weigh.l0, if_neg (show ¬ (i : Int) < (l.length : Int) by omega), mix_end hE (by omega)]
  | succ d ih =>
    intro k i h1 h2
    have ihh := ih (k - 1) (i + 1) (by omega) (by omega)
    obtain ⟨k, rfl⟩ : ∃ m, k = m + 1 := ⟨k - 1, by omega⟩
    rw [Nat.add_sub_cancel] at ihh
    have hx := vals_at hv i
    have hc := getD_bd hW i (by omega)
    have hp := prod_w hx hc.1 hc.2
    rw [wave_Weigh.l0, mix_length hE, wnx (by omega), rd_getD, rd_getD, mix_at hE (by omega), if_pos (show (i : Int) < (l.length : Int) by omega), if_pos (show 0 ≤ (i : Int) by omega), if_pos (show (i : Int) < (l.length : Int) by omega), if_pos (show (i : Int) < (W.length : Int) by omega), w64 (by omega) (by omega), rounded_k (by omega) (by omega) (by omega) (by omega) (by omega), Option.bind_some,
      ← weigh_at l W i hlen (by omega), Int.toNat_natCast, mix_set hE (by omega)]
    exact ihh
theorem ref_l0 (l W : List Int) (hlen : l.length = W.length) (hl : l.length ≤ 200000) (hv : inR (-2147483647) 2147483647 l = true) (hW : ∀ c ∈ W, 1 ≤ c ∧ c ≤ 4096) : ∀ (d k i : Nat), i + d = l.length → d + 3 ≤ k →
    earshotref02_Weigh.l0 k l W ((weighL l W).take i) i = some (weighL l W, true) := by
  have hE := weigh_length l W hlen
  intro d
  induction d with
  | zero =>
    intro k i h1 h2
    obtain ⟨k, rfl⟩ : ∃ m, k = m + 1 := ⟨k - 1, by omega⟩
    rw [earshotref02_Weigh.l0, if_neg (show ¬ (i : Int) < (l.length : Int) by omega), List.take_of_length_le (by omega)]
  | succ d ih =>
    intro k i h1 h2
    have ihh := ih (k - 1) (i + 1) (by omega) (by omega)
    obtain ⟨k, rfl⟩ : ∃ m, k = m + 1 := ⟨k - 1, by omega⟩
    rw [Nat.add_sub_cancel] at ihh
    have hx := vals_at hv i
    have hc := getD_bd hW i (by omega)
    have hp := prod_w hx hc.1 hc.2
    rw [earshotref02_Weigh.l0, wnx (by omega), rd_getD, rd_getD, if_pos (show (i : Int) < (l.length : Int) by omega), if_pos (show 0 ≤ (i : Int) by omega), if_pos (show (i : Int) < (W.length : Int) by omega), w64 (by omega) (by omega), Round_some (by omega) (by omega) (by omega) (by omega) (by omega), Option.bind_some,
      if_pos (take_short (by omega)), ← weigh_at l W i hlen (by omega), take_next (by omega)]
    exact ihh
theorem win_bds (k : Int) (n : Nat) (hk : 1 ≤ k ∧ k ≤ 3) (h1 : 1 ≤ n) (h2 : n ≤ 4096) : ∀ c ∈ winList k n, 1 ≤ c ∧ c ≤ 4096 := by
  intro v hv
  unfold winList at hv
  rw [List.mem_map] at hv
  obtain ⟨i, hi, rfl⟩ := hv
  rw [List.mem_range, Int.toNat_natCast] at hi
  exact win_bd k n _ hk (by omega) (by omega) (by omega) (by omega)
theorem WaveWeighs (l : List Int) (a1 : Int) (hm : l.length ≤ maxLen) (hw : ∀ x ∈ l, (Lit.int .i64 x).wf = true) (w1 : (Lit.int .i64 a1).wf = true) : ∃ k, earshotlaw02_WaveWeighs.f k l a1 = some true := by
  refine ⟨l.length + 7000, ?_⟩
  obtain ⟨K, hK⟩ : ∃ K, l.length + 7000 = K + 1 ∧ l.length + 6999 ≤ K := ⟨l.length + 6999, by omega, by omega⟩
  unfold earshotlaw02_WaveWeighs.f
  rw [hK.1, known_k _ (by omega)]
  by_cases hlong : (l.length : Int) > 5000
  · rw [if_pos hlong]; rfl
  rw [if_neg hlong]
  unfold wave_Weigh.f earshotref02_Weigh.f
  rw [values_eq, Option.bind_some, ref_Window a1 l.length (K + 1) (by omega), Option.bind_some]
  unfold wave_Window.f
  by_cases hc : 1 ≤ a1 ∧ a1 ≤ 3 ∧ 1 ≤ (l.length : Int) ∧ (l.length : Int) ≤ 4096
  · have hwin := win_bds a1 l.length ⟨hc.1, hc.2.1⟩ (by omega) (by omega)
    have hwl : l.length = (winList a1 l.length).length := by simp [winList]
    rw [if_pos hc, if_pos hc, Option.bind_some, if_pos rfl, if_pos rfl, Values_eq l (by omega) _ (by omega), Option.bind_some]
    by_cases hv : inR (-2147483647) 2147483647 l = true
    · have e : valErr l = 0 := by unfold valErr; rw [if_neg (show ¬ l.length > 200000 by omega), if_pos hv]
      have hE := weigh_length l _ hwl
      have h1 := wei_l0 l _ hwl (by omega) hv hwin l.length (K + 1) 0 (by omega) (by omega)
      have h2 := ref_l0 l _ hwl (by omega) hv hwin l.length K 0 (by omega) (by omega)
      have h3 : mixT (weighL l (winList a1 l.length)) (winList a1 l.length) 0 = winList a1 l.length := by simp [mixT]
      rw [h3] at h1
      rw [List.take_zero] at h2
      have h4 : wave_Weigh.l0 (K + 1) (winList a1 l.length) l l.length 0 = some (weighL l (winList a1 l.length), 0) := h1
      have h5 : earshotref02_Weigh.l0 K l (winList a1 l.length) [] 0 = some (weighL l (winList a1 l.length), true) := h2
      rw [e, if_pos rfl, h4, Option.bind_some, hv, earshotref02_Weigh.j0, if_neg (show ¬ (!true) = true by decide), h5, Option.bind_some, if_pos rfl, if_pos rfl, same_self (weighL l (winList a1 l.length)) (by omega) _ (by omega), Option.bind_some, earshotlaw02_WaveWeighs.j0, if_neg (show ¬ (!true) = true by decide)]
      have hen := weigh_energy l _ hwin
      unfold wave_Energy.f
      rw [if_neg (show ¬ l.length > 200000 by omega), if_neg (show ¬ (weighL l (winList a1 l.length)).length > 200000 by omega)]
      by_cases hs : inR (-65536) 65535 l = true
      · have hs2 : inR (-65536) 65535 (weighL l (winList a1 l.length)) = true := inR_of (weigh_in l _ _ _ (by decide) (by decide) hwin (inR_mem hs))
        rw [if_pos hs, if_pos hs2, Option.bind_some, Option.bind_some, if_pos rfl, if_pos rfl, if_pos hen, known_k K (by omega)]
        rfl
      · rw [if_neg hs, Option.bind_some]
        cases inR (-65536) 65535 (weighL l (winList a1 l.length)) with
        | true => rw [if_pos rfl, Option.bind_some, if_neg (show ¬ (2 : Int) = 0 by decide), known_k K (by omega)]; rfl
        | false => rw [if_neg (by decide), Option.bind_some, if_neg (show ¬ (2 : Int) = 0 by decide), known_k K (by omega)]; rfl
    · have e : valErr l = 2 := by unfold valErr; rw [if_neg (show ¬ l.length > 200000 by omega), if_neg hv]
      rw [e, if_neg (show ¬ (2 : Int) = 0 by decide), Option.bind_some, Bool.eq_false_iff.2 hv, earshotref02_Weigh.j0, if_pos (show (!false) = true by decide), Option.bind_some, if_neg (by decide), if_pos rfl, if_pos (show (([] : List Int).length : Int) = 0 by rfl)]
      rfl
  · rw [if_neg hc, if_neg hc, Option.bind_some, if_neg (show ¬ (false : Bool) = true by decide), earshotref02_Weigh.j0, if_pos rfl, Option.bind_some]
    have h2 : valErr l = 0 ∨ valErr l = 2 := by
      unfold valErr
      rw [if_neg (show ¬ l.length > 200000 by omega)]
      split
      · exact .inl rfl
      · exact .inr rfl
    rcases h2 with e | e
    · rw [e, if_pos rfl, if_neg (show ¬ (2 : Int) = 0 by decide), Option.bind_some, Option.bind_some, if_neg (by decide), if_pos rfl, if_pos (show (([] : List Int).length : Int) = 0 by rfl)]
    · rw [e, if_neg (show ¬ (2 : Int) = 0 by decide), Option.bind_some, Option.bind_some, if_neg (by decide), if_pos rfl, if_pos (show (([] : List Int).length : Int) = 0 by rfl)]
end Go.Proofs.Ytigbfcodnbnicaa.Pure
