/- The law of measures over plain numbers: Energy, Changes and Peak return what the reference returns, or one error; for every list. -/
import Derived.Test.YtigbfcodnbnicaaQEmph
import Derived.Test.YtigbfcodnbnicaaQKnown
import Derived.Test.YtigbfcodnbnicaaQShort
import Derived.Test.YtigbfcodnbnicaaXF20
set_option linter.unusedVariables false
set_option linter.unusedSimpArgs false
namespace Go.Proofs.Ytigbfcodnbnicaa.Pure
open Go.RowKit Go.Proofs.Ytigbfcodnbnicaa.P Go.Proofs.YtigbfcodnbnicaaW.PrintWords Go.Proofs.YtigbfcodnbnicaaW.PrintLast Go.Proofs.YtigbfcodnbnicaaW.PrintMore

theorem changes_eq (l : List Int) : ∀ (k : Nat) (c i : Int), wave_Changes.l0 k l c i = (earshotref02_Changes.l0 k l c i).map fun x => (x, 0)
  | 0, c, i => rfl
  | k + 1, c, i => by
    have ih := changes_eq l k
    rw [wave_Changes.l0, earshotref02_Changes.l0]
    by_cases h1 : i < (l.length : Int)
    · rw [if_pos h1, if_pos h1]
      by_cases h2 : 0 ≤ wrap64 (i - 1)
      · rw [if_pos h2, if_pos h2]
        by_cases h3 : wrap64 (i - 1) < (l.length : Int)
        · rw [if_pos h3, if_pos h3]
          by_cases h4 : 0 ≤ i
          · rw [if_pos h4, if_pos h4]
            by_cases h5 : (decide (rd l (wrap64 (i - 1)) < 0) != decide (rd l i < 0)) = true
            · rw [if_pos h5, if_pos h5, ih]
            · rw [if_neg h5, if_neg h5, ih]
          · rw [if_neg h4, if_neg h4]; rfl
        · rw [if_neg h3, if_neg h3]; rfl
      · rw [if_neg h2, if_neg h2]; rfl
    · rw [if_neg h1, if_neg h1]; rfl
theorem changes_some (l : List Int) (hl : l.length ≤ 200000) : ∀ (d k i : Nat) (c : Int), 1 ≤ i → l.length ≤ i + d → d < k → ∃ r, earshotref02_Changes.l0 k l c i = some r := by
  intro d
  induction d with
  | zero =>
    intro k i c h1 h2 h3
    obtain ⟨k, rfl⟩ : ∃ m, k = m + 1 := ⟨k - 1, by omega⟩
    rw [earshotref02_Changes.l0, if_neg (show ¬ (i : Int) < (l.length : Int) by omega)]
    exact ⟨_, rfl⟩
  | succ d ih =>
    intro k i c h1 h2 h3
    by_cases hi : i < l.length
    · have ihh := fun c => ih (k - 1) (i + 1) c (by omega) (by omega) (by omega)
      obtain ⟨k, rfl⟩ : ∃ m, k = m + 1 := ⟨k - 1, by omega⟩
      simp only [Nat.add_sub_cancel] at ihh
      rw [earshotref02_Changes.l0, wnx (by omega), wpv h1 (by omega), if_pos (show (i : Int) < (l.length : Int) by omega), if_pos (show 0 ≤ ((i - 1 : Nat) : Int) by omega), if_pos (show ((i - 1 : Nat) : Int) < (l.length : Int) by omega), if_pos (show 0 ≤ (i : Int) by omega)]
      split
      · exact ihh _
      · exact ihh _
    · exact ih k i c h1 (by omega) (by omega)
theorem peak_eq (l : List Int) (hl : l.length ≤ 200000) (hv : inR (-2147483647) 2147483647 l = true) : ∀ (d k i : Nat) (at' most : Int), i + d = l.length → d < k →
    ((at' = -1 ∧ most = -1) ∨ ∃ j : Nat, j < l.length ∧ at' = j ∧ most = mx (l.getD j 0) (-(l.getD j 0))) → ∃ r, earshotref02_Peak.l0 k l at' i = some r ∧ wave_Peak.l0 k at' most l l.length i = some (r, 0) := by
  intro d
  induction d with
  | zero =>
    intro k i at' most h1 h2 hinv
    obtain ⟨k, rfl⟩ : ∃ m, k = m + 1 := ⟨k - 1, by omega⟩
    rw [earshotref02_Peak.l0, wave_Peak.l0, if_neg (show ¬ (i : Int) < (l.length : Int) by omega), if_neg (show ¬ (i : Int) < (l.length : Int) by omega)]
    exact ⟨_, rfl, rfl⟩
  | succ d ih =>
    intro k i at' most h1 h2 hinv
    have ihh := fun a m => ih (k - 1) (i + 1) a m (by omega) (by omega)
    obtain ⟨k, rfl⟩ : ∃ m, k = m + 1 := ⟨k - 1, by omega⟩
    simp only [Nat.add_sub_cancel] at ihh
    have hx := vals_at hv i
    have e1 : wrap64 (-(l.getD i 0)) = -(l.getD i 0) := by unfold isV at hx; exact w64 (by omega) (by omega)
    have hm : 0 ≤ mx (l.getD i 0) (-(l.getD i 0)) := by unfold mx; split <;> omega
    rw [earshotref02_Peak.l0, wave_Peak.l0, wnx (by omega), rd_getD, e1, if_pos (show (i : Int) < (l.length : Int) by omega), if_pos (show (i : Int) < (l.length : Int) by omega), if_pos (show 0 ≤ (i : Int) by omega), if_pos (show 0 ≤ (i : Int) by omega), if_pos (show (i : Int) < (l.length : Int) by omega)]
    rcases hinv with ⟨rfl, rfl⟩ | ⟨j, hj, rfl, rfl⟩
    · rw [if_pos (show (-1 : Int) < 0 by decide), if_pos (show mx (l.getD i 0) (-(l.getD i 0)) > -1 by omega)]
      exact ihh _ _ (.inr ⟨i, by omega, rfl, rfl⟩)
    · have hy := vals_at hv j
      have e2 : wrap64 (-(l.getD j 0)) = -(l.getD j 0) := by unfold isV at hy; exact w64 (by omega) (by omega)
      rw [if_neg (show ¬ (j : Int) < 0 by omega), if_pos (show 0 ≤ (j : Int) by omega), if_pos (show (j : Int) < (l.length : Int) by omega), rd_getD, e2]
      by_cases c : mx (l.getD i 0) (-(l.getD i 0)) > mx (l.getD j 0) (-(l.getD j 0))
      · rw [if_pos c, if_pos c]
        exact ihh _ _ (.inr ⟨i, by omega, rfl, rfl⟩)
      · rw [if_neg c, if_neg c]
        exact ihh _ _ (.inr ⟨j, hj, rfl, rfl⟩)
theorem refEnergy_l0 (l : List Int) (hl : l.length ≤ 200000) (hb : ∀ v ∈ l, -65536 ≤ v ∧ v ≤ 65535) : ∀ (d k i : Nat) (s : Int), i + d = l.length → d < k → 0 ≤ s → s ≤ 4294967296 * i →
    earshotref02_Energy.l0 k l s i = some (s + sumsq (l.drop i)) := by
  intro d
  induction d with
  | zero =>
    intro k i s h1 h2 h3 h4
    obtain ⟨k, rfl⟩ : ∃ m, k = m + 1 := ⟨k - 1, by omega⟩
    rw [earshotref02_Energy.l0, if_neg (show ¬ (i : Int) < (l.length : Int) by omega), List.drop_eq_nil_of_le (by omega)]
    simp [sumsq]
  | succ d ih =>
    intro k i s h1 h2 h3 h4
    obtain ⟨k, rfl⟩ : ∃ m, k = m + 1 := ⟨k - 1, by omega⟩
    have hi : i < l.length := by omega
    have hm := hb _ (rd_mem hi)
    have hq : 0 ≤ rd l i * rd l i ∧ rd l i * rd l i ≤ 4294967296 := by
      have := sumsq_bd (l := [rd l i]) (fun v hv => by obtain rfl := List.mem_singleton.mp hv; exact hm)
      simp [sumsq] at this
      exact this
    have e2 : sumsq (l.drop i) = rd l i * rd l i + sumsq (l.drop (i + 1)) := by rw [List.drop_eq_getElem_cons hi, sumsq_cons, rd_get hi]
    rw [earshotref02_Energy.l0, if_pos (show (i : Int) < (l.length : Int) by omega), if_pos (show 0 ≤ (i : Int) by omega), wnx (by omega), e2]
    generalize rd l (i : Int) * rd l (i : Int) = q at *
    rw [w64 (x := q) (by omega) (by omega), w64 (x := s + q) (by omega) (by omega), ih k (i + 1) (s + q) (by omega) (by omega) (by omega) (by omega)]
    congr 1
    omega
theorem inR_wider {l : List Int} (h : inR (-65536) 65535 l = true) : inR (-2147483647) 2147483647 l = true := by
  refine inR_of ?_
  intro v hv
  have := inR_mem h v hv
  omega
theorem WaveMeasures (l : List Int) (hm : l.length ≤ maxLen) (hw : ∀ x ∈ l, (Lit.int .i64 x).wf = true) : ∃ k, earshotlaw02_WaveMeasures.f k l = some true := by
  refine ⟨l.length + 100, ?_⟩
  obtain ⟨K, hK⟩ : ∃ K, l.length + 100 = K + 1 + 1 ∧ l.length + 98 ≤ K := ⟨l.length + 98, by omega, by omega⟩
  rw [hK.1]
  unfold earshotlaw02_WaveMeasures.f
  obtain ⟨b, hb⟩ := short_some (l.length : Int)
  rw [hb, Option.bind_some, known_k _ (by omega)]
  cases b with
  | false => rw [if_neg (by decide)]; rfl
  | true =>
    have hl := short_le hb
    rw [if_pos rfl]
    unfold wave_Energy.f wave_Changes.f wave_Peak.f
    rw [values_eq, Option.bind_some, Option.bind_some]
    by_cases h1 : l.length > 200000
    · have e : valErr l = 5 := by unfold valErr; rw [if_pos h1]
      rw [if_pos h1, e]
      simp only [Option.bind_some]
      rw [if_neg (show ¬ (5 : Int) = 0 by decide), if_neg (show ¬ (5 : Int) = 0 by decide)]
      simp only [Option.bind_some]
      rw [if_pos (show (l.length : Int) > 200000 by omega), earshotlaw02_WaveMeasures.j0, if_neg (show ¬ (5 : Int) = 0 by decide), known_k _ (by omega)]
      rfl
    · rw [if_neg h1]
      by_cases hv : inR (-2147483647) 2147483647 l = true
      · have e : valErr l = 0 := by unfold valErr; rw [if_neg h1, if_pos hv]
        obtain ⟨rc, hrc⟩ := changes_some l (by omega) l.length (K + 1 + 1) 1 0 (by omega) (by omega) (by omega)
        obtain ⟨rp, hp1, hp2⟩ := peak_eq l (by omega) hv l.length (K + 1 + 1) 0 (-1) (-1) (by omega) (by omega) (.inl ⟨rfl, rfl⟩)
        obtain ⟨rc', hrc'⟩ := changes_some l (by omega) l.length (K + 1) 1 0 (by omega) (by omega) (by omega)
        obtain ⟨rp', hp1', hp2'⟩ := peak_eq l (by omega) hv l.length (K + 1) 0 (-1) (-1) (by omega) (by omega) (.inl ⟨rfl, rfl⟩)
        have erc : rc' = rc := by
          have := earshotref02_Changes.mono_l (K + 1)
          have h9 := at_rounds (g := fun k => earshotref02_Changes.l0 k l 0 1) (fun k => earshotref02_Changes.mono_l k l 0 1) (Nat.le_succ (K + 1)) hrc'
          exact Option.some.inj (h9.symm.trans hrc)
        have erp : rp' = rp := by
          have h9 := at_rounds (g := fun k => earshotref02_Peak.l0 k l (-1) 0) (fun k => earshotref02_Peak.mono_l k l (-1) 0) (Nat.le_succ (K + 1)) hp1'
          exact Option.some.inj (h9.symm.trans hp1)
        have hc2 : wave_Changes.l0 (K + 1 + 1) l 0 1 = some (rc, 0) := by
          have := changes_eq l (K + 1 + 1) 0 1
          rw [this]
          have h9 : earshotref02_Changes.l0 (K + 1 + 1) l 0 1 = some rc := hrc
          rw [h9]; rfl
        rw [e, if_pos rfl, if_pos rfl, hc2]
        have hp3 : wave_Peak.l0 (K + 1 + 1) (-1) (-1) l l.length 0 = some (rp, 0) := hp2
        rw [hp3]
        have hrc2 : earshotref02_Changes.f (K + 1) l = some rc := by rw [← erc]; exact hrc'
        have hrp2 : earshotref02_Peak.f (K + 1) l = some rp := by rw [← erp]; exact hp1'
        have j1 : ∀ n e : Int, (n, e) = (if inR (-65536) 65535 l = true then (sumsq l, (0 : Int)) else (0, 2)) → earshotlaw02_WaveMeasures.j1 (K + 1) l n e false = some true := by
          intro n e hne
          rw [earshotlaw02_WaveMeasures.j1, if_neg (show ¬ (false : Bool) = true by decide), all_some l _ _ (by omega) K (by omega), Option.bind_some]
          by_cases hs : inR (-65536) 65535 l = true
          · rw [if_pos hs] at hne ⊢
            obtain ⟨rfl, rfl⟩ := Prod.mk.inj hne
            have he := refEnergy_l0 l (by omega) (inR_mem hs) l.length K 0 0 (by omega) (by omega) (by omega) (by omega)
            have he2 : earshotref02_Energy.f K l = some (sumsq l) := by
              unfold earshotref02_Energy.f
              have h9 : earshotref02_Energy.l0 K l 0 ((0 : Nat) : Int) = some (0 + sumsq (l.drop 0)) := he
              rw [List.drop_zero, Int.zero_add] at h9
              exact h9
            rw [if_pos rfl, he2, Option.bind_some, if_pos rfl, known_k K (by omega)]
            rfl
          · rw [if_neg hs] at hne ⊢
            obtain ⟨rfl, rfl⟩ := Prod.mk.inj hne
            rw [if_pos rfl, if_pos rfl, known_k K (by omega)]
            rfl
        have j0 : ∀ n e : Int, (n, e) = (if inR (-65536) 65535 l = true then (sumsq l, (0 : Int)) else (0, 2)) → earshotlaw02_WaveMeasures.j0 (K + 1 + 1) l n e rc 0 rp 0 0 = some true := by
          intro n e hne
          rw [earshotlaw02_WaveMeasures.j0, if_pos rfl, if_pos rfl, if_pos rfl, hrc2, Option.bind_some, if_pos rfl, hrp2, Option.bind_some, show (rp != rp) = false from bne_self_eq_false rp]
          exact j1 n e hne
        by_cases hs : inR (-65536) 65535 l = true
        · rw [if_pos hs]
          simp only [Option.bind_some]
          rw [if_neg (show ¬ (l.length : Int) > 200000 by omega), Values_eq l (by omega) _ (by omega), hv, Option.bind_some, if_pos rfl]
          exact j0 _ _ (by rw [if_pos hs])
        · rw [if_neg hs]
          simp only [Option.bind_some]
          rw [if_neg (show ¬ (l.length : Int) > 200000 by omega), Values_eq l (by omega) _ (by omega), hv, Option.bind_some, if_pos rfl]
          exact j0 _ _ (by rw [if_neg hs])
      · have e : valErr l = 2 := by unfold valErr; rw [if_neg h1, if_neg hv]
        have hs : ¬ inR (-65536) 65535 l = true := fun h => hv (inR_wider h)
        rw [if_neg hs, e]
        simp only [Option.bind_some]
        rw [if_neg (show ¬ (2 : Int) = 0 by decide), if_neg (show ¬ (2 : Int) = 0 by decide)]
        simp only [Option.bind_some]
        rw [if_neg (show ¬ (l.length : Int) > 200000 by omega), Values_eq l (by omega) _ (by omega), Bool.eq_false_iff.2 hv, Option.bind_some, if_neg (by decide), earshotlaw02_WaveMeasures.j0, if_neg (show ¬ (2 : Int) = 0 by decide), known_k _ (by omega)]
        rfl
end Go.Proofs.Ytigbfcodnbnicaa.Pure
