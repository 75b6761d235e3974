/- The law of restoring over plain numbers: what Emphasize returns is undone by Restore and the other way round, for every list and numbers. -/
import Derived.Test.YtigbfcodnbnicaaQEmph
import Derived.Test.YtigbfcodnbnicaaQKnown
import Derived.Test.YtigbfcodnbnicaaXF16
set_option linter.unusedVariables false
set_option linter.unusedSimpArgs false
namespace Go.Proofs.Ytigbfcodnbnicaa.Pure
open Go.RowKit Go.Proofs.Ytigbfcodnbnicaa.P Go.Proofs.YtigbfcodnbnicaaW.PrintWords Go.Proofs.YtigbfcodnbnicaaW.PrintLast

theorem emF_zero {back : Bool} {l : List Int} {num den : Int} (h : (emF back l num den).2 = 0) :
    l.length ≤ 200000 ∧ inR (-2147483647) 2147483647 l = true ∧ okShape num den ∧ (emF back l num den).1 = (if back = true then rest num den l else emph num den l) ∧ inR (-2147483647) 2147483647 (if back = true then rest num den l else emph num den l) = true := by
  unfold emF at h ⊢
  by_cases h1 : valErr l = 0
  · obtain ⟨hl, hv⟩ := valErr_zero h1
    rw [if_neg (by omega)] at h ⊢
    by_cases h2 : okShape num den
    · rw [if_pos h2] at h ⊢
      unfold emOut at h ⊢
      by_cases h3 : inR (-2147483647) 2147483647 (if back = true then rest num den l else emph num den l) = true
      · rw [if_pos h3]
        exact ⟨hl, hv, h2, rfl, h3⟩
      · rw [if_neg h3] at h
        exact absurd h (show ¬ (2 : Int) = 0 by decide)
    · rw [if_neg h2] at h
      exact absurd h (show ¬ (2 : Int) = 0 by decide)
  · rw [if_pos h1] at h
    exact absurd h h1
theorem emF_back {back : Bool} {l : List Int} {num den : Int} (h : (emF back l num den).2 = 0) : emF (!back) (emF back l num den).1 num den = (l, 0) := by
  obtain ⟨hl, hv, hs, he, hr⟩ := emF_zero h
  have hlen : (emF back l num den).1.length = l.length := by
    rw [he]
    cases back
    · exact emph_length _ _ _
    · exact rest_length _ _ _
  rw [he] at hlen ⊢
  unfold emF emOut
  have e : valErr (if back = true then rest num den l else emph num den l) = 0 := by
    unfold valErr
    rw [if_neg (by omega), if_pos hr]
  rw [if_neg (by omega), if_pos hs]
  cases back
  · simp [rest_emph, hv]
  · simp [emph_rest, hv]
theorem WaveRestores (l : List Int) (a1 a2 : Int) (hm : l.length ≤ maxLen) (hw : ∀ x ∈ l, (Lit.int .i64 x).wf = true) (w1 : (Lit.int .i64 a1).wf = true) (w2 : (Lit.int .i64 a2).wf = true) : ∃ k, earshotlaw02_WaveRestores.f k l a1 a2 = some true := by
  refine ⟨l.length + 50, ?_⟩
  unfold earshotlaw02_WaveRestores.f
  rw [known_k _ (by omega)]
  by_cases hlong : (l.length : Int) > 3000
  · rw [if_pos hlong]; rfl
  · rw [if_neg hlong]
    have second : earshotlaw02_WaveRestores.j0 (l.length + 50) l a1 a2 = some true := by
      rw [show l.length + 50 = (l.length + 49) + 1 from rfl]
      simp only [earshotlaw02_WaveRestores.j0]
      rw [Restore_eq l a1 a2 _ (by omega), Option.bind_some, known_k _ (by omega)]
      by_cases h : (emF true l a1 a2).2 = 0
      · obtain ⟨_, _, _, he, _⟩ := emF_zero h
        have hlen : (emF true l a1 a2).1.length = l.length := by rw [he]; exact rest_length _ _ _
        have hb := emF_back h
        rw [if_pos h, Emphasize_eq _ a1 a2 _ (by omega), show (false : Bool) = !true from rfl, hb, Option.bind_some, if_pos rfl, same_self l (by omega) _ (by omega)]
        rfl
      · rw [if_neg h]; rfl
    rw [Emphasize_eq l a1 a2 _ (by omega), Option.bind_some, second]
    by_cases h : (emF false l a1 a2).2 = 0
    · obtain ⟨_, _, _, he, _⟩ := emF_zero h
      have hlen : (emF false l a1 a2).1.length = l.length := by rw [he]; exact emph_length _ _ _
      have hb := emF_back h
      rw [if_pos h, Restore_eq _ a1 a2 _ (by omega), show (true : Bool) = !false from rfl, hb, Option.bind_some, if_pos rfl, same_self l (by omega) _ (by omega)]
      rfl
    · rw [if_neg h]
end Go.Proofs.Ytigbfcodnbnicaa.Pure
