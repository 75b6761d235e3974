/- The law of emphasis over plain numbers: Emphasize and Restore return what the reference returns, for every list and numbers. -/
import Derived.Test.YtigbfcodnbnicaaQEmph
import Derived.Test.YtigbfcodnbnicaaQKnown
import Derived.Test.YtigbfcodnbnicaaQShort
import Derived.Test.YtigbfcodnbnicaaXF15
set_option linter.unusedVariables false
set_option linter.unusedSimpArgs false
namespace Go.Proofs.Ytigbfcodnbnicaa.Pure
open Go.RowKit Go.Proofs.Ytigbfcodnbnicaa.P Go.Proofs.YtigbfcodnbnicaaW.PrintWords Go.Proofs.YtigbfcodnbnicaaW.PrintLast

theorem emOut_length (E : List Int) : (emOut E).1.length ≤ E.length := by
  unfold emOut
  split
  · exact Nat.le_refl _
  · exact Nat.zero_le _
theorem emF_length (back : Bool) (l : List Int) (num den : Int) : (emF back l num den).1.length ≤ l.length := by
  unfold emF
  by_cases h1 : valErr l ≠ 0
  · rw [if_pos h1]; exact Nat.zero_le _
  · rw [if_neg h1]
    by_cases h2 : okShape num den
    · rw [if_pos h2]
      refine Nat.le_trans (emOut_length _) ?_
      cases back
      · exact Nat.le_of_eq (emph_length _ _ _)
      · exact Nat.le_of_eq (rest_length _ _ _)
    · rw [if_neg h2]; exact Nat.zero_le _
theorem WaveEmphasizes (l : List Int) (a1 a2 : Int) (hm : l.length ≤ maxLen) (hw : ∀ x ∈ l, (Lit.int .i64 x).wf = true) (w1 : (Lit.int .i64 a1).wf = true) (w2 : (Lit.int .i64 a2).wf = true) : ∃ k, earshotlaw02_WaveEmphasizes.f k l a1 a2 = some true := by
  refine ⟨4 * l.length + 50, ?_⟩
  unfold earshotlaw02_WaveEmphasizes.f
  obtain ⟨b, hb⟩ := short_some (l.length : Int)
  rw [hb, Option.bind_some, known_k _ (by omega)]
  cases b with
  | false => rw [if_neg (by decide)]; rfl
  | true =>
    have hl := short_le hb
    have e1 := emF_length false l a1 a2
    have e2 := emF_length true l a1 a2
    rw [if_pos rfl, Emphasize_eq l a1 a2 _ (by omega), Restore_eq l a1 a2 _ (by omega), Emphasis_eq false l a1 a2 (by omega) _ (by omega), Emphasis_eq true l a1 a2 (by omega) _ (by omega)]
    simp only [Option.bind_some, if_true]
    rw [same_self _ (by omega) _ (by omega), Option.bind_some, if_pos rfl, same_self _ (by omega) _ (by omega), Option.bind_some, if_pos rfl]
end Go.Proofs.Ytigbfcodnbnicaa.Pure
