/- The law of rates over plain numbers: Resample returns what the reference returns; for every recording and every up and down. -/
import Derived.Test.YtigbfcodnbnicaaQRes
import Derived.Test.YtigbfcodnbnicaaQKnown
import Derived.Test.YtigbfcodnbnicaaQShort
import Derived.Test.YtigbfcodnbnicaaXF3
set_option linter.unusedVariables false
set_option linter.unusedSimpArgs false
namespace Go.Proofs.Ytigbfcodnbnicaa.Pure
open Go.RowKit Go.Proofs.Ytigbfcodnbnicaa.P Go.Proofs.YtigbfcodnbnicaaW.PrintWords Go.Proofs.YtigbfcodnbnicaaW.PrintLast

theorem res_some (a0 : Int) (l : List Int) (a1 a2 : Int) : ∃ r, wave_Resample.f a0 l a1 a2 = some r ∧ r.2.1.length ≤ 200000 := by
  unfold wave_Resample.f
  by_cases h1 : recErr a0 l ≠ 0
  · rw [if_pos h1]; exact ⟨_, rfl, Nat.zero_le _⟩
  · rw [if_neg h1]
    by_cases h2 : a1 < 1 ∨ a1 > 16 ∨ a2 < 1 ∨ a2 > 16 ∨ a0 * a1 % a2 ≠ 0 ∨ a0 * a1 / a2 < 1 ∨ a0 * a1 / a2 > 192000
    · rw [if_pos h2]; exact ⟨_, rfl, Nat.zero_le _⟩
    · rw [if_neg h2]
      by_cases h3 : ((l.length : Int) * a1 + a2 - 1) / a2 > 200000
      · rw [if_pos h3]; exact ⟨_, rfl, Nat.zero_le _⟩
      · rw [if_neg h3]
        refine ⟨_, rfl, ?_⟩
        rw [resList_length]
        omega
theorem WaveResamples (a0 : Int) (l : List Int) (a1 a2 : Int) (w0 : (Lit.int .i64 a0).wf = true) (hm : l.length ≤ maxLen) (hw : ∀ x ∈ l, (Lit.int .i64 x).wf = true) (w1 : (Lit.int .i64 a1).wf = true) (w2 : (Lit.int .i64 a2).wf = true) : ∃ k, earshotlaw02_WaveResamples.f k a0 l a1 a2 = some true := by
  refine ⟨l.length + 200200, ?_⟩
  unfold earshotlaw02_WaveResamples.f
  obtain ⟨b, hb⟩ := short_some (l.length : Int)
  rw [hb, Option.bind_some, known_k _ (by omega)]
  cases b with
  | false => rw [if_neg (by decide)]; rfl
  | true =>
    have hl := short_le hb
    obtain ⟨r, hr, hlen⟩ := res_some a0 l a1 a2
    rw [if_pos rfl, Resample_eq a0 l a1 a2 (by omega) _ (by omega), hr]
    simp only [Option.bind_some, if_true]
    rw [same_self _ (by omega) _ (by omega), Option.bind_some, if_pos rfl]
end Go.Proofs.Ytigbfcodnbnicaa.Pure
