/- The law of clips over plain numbers: Clip returns the samples from one place to another, or the error; for every recording and segment. -/
import Derived.Test.YtigbfcodnbnicaaQValid
import Derived.Test.YtigbfcodnbnicaaQKnown
import Derived.Test.YtigbfcodnbnicaaQShort
import Derived.Test.YtigbfcodnbnicaaHResA
import Derived.Test.YtigbfcodnbnicaaXF14
set_option linter.unusedVariables false
set_option linter.unusedSimpArgs false
namespace Go.Proofs.Ytigbfcodnbnicaa.Pure
open Go.RowKit Go.Proofs.Ytigbfcodnbnicaa.P Go.Proofs.YtigbfcodnbnicaaW.PrintWords Go.Proofs.YtigbfcodnbnicaaW.PrintLast Go.Proofs.YtigbfcodnbnicaaW.PrintMore

theorem WaveClips (a0 : Int) (l : List Int) (s0 s1 : Int) (w0 : (Lit.int .i64 a0).wf = true) (hm : l.length ≤ maxLen) (hw : ∀ x ∈ l, (Lit.int .i64 x).wf = true) (w1 : (Lit.int .i64 s0).wf = true) (w2 : (Lit.int .i64 s1).wf = true) :
    ∃ k, earshotlaw02_WaveClips.f k a0 l s0 s1 = some true := by
  refine ⟨l.length + 100, ?_⟩
  obtain ⟨K, hK⟩ : ∃ K, l.length + 100 = K + 1 + 1 ∧ l.length + 98 ≤ K := ⟨l.length + 98, by omega, by omega⟩
  unfold earshotlaw02_WaveClips.f
  obtain ⟨b, hb⟩ := short_some (l.length : Int)
  rw [hb, Option.bind_some, known_k _ (by omega), hK.1]
  cases b with
  | false => rw [if_neg (by decide)]; rfl
  | true =>
    have hl := short_le hb
    rw [if_pos rfl, Wrong_eq a0 l (by omega) _ (by omega)]
    unfold wave_Clip.f
    rw [check_some, Option.bind_some]
    have stop : ∀ e : Int, e ≠ 0 → earshotlaw02_WaveClips.j1 (K + 1) e e a0 l s0 s1 0 [] = some true := by
      intro e he
      rw [earshotlaw02_WaveClips.j1, if_neg he, if_pos rfl, if_pos rfl, if_pos (show (([] : List Int).length : Int) = 0 by rfl), known_k K (by omega)]; rfl
    by_cases he : recErr a0 l = 0
    · have h0 : l.length ≤ 200000 := by
        unfold recErr at he
        by_cases h : l.length > 200000
        · rw [if_pos h] at he; omega
        · omega
      rw [he, if_pos rfl]
      by_cases c1 : s0 < 0
      · rw [if_pos c1, Option.bind_some, Option.bind_some, if_pos rfl, if_pos c1, earshotlaw02_WaveClips.j0, if_pos rfl]
        exact stop 2 (by decide)
      rw [if_neg c1]
      by_cases c2 : s0 > s1
      · rw [if_pos c2, Option.bind_some, Option.bind_some, if_pos rfl, if_neg c1, if_pos (show s1 < s0 by omega), earshotlaw02_WaveClips.j0, if_pos rfl]
        exact stop 2 (by decide)
      rw [if_neg c2]
      by_cases c3 : s1 > (l.length : Int)
      · rw [if_pos c3, Option.bind_some, Option.bind_some, if_pos rfl, if_neg c1, if_neg (show ¬ s1 < s0 by omega), decide_eq_true c3, earshotlaw02_WaveClips.j0, if_pos rfl]
        exact stop 2 (by decide)
      have hlen : ((l.take s1.toNat).drop s0.toNat).length ≤ l.length := by rw [List.length_drop, List.length_take]; omega
      rw [if_neg c3, if_pos (show 0 ≤ s0 by omega), if_pos (show s0 ≤ s1 by omega), if_pos (show s1 ≤ (l.length : Int) by omega)]
      unfold slices_Clone_int_int.f
      rw [if_pos (show ((l.take s1.toNat).drop s0.toNat).length ≤ 17592186044000 by omega), Option.bind_some, Option.bind_some, Option.bind_some, if_pos rfl, if_neg c1, if_neg (show ¬ s1 < s0 by omega), decide_eq_false c3, earshotlaw02_WaveClips.j0, if_neg (by decide),
        earshotlaw02_WaveClips.j1, if_pos rfl, if_pos rfl, if_pos rfl, if_pos (show 0 ≤ s0 by omega), if_pos (show s0 ≤ s1 by omega), if_pos (show s1 ≤ (l.length : Int) by omega), same_self ((l.take s1.toNat).drop s0.toNat) (by omega) K (by omega), Option.bind_some, if_pos rfl, known_k K (by omega)]
      rfl
    · rw [if_neg he, Option.bind_some, Option.bind_some, if_neg he, earshotlaw02_WaveClips.j0, if_neg (by decide)]
      exact stop _ he
end Go.Proofs.Ytigbfcodnbnicaa.Pure
