/- The law of packing over plain numbers: Pack returns the reference's bytes, or the error; for every recording. -/
import Derived.Test.YtigbfcodnbnicaaQValid
import Derived.Test.YtigbfcodnbnicaaQKnown
import Derived.Test.YtigbfcodnbnicaaQShort
import Derived.Test.YtigbfcodnbnicaaHResA
import Derived.Test.YtigbfcodnbnicaaXF17
set_option linter.unusedVariables false
set_option linter.unusedSimpArgs false
namespace Go.Proofs.Ytigbfcodnbnicaa.Pure
open Go.RowKit Go.Proofs.Ytigbfcodnbnicaa.P Go.Proofs.YtigbfcodnbnicaaW.PrintWords Go.Proofs.YtigbfcodnbnicaaW.PrintLast Go.Proofs.YtigbfcodnbnicaaW.PrintMore

theorem WavePacks (a0 : Int) (l : List Int) (w0 : (Lit.int .i64 a0).wf = true) (hm : l.length ≤ maxLen) (hw : ∀ x ∈ l, (Lit.int .i64 x).wf = true) : ∃ k, earshotlaw02_WavePacks.f k a0 l = some true := by
  refine ⟨l.length + 100, ?_⟩
  unfold earshotlaw02_WavePacks.f
  obtain ⟨b, hb⟩ := short_some (l.length : Int)
  rw [hb, Option.bind_some, known_k _ (by omega)]
  cases b with
  | false => rw [if_neg (by decide)]; rfl
  | true =>
    have hl := short_le hb
    unfold wave_Pack.f wave_Valid.f earshotref02_Pack.f
    rw [if_pos rfl, Wrong_eq a0 l (by omega) _ (by omega), Valid_eq a0 l (by omega) _ (by omega), check_some]
    by_cases he : recErr a0 l = 0
    · rw [he]
      simp
    · have h1 : (recErr a0 l == 0) = false := beq_eq_false_iff_ne.2 he
      rw [if_pos he]
      simp only [Option.bind_some, h1, decide_eq_false he, if_neg he]
      simp
end Go.Proofs.Ytigbfcodnbnicaa.Pure
