/- The law of frames over plain numbers: Frames returns the reference's frames; for every list, size, step. -/
import Derived.Test.YtigbfcodnbnicaaQFrames
import Derived.Test.YtigbfcodnbnicaaQKnown
import Derived.Test.YtigbfcodnbnicaaQShort
import Derived.Test.YtigbfcodnbnicaaXF18
set_option linter.unusedVariables false
set_option linter.unusedSimpArgs false
namespace Go.Proofs.Ytigbfcodnbnicaa.Pure
open Go.RowKit Go.Proofs.Ytigbfcodnbnicaa.P Go.Proofs.YtigbfcodnbnicaaW.PrintWords Go.Proofs.YtigbfcodnbnicaaW.PrintLast Go.Proofs.YtigbfcodnbnicaaW.PrintMore

theorem frames_j0 (l : List Int) (hl : l.length ≤ 4611686018427387904) (a1 a2 : Int) (a3 q : Bool) (k : Nat) (hk : l.length + 900000002 < k) : earshotlaw02_WaveFrames.j0 k l a1 a2 a3 q = some true := by
  obtain ⟨k, rfl⟩ : ∃ m, k = m + 1 := ⟨k - 1, by omega⟩
  rw [earshotlaw02_WaveFrames.j0, known_k k (by omega)]
  by_cases hq : q = true
  · rw [if_pos hq]; rfl
  obtain ⟨r, e, h1, h2, h3⟩ := frames_some l hl a1 a2 a3
  rw [if_neg hq, RefFrames_eq l hl a1 a2 a3 k (by omega) (by omega), h1, Option.bind_some, Option.bind_some, if_pos rfl, lists_self r (by omega) 4096 h3 (by decide) k (by omega)]
  rfl
theorem frames_j0t (l : List Int) (a1 a2 : Int) (a3 : Bool) (k : Nat) (hk : 100 < k) : earshotlaw02_WaveFrames.j0 k l a1 a2 a3 true = some true := by
  obtain ⟨k, rfl⟩ : ∃ m, k = m + 1 := ⟨k - 1, by omega⟩
  rw [earshotlaw02_WaveFrames.j0, known_k k (by omega), if_pos rfl]
  rfl
theorem WaveFrames (l : List Int) (a1 a2 : Int) (a3 : Bool) (hm : l.length ≤ maxLen) (hw : ∀ x ∈ l, (Lit.int .i64 x).wf = true) (w1 : (Lit.int .i64 a1).wf = true) (w2 : (Lit.int .i64 a2).wf = true) : ∃ k, earshotlaw02_WaveFrames.f k l a1 a2 a3 = some true := by
  obtain ⟨K, hK⟩ : ∃ K, K = l.length + 900000010 := ⟨_, rfl⟩
  refine ⟨K, ?_⟩
  unfold earshotlaw02_WaveFrames.f
  obtain ⟨b, hb⟩ := short_some (l.length : Int)
  rw [hb, Option.bind_some]
  cases b with
  | false =>
    rw [if_neg (by decide)]
    exact frames_j0t l a1 a2 a3 K (by omega)
  | true =>
    have hl : l.length ≤ 4611686018427387904 := Nat.le_trans (short_le hb) (by decide)
    rw [if_pos rfl]
    have J : ∀ q, earshotlaw02_WaveFrames.j0 K l a1 a2 a3 q = some true := fun q => frames_j0 l hl a1 a2 a3 q _ (by omega)
    by_cases c1 : a1 > 0
    · rw [if_pos c1]
      by_cases c2 : a1 ≤ 4096
      · rw [if_pos c2]
        by_cases c3 : a2 > 0
        · rw [if_pos c3, if_neg (show ¬ a2 = 0 by omega)]
          split
          · exact J _
          · exact J _
        · rw [if_neg c3]; exact J _
      · rw [if_neg c2]; exact J _
    · rw [if_neg c1]; exact J _
end Go.Proofs.Ytigbfcodnbnicaa.Pure
