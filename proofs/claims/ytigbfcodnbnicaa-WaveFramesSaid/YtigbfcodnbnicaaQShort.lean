/- Which lists the laws go through: at most 3000 elements, or too many; no condition. -/
import Derived.Test.YtigbfcodnbnicaaXF21
namespace Go.Proofs.Ytigbfcodnbnicaa.P
theorem short_eq (n : Int) : earshotlaw02_short.f n = some (decide (n ≤ 3000 ∨ (200000 < n ∧ n < 250000))) := by
  unfold earshotlaw02_short.f
  by_cases h : n ≤ 3000
  · rw [if_pos h, decide_eq_true (.inl h)]
  · rw [if_neg h]
    by_cases h2 : n > 200000
    · rw [if_pos h2]
      congr 1
      exact decide_eq_decide.2 (by omega)
    · rw [if_neg h2, decide_eq_false (by omega)]
theorem short_some (n : Int) : ∃ b, earshotlaw02_short.f n = some b := ⟨_, short_eq n⟩
theorem short_le {n : Nat} (h : earshotlaw02_short.f (n : Int) = some true) : n ≤ 250000 := by
  rw [short_eq] at h
  have := of_decide_eq_true (Option.some.inj h)
  omega
end Go.Proofs.Ytigbfcodnbnicaa.P
