/- Which recordings the reference takes for valid, over plain numbers; for lists of at most 2^62 samples. -/
import Derived.Test.YtigbfcodnbnicaaQBase
import Derived.Test.YtigbfcodnbnicaaXF46
set_option linter.unusedVariables false
set_option linter.unusedSimpArgs false
namespace Go.Proofs.Ytigbfcodnbnicaa.P
open Go.RowKit Go.Proofs.YtigbfcodnbnicaaW.PrintWords Go.Proofs.YtigbfcodnbnicaaW.PrintLast Go.Proofs.YtigbfcodnbnicaaW.PrintMore

theorem Valid_eq (a : Int) (l : List Int) (hl : l.length ≤ 4611686018427387904) (k : Nat) (hk : l.length < k) : earshotref02_Valid.f k a l = some (decide (recErr a l = 0)) := by
  unfold earshotref02_Valid.f recErr
  by_cases h1 : l.length > 200000
  · rw [if_pos h1]
    by_cases c1 : a ≥ 1
    · rw [if_pos c1]
      by_cases c2 : a ≤ 192000
      · rw [if_pos c2, if_neg (show ¬ (l.length : Int) ≤ 200000 by omega)]; rfl
      · rw [if_neg c2]; rfl
    · rw [if_neg c1]; rfl
  · rw [if_neg h1]
    by_cases c1 : a ≥ 1
    · rw [if_pos c1]
      by_cases c2 : a ≤ 192000
      · rw [if_pos c2, if_pos (show (l.length : Int) ≤ 200000 by omega), all_some l _ _ hl k hk, Option.bind_some]
        have d1 : ¬ a < 1 := by omega
        have d2 : ¬ a > 192000 := by omega
        cases inR (-32768) 32767 l <;> simp [d1, d2]
      · rw [if_neg c2, if_pos (.inr (.inl (by omega)))]; rfl
    · rw [if_neg c1, if_pos (.inl (by omega))]; rfl
theorem Wrong_eq (a : Int) (l : List Int) (hl : l.length ≤ 4611686018427387904) (k : Nat) (hk : l.length < k) : earshotref02_Wrong.f k a l = some (recErr a l) := by
  unfold earshotref02_Wrong.f
  rw [Valid_eq a l hl k hk, Option.bind_some]
  by_cases h1 : l.length > 200000
  · rw [if_pos (show (l.length : Int) > 200000 by omega)]
    unfold recErr
    rw [if_pos h1]
  · rw [if_neg (show ¬ (l.length : Int) > 200000 by omega)]
    have h2 : recErr a l = 0 ∨ recErr a l = 2 := by
      unfold recErr
      rw [if_neg h1]
      split
      · exact .inr rfl
      · exact .inl rfl
    rcases h2 with h | h
    · rw [h]; rfl
    · rw [h]; rfl
theorem resList_length (l : List Int) (u d m : Nat) : (resList l u d m).length = m := by simp [resList]
end Go.Proofs.Ytigbfcodnbnicaa.P
