/- Division with rounding keeps to what bounds its arguments; positive divisors. -/
import Derived.Test.YtigbfcodnbnicaaHRound
set_option linter.unusedVariables false
set_option linter.unusedSimpArgs false
namespace Go.Proofs.Ytigbfcodnbnicaa.P
open Go.RowKit Go.Proofs.YtigbfcodnbnicaaW.PrintWords Go.Proofs.YtigbfcodnbnicaaW.PrintLast Go.Proofs.YtigbfcodnbnicaaW.PrintMore

theorem rnd_nn_in {a b lo hi : Int} (hb : 1 ≤ b) (ha : 0 ≤ a) (h1 : lo * b ≤ a) (h2 : a ≤ hi * b) : lo ≤ rnd a b ∧ rnd a b ≤ hi := by
  rw [rnd_nn ha]
  have e1 : lo * (2 * b) = 2 * (lo * b) := by rw [Int.mul_left_comm]
  have e2 : (hi + 1) * (2 * b) = 2 * (hi * b) + 2 * b := by rw [Int.add_mul, Int.mul_left_comm]; omega
  constructor
  · exact (Int.le_ediv_iff_mul_le (by omega)).2 (by omega)
  · have := Int.ediv_lt_of_lt_mul (a := 2 * a + b) (b := hi + 1) (c := 2 * b) (by omega) (by omega)
    omega
theorem rnd_in {a b lo hi : Int} (hb : 1 ≤ b) (h1 : lo * b ≤ a) (h2 : a ≤ hi * b) : lo ≤ rnd a b ∧ rnd a b ≤ hi := by
  by_cases h : a < 0
  · rw [rnd_neg h]
    have e1 : -hi * b = -(hi * b) := Int.neg_mul _ _
    have e2 : -lo * b = -(lo * b) := Int.neg_mul _ _
    have := rnd_nn_in (a := -a) (b := b) (lo := -hi) (hi := -lo) hb (by omega) (by omega) (by omega)
    omega
  · exact rnd_nn_in hb (by omega) h1 h2
theorem rnd_self {x b : Int} (hb : 1 ≤ b) : rnd (x * b) b = x := by
  have := rnd_in (a := x * b) (b := b) (lo := x) (hi := x) hb (Int.le_refl _) (Int.le_refl _)
  omega
theorem mx_max (a b : Int) : mx a b = max a b := by unfold mx; rw [Int.max_def]; split <;> split <;> omega
theorem mn_min (a b : Int) : mn a b = min a b := by unfold mn; rw [Int.min_def]; split <;> split <;> omega
end Go.Proofs.Ytigbfcodnbnicaa.P
