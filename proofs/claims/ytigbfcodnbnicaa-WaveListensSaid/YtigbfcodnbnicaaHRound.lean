/- Division with rounding: what 'rounded' returns for numbers that are not great. -/
import Derived.Test.YtigbfcodnbnicaaHDefs
import Derived.Test.YtigbfcodnbnicaaXLeaf
set_option linter.unusedVariables false
set_option linter.unusedSimpArgs false
namespace Go.Proofs.Ytigbfcodnbnicaa.P
open Go.RowKit Go.Proofs.YtigbfcodnbnicaaW.PrintWords Go.Proofs.YtigbfcodnbnicaaW.PrintLast Go.Proofs.YtigbfcodnbnicaaW.PrintMore

theorem wr {x : Int} (h0 : -9223372036854775808 ≤ x) (h1 : x ≤ 9223372036854775807) : wrap64 x = x := by unfold wrap64; omega
theorem rnd_nn {a b : Int} (ha : 0 ≤ a) : rnd a b = (2 * a + b) / (2 * b) := by unfold rnd; rw [if_neg (by omega)]
theorem rnd_neg {a b : Int} (ha : a < 0) : rnd a b = -rnd (-a) b := by unfold rnd; rw [if_pos ha, if_neg (by omega)]
theorem rnd_le {a b : Int} (hb : 1 ≤ b) (ha : 0 ≤ a) : 0 ≤ rnd a b ∧ rnd a b ≤ a + 1 := by
  rw [rnd_nn ha]
  constructor
  · exact Int.ediv_nonneg (by omega) (by omega)
  · have h : (2 * a + b) < (a + 2) * (2 * b) := by
      have : (a + 2) * (2 * b) = 2 * (a * b) + 4 * b := by rw [Int.add_mul, Int.mul_left_comm]; omega
      have h2 : a ≤ a * b := by
        have := Int.mul_le_mul_of_nonneg_left hb ha
        omega
      omega
    have := Int.ediv_lt_of_lt_mul (by omega : 0 < 2 * b) h
    omega
theorem rounded_nn {k : Nat} {a b : Int} (hb : 1 ≤ b) (hb2 : b ≤ 1099511627776) (ha : 0 ≤ a) (ha2 : a ≤ 1152921504606846976) : wave_rounded.f (k + 1) a b = some (rnd a b) := by
  have h := rnd_le hb ha
  simp only [wave_rounded.f]
  rw [if_neg (by omega), wr (x := 2 * b) (by omega) (by omega), if_neg (by omega), wr (x := 2 * a) (by omega) (by omega), wr (x := 2 * a + b) (by omega) (by omega), Int.tdiv_eq_ediv_of_nonneg (by omega), ← rnd_nn ha, wr (by omega) (by omega)]
theorem rounded_some {k : Nat} {a b : Int} (hb : 1 ≤ b) (hb2 : b ≤ 1099511627776) (ha : -1152921504606846976 ≤ a) (ha2 : a ≤ 1152921504606846976) : wave_rounded.f (k + 2) a b = some (rnd a b) := by
  by_cases h : a < 0
  · have h2 := rnd_le hb (show 0 ≤ -a by omega)
    rw [show k + 2 = (k + 1) + 1 from rfl]
    unfold wave_rounded.f
    rw [if_pos h, wr (x := -a) (by omega) (by omega), rounded_nn hb hb2 (by omega) (by omega), Option.bind_some, wr (by omega) (by omega), rnd_neg h]
  · exact rounded_nn hb hb2 (by omega) ha2
end Go.Proofs.Ytigbfcodnbnicaa.P
