/- What the small printed functions return, in plain words, with enough rounds; lists of at most 2^62 elements. -/
import Derived.Test.YtigbfcodnbnicaaHRound
import Derived.Test.YtigbfcodnbnicaaHEnergy
import Derived.Test.YtigbfcodnbnicaaXLeaf
import Derived.Test.YtigbfcodnbnicaaXF27
import Derived.Test.YtigbfcodnbnicaaXF66
set_option linter.unusedVariables false
set_option linter.unusedSimpArgs false
namespace Go.Proofs.Ytigbfcodnbnicaa.P
open Go.RowKit Go.Proofs.YtigbfcodnbnicaaW.PrintWords Go.Proofs.YtigbfcodnbnicaaW.PrintLast Go.Proofs.YtigbfcodnbnicaaW.PrintMore

theorem succ_of {k n : Nat} (h : n < k) : ∃ m, k = m + 1 ∧ n ≤ m := ⟨k - 1, by omega, by omega⟩
theorem same_l0 (l : List Int) (hl : l.length ≤ 4611686018427387904) : ∀ (d k i : Nat), i + d = l.length → d < k → earshotref02_Same.l0 k l l i = some true := by
  intro d
  induction d with
  | zero =>
    intro k i h1 h2
    obtain ⟨k, rfl, _⟩ := succ_of h2
    simp only [earshotref02_Same.l0]
    rw [if_neg (by omega)]
  | succ d ih =>
    intro k i h1 h2
    obtain ⟨k, rfl, h3⟩ := succ_of h2
    simp only [earshotref02_Same.l0]
    rw [if_pos (by omega), if_pos (by omega), if_pos (by omega)]
    simp only [if_true]
    rw [w64 (by omega) (by omega), show ((i : Int) + 1) = ((i + 1 : Nat) : Int) from by omega]
    exact ih k (i + 1) (by omega) (by omega)
theorem same_self (l : List Int) (hl : l.length ≤ 4611686018427387904) (k : Nat) (hk : l.length < k) : earshotref02_Same.f k l l = some true := by
  unfold earshotref02_Same.f
  rw [if_pos rfl]
  exact same_l0 l hl l.length k 0 (by omega) hk
theorem all_l0 (l : List Int) (lo hi : Int) (hl : l.length ≤ 4611686018427387904) : ∀ (d k i : Nat), i + d = l.length → d < k → earshotref02_All.l0 k l lo hi i = some (inR lo hi (l.drop i)) := by
  intro d
  induction d with
  | zero =>
    intro k i h1 h2
    obtain ⟨k, rfl, _⟩ := succ_of h2
    simp only [earshotref02_All.l0]
    rw [if_neg (by omega), List.drop_eq_nil_of_le (by omega)]
    rfl
  | succ d ih =>
    intro k i h1 h2
    obtain ⟨k, rfl, h3⟩ := succ_of h2
    have hi' : i < l.length := by omega
    simp only [earshotref02_All.l0]
    rw [if_pos (by omega), if_pos (by omega), List.drop_eq_getElem_cons hi', rd_get hi']
    have e : inR lo hi (l[i] :: l.drop (i + 1)) = ((decide (lo ≤ l[i]) && decide (l[i] ≤ hi)) && inR lo hi (l.drop (i + 1))) := rfl
    rw [e]
    by_cases h4 : l[i] < lo
    · rw [if_pos h4, decide_eq_false (show ¬ lo ≤ l[i] by omega)]
      simp
    · rw [if_neg h4, decide_eq_true (show lo ≤ l[i] by omega)]
      by_cases h5 : l[i] > hi
      · rw [if_pos h5, decide_eq_false (show ¬ l[i] ≤ hi by omega)]
        simp
      · rw [if_neg h5, decide_eq_true (show l[i] ≤ hi by omega), w64 (by omega) (by omega), show ((i : Int) + 1) = ((i + 1 : Nat) : Int) from by omega, ih k (i + 1) (by omega) (by omega)]
        simp
theorem all_some (l : List Int) (lo hi : Int) (hl : l.length ≤ 4611686018427387904) (k : Nat) (hk : l.length < k) : earshotref02_All.f k l lo hi = some (inR lo hi l) := by
  unfold earshotref02_All.f
  have := all_l0 l lo hi hl l.length k 0 (by omega) hk
  simpa using this
theorem Round_nn {k : Nat} {a b : Int} (hb : 1 ≤ b) (hb2 : b ≤ 1099511627776) (ha : 0 ≤ a) (ha2 : a ≤ 1152921504606846976) : earshotref02_Round.f (k + 1) a b = some (rnd a b) := by
  have h := rnd_le hb ha
  simp only [earshotref02_Round.f]
  rw [if_neg (by omega), wr (x := 2 * b) (by omega) (by omega), if_neg (by omega), wr (x := 2 * a) (by omega) (by omega), wr (x := 2 * a + b) (by omega) (by omega), Int.tdiv_eq_ediv_of_nonneg (by omega), ← rnd_nn ha, wr (by omega) (by omega)]
theorem Round_some {k : Nat} {a b : Int} (hk : 2 ≤ k) (hb : 1 ≤ b) (hb2 : b ≤ 1099511627776) (ha : -1152921504606846976 ≤ a) (ha2 : a ≤ 1152921504606846976) : earshotref02_Round.f k a b = some (rnd a b) := by
  obtain ⟨k, rfl⟩ : ∃ m, k = (m + 1) + 1 := ⟨k - 2, by omega⟩
  by_cases h : a < 0
  · have h2 := rnd_le hb (show 0 ≤ -a by omega)
    unfold earshotref02_Round.f
    rw [if_pos h, wr (x := -a) (by omega) (by omega), Round_nn hb hb2 (by omega) (by omega), Option.bind_some, wr (by omega) (by omega), rnd_neg h]
  · exact Round_nn hb hb2 (by omega) ha2
theorem rounded_k {k : Nat} {a b : Int} (hk : 2 ≤ k) (hb : 1 ≤ b) (hb2 : b ≤ 1099511627776) (ha : -1152921504606846976 ≤ a) (ha2 : a ≤ 1152921504606846976) : wave_rounded.f k a b = some (rnd a b) := by
  obtain ⟨k, rfl⟩ : ∃ m, k = m + 2 := ⟨k - 2, by omega⟩
  exact rounded_some hb hb2 ha ha2
theorem inR_of {lo hi : Int} {l : List Int} (h : ∀ v ∈ l, lo ≤ v ∧ v ≤ hi) : inR lo hi l = true := by
  unfold inR
  rw [List.all_eq_true]
  intro v hv
  have := h v hv
  simp only [Bool.and_eq_true, decide_eq_true_eq]
  exact this
theorem wf64 {x : Int} (h : (Lit.int .i64 x).wf = true) : -9223372036854775808 ≤ x ∧ x ≤ 9223372036854775807 := by
  have hmin : IntKind.i64.min = -9223372036854775808 := rfl
  have hmax : IntKind.i64.max = 9223372036854775807 := rfl
  simp only [Lit.wf, Bool.and_eq_true, decide_eq_true_eq] at h
  omega
end Go.Proofs.Ytigbfcodnbnicaa.P
