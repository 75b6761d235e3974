/- A recording keeps its range at every rate, and itself at the same rate, over plain numbers; for every recording and every up and down. -/
import Derived.Test.YtigbfcodnbnicaaQRes
set_option linter.unusedVariables false
set_option linter.unusedSimpArgs false
namespace Go.Proofs.Ytigbfcodnbnicaa.P
open Go.RowKit Go.Proofs.YtigbfcodnbnicaaW.PrintWords Go.Proofs.YtigbfcodnbnicaaW.PrintLast Go.Proofs.YtigbfcodnbnicaaW.PrintMore

theorem rnd_nn_in {a b lo hi : Int} (hb : 1 ≤ b) (ha : 0 ≤ a) (h1 : lo * b ≤ a) (h2 : a ≤ hi * b) : lo ≤ rnd a b ∧ rnd a b ≤ hi := by
  rw [rnd_nn ha]
  have e1 : lo * (2 * b) = 2 * (lo * b) := by rw [Int.mul_left_comm]
  have e2 : (hi + 1) * (2 * b) = 2 * (hi * b) + 2 * b := by rw [Int.add_mul, Int.mul_left_comm]; omega
  constructor
  · exact (Int.le_ediv_iff_mul_le (by omega)).2 (by omega)
  · have := Int.ediv_lt_of_lt_mul (a := 2 * a + b) (b := hi + 1) (c := 2 * b) (by omega) (by omega)
    omega
theorem rnd_in {a b lo hi : Int} (hb : 1 ≤ b) (h1 : lo * b ≤ a) (h2 : a ≤ hi * b) : lo ≤ rnd a b ∧ rnd a b ≤ hi := by
  by_cases h : a < 0
  · rw [rnd_neg h]
    have e1 : -hi * b = -(hi * b) := Int.neg_mul _ _
    have e2 : -lo * b = -(lo * b) := Int.neg_mul _ _
    have := rnd_nn_in (a := -a) (b := b) (lo := -hi) (hi := -lo) hb (by omega) (by omega) (by omega)
    omega
  · exact rnd_nn_in hb (by omega) h1 h2
theorem rnd_self {x b : Int} (hb : 1 ≤ b) : rnd (x * b) b = x := by
  have := rnd_in (a := x * b) (b := b) (lo := x) (hi := x) hb (Int.le_refl _) (Int.le_refl _)
  omega
theorem smoothSum_in {l : List Int} {lo hi : Int} (h : ∀ v ∈ l, lo ≤ v ∧ v ≤ hi) (hl : 0 < l.length) (i : Nat) : ∀ k : Nat, lo * (k : Int) ≤ smoothSum l i k ∧ smoothSum l i k ≤ hi * k
  | 0 => by simp [smoothSum]
  | k + 1 => by
    have ih := smoothSum_in h hl i k
    have hg := getD_bd h (min (i + k) (l.length - 1)) (by omega)
    rw [smoothSum_succ]
    have e1 : lo * ((k + 1 : Nat) : Int) = lo * k + lo := by push_cast; rw [Int.mul_add, Int.mul_one]
    have e2 : hi * ((k + 1 : Nat) : Int) = hi * k + hi := by push_cast; rw [Int.mul_add, Int.mul_one]
    omega
theorem smoothAt_in {l : List Int} {lo hi : Int} (h : ∀ v ∈ l, lo ≤ v ∧ v ≤ hi) (hl : 0 < l.length) (w i : Nat) (hw : 1 ≤ w) : lo ≤ smoothAt l w i ∧ smoothAt l w i ≤ hi := by
  have h1 := smoothSum_in h hl i w
  exact rnd_in (by omega) h1.1 h1.2
theorem resAt_in {l : List Int} {lo hi : Int} (h : ∀ v ∈ l, lo ≤ v ∧ v ≤ hi) (hl : 0 < l.length) (u d w j : Nat) (hw : 1 ≤ w) (hu : 1 ≤ u) : lo ≤ resAt l u d w j ∧ resAt l u d w j ≤ hi := by
  unfold resAt
  have s1 := smoothAt_in h hl w (j * d / u) hw
  have s2 := smoothAt_in h hl w (j * d / u + 1) hw
  have hf : j * d % u ≤ u := Nat.le_of_lt (Nat.mod_lt _ (by omega))
  generalize smoothAt l w (j * d / u) = S1 at *
  generalize smoothAt l w (j * d / u + 1) = S2 at *
  generalize j * d % u = f at *
  have p1 := Int.mul_le_mul_of_nonneg_right s1.1 (show 0 ≤ (u : Int) - f by omega)
  have p2 := Int.mul_le_mul_of_nonneg_right s1.2 (show 0 ≤ (u : Int) - f by omega)
  have p3 := Int.mul_le_mul_of_nonneg_right s2.1 (show 0 ≤ (f : Int) by omega)
  have p4 := Int.mul_le_mul_of_nonneg_right s2.2 (show 0 ≤ (f : Int) by omega)
  have e1 : lo * (u : Int) = lo * ((u : Int) - f) + lo * f := by rw [← Int.mul_add]; congr 1; omega
  have e2 : hi * (u : Int) = hi * ((u : Int) - f) + hi * f := by rw [← Int.mul_add]; congr 1; omega
  exact rnd_in (by omega) (by omega) (by omega)
theorem resList_in {l : List Int} {lo hi : Int} (h : ∀ v ∈ l, lo ≤ v ∧ v ≤ hi) (u d m : Nat) (hl : m ≠ 0 → 0 < l.length) (hu : 1 ≤ u) (hd : 1 ≤ d) : ∀ v ∈ resList l u d m, lo ≤ v ∧ v ≤ hi := by
  intro v hv
  unfold resList at hv
  rw [List.mem_map] at hv
  obtain ⟨j, hj, rfl⟩ := hv
  rw [List.mem_range] at hj
  exact resAt_in h (hl (by omega)) u d _ j ((Nat.le_div_iff_mul_le (by omega)).2 (by omega)) hu
theorem resList_same (l : List Int) (u : Nat) (hu : 1 ≤ u) : resList l u u l.length = l := by
  have hw : (u + u - 1) / u = 1 := Nat.div_eq_of_lt_le (by omega) (by omega)
  unfold resList
  rw [hw]
  apply List.ext_getElem
  · simp
  · intro j h1 h2
    simp only [List.getElem_map, List.getElem_range]
    unfold resAt
    rw [Nat.mul_div_cancel j (by omega), Nat.mul_mod_left]
    have e : smoothAt l 1 j = l[j] := by
      have := rnd_self (x := l[j]) (b := 1) (by omega)
      rw [Int.mul_one] at this
      unfold smoothAt
      simp
      rw [show min j (l.length - 1) = j by omega]
      simp [h2]
      exact this
    rw [e]
    simp
    exact rnd_self (by omega)
theorem mx_max (a b : Int) : mx a b = max a b := by unfold mx; rw [Int.max_def]; split <;> split <;> omega
theorem mn_min (a b : Int) : mn a b = min a b := by unfold mn; rw [Int.min_def]; split <;> split <;> omega
end Go.Proofs.Ytigbfcodnbnicaa.P
