/- Lists of values over plain numbers: a list of which a part has been turned, and which lists are right; no condition. -/
import Derived.Test.YtigbfcodnbnicaaQBase
import Derived.Test.YtigbfcodnbnicaaXF55
set_option linter.unusedVariables false
set_option linter.unusedSimpArgs false
namespace Go.Proofs.Ytigbfcodnbnicaa.P
open Go.RowKit Go.Proofs.YtigbfcodnbnicaaW.PrintWords Go.Proofs.YtigbfcodnbnicaaW.PrintLast Go.Proofs.YtigbfcodnbnicaaW.PrintMore

theorem rd_getD (l : List Int) (i : Nat) : rd l i = l.getD i 0 := by simp [rd]
/-- A list whose first i elements are those of another one. -/
def mixT (E l : List Int) (i : Nat) : List Int := E.take i ++ l.drop i
theorem mix_length {E l : List Int} (h : E.length = l.length) (i : Nat) : (mixT E l i).length = l.length := by simp [mixT]; omega
theorem mix_set {E l : List Int} (h : E.length = l.length) {i : Nat} (hi : i < l.length) : (mixT E l i).set i (E.getD i 0) = mixT E l (i + 1) := by
  unfold mixT
  have hE : i < E.length := by omega
  have hm : min i E.length = i := by omega
  rw [List.set_append, if_neg (by rw [List.length_take]; omega), List.length_take, hm, Nat.sub_self, List.drop_eq_getElem_cons hi, List.set_cons_zero, List.take_succ_eq_append_getElem hE, List.append_assoc]
  simp [hE]
theorem mix_at {E l : List Int} (h : E.length = l.length) {i : Nat} (hi : i < l.length) : (mixT E l i).getD i 0 = l.getD i 0 := by
  unfold mixT
  have hm : min i E.length = i := by omega
  simp only [List.getD_eq_getElem?_getD]
  rw [List.getElem?_append_right (by rw [List.length_take]; omega), List.length_take, hm, Nat.sub_self, List.getElem?_drop, Nat.add_zero]
theorem mix_before {E l : List Int} (h : E.length = l.length) {i : Nat} (hi : i < l.length) (h0 : 1 ≤ i) : (mixT E l i).getD (i - 1) 0 = E.getD (i - 1) 0 := by
  unfold mixT
  simp only [List.getD_eq_getElem?_getD]
  rw [List.getElem?_append_left (by rw [List.length_take]; omega), List.getElem?_take_of_lt (by omega)]
theorem mix_end {E l : List Int} (h : E.length = l.length) {i : Nat} (hi : l.length ≤ i) : mixT E l i = E := by
  unfold mixT
  rw [List.take_of_length_le (by omega), List.drop_eq_nil_of_le hi, List.append_nil]
theorem mix_start {E l : List Int} (h : E.length = l.length) (h0 : E.getD 0 0 = l.getD 0 0) : mixT E l 1 = l := by
  unfold mixT
  cases E with
  | nil => cases l with
    | nil => rfl
    | cons y t => simp at h
  | cons x s => cases l with
    | nil => simp at h
    | cons y t =>
      simp at h0
      simp [h0]

/-! ### the elements are values -/
def isV (v : Int) : Prop := -2147483647 ≤ v ∧ v ≤ 2147483647
theorem vals_at {l : List Int} (h : inR (-2147483647) 2147483647 l = true) (i : Nat) : isV (l.getD i 0) := by
  unfold isV
  by_cases hi : i < l.length
  · have e : l.getD i 0 = l[i] := by simp [hi]
    rw [e]; exact inR_mem h _ (List.getElem_mem hi)
  · have e : l.getD i 0 = 0 := by simp [hi]
    rw [e]; omega
theorem wnx {i : Nat} (h : i ≤ 4611686018427387904) : wrap64 ((i : Int) + 1) = ((i + 1 : Nat) : Int) := by rw [w64 (by omega) (by omega)]; omega
theorem wpv {i : Nat} (h0 : 1 ≤ i) (h : i ≤ 4611686018427387904) : wrap64 ((i : Int) - 1) = ((i - 1 : Nat) : Int) := by rw [w64 (by omega) (by omega)]; omega
theorem take_next {E : List Int} {i : Nat} (hi : i < E.length) : E.take i ++ [E.getD i 0] = E.take (i + 1) := by
  rw [List.take_succ_eq_append_getElem hi]; simp [hi]
theorem take_short {E : List Int} {i : Nat} (h : i ≤ 200000) : (E.take i).length < 17592186044416 := by rw [List.length_take]; omega
theorem inR_drop {lo hi : Int} {l : List Int} {i : Nat} (h : i < l.length) : inR lo hi (l.drop i) = ((decide (lo ≤ l.getD i 0) && decide (l.getD i 0 ≤ hi)) && inR lo hi (l.drop (i + 1))) := by
  rw [List.drop_eq_getElem_cons h]
  have e : l.getD i 0 = l[i] := by simp [h]
  rw [e]; rfl
theorem values_eq (l : List Int) : wave_values.f l = some (valErr l) := by
  unfold wave_values.f valErr
  by_cases h : l.length > 200000
  · rw [if_pos h, if_pos h]
  · rw [if_neg h, if_neg h]
    split <;> rfl
theorem valErr_zero {l : List Int} (h : valErr l = 0) : l.length ≤ 200000 ∧ inR (-2147483647) 2147483647 l = true := by
  unfold valErr at h
  by_cases h1 : l.length > 200000
  · rw [if_pos h1] at h; omega
  · rw [if_neg h1] at h
    by_cases h2 : inR (-2147483647) 2147483647 l = true
    · exact ⟨by omega, h2⟩
    · rw [if_neg h2] at h; omega
theorem Values_eq (l : List Int) (hl : l.length ≤ 4611686018427387904) (k : Nat) (hk : l.length < k) : earshotref02_Values.f k l = some (inR (-2147483647) 2147483647 l) := by
  unfold earshotref02_Values.f
  rw [all_some l _ _ hl k hk]
  rfl
end Go.Proofs.Ytigbfcodnbnicaa.P
