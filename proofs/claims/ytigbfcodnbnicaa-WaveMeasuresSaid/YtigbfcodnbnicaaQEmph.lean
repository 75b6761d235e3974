/- Emphasis and what undoes it, over plain numbers: what Emphasize, Restore and the reference's Emphasis return; for lists of values and numbers as defined. -/
import Derived.Test.YtigbfcodnbnicaaQBase
import Derived.Test.YtigbfcodnbnicaaHResample
import Derived.Test.YtigbfcodnbnicaaXMid
import Derived.Test.YtigbfcodnbnicaaXF48
import Derived.Test.YtigbfcodnbnicaaXF49
set_option linter.unusedVariables false
set_option linter.unusedSimpArgs false
namespace Go.Proofs.Ytigbfcodnbnicaa.P
open Go.RowKit Go.Proofs.YtigbfcodnbnicaaW.PrintWords Go.Proofs.YtigbfcodnbnicaaW.PrintLast Go.Proofs.YtigbfcodnbnicaaW.PrintMore

/-- The emphasis of a list behind an element p. -/
def emphT (num den : Int) : Int → List Int → List Int
  | _, [] => []
  | p, x :: t => (x - rnd (num * p) den) :: emphT num den x t
def emph (num den : Int) : List Int → List Int
  | [] => []
  | x :: t => x :: emphT num den x t
/-- What restores it. -/
def resT (num den : Int) : Int → List Int → List Int
  | _, [] => []
  | p, x :: t => (x + rnd (num * p) den) :: resT num den (x + rnd (num * p) den) t
def rest (num den : Int) : List Int → List Int
  | [] => []
  | x :: t => x :: resT num den x t
theorem emphT_length (num den : Int) : ∀ (p : Int) (l : List Int), (emphT num den p l).length = l.length
  | _, [] => rfl
  | p, x :: t => by simp [emphT, emphT_length num den x t]
theorem emph_length (num den : Int) (l : List Int) : (emph num den l).length = l.length := by
  cases l with
  | nil => rfl
  | cons x t => simp [emph, emphT_length]
theorem resT_length (num den : Int) : ∀ (p : Int) (l : List Int), (resT num den p l).length = l.length
  | _, [] => rfl
  | p, x :: t => by simp [resT, resT_length num den _ t]
theorem rest_length (num den : Int) (l : List Int) : (rest num den l).length = l.length := by
  cases l with
  | nil => rfl
  | cons x t => simp [rest, resT_length]
theorem resT_emphT (num den : Int) : ∀ (p : Int) (l : List Int), resT num den p (emphT num den p l) = l
  | _, [] => rfl
  | p, x :: t => by
    simp only [emphT, resT]
    rw [show x - rnd (num * p) den + rnd (num * p) den = x by omega, resT_emphT num den x t]
theorem rest_emph (num den : Int) (l : List Int) : rest num den (emph num den l) = l := by
  cases l with
  | nil => rfl
  | cons x t => simp [rest, emph, resT_emphT]
theorem emphT_resT (num den : Int) : ∀ (p : Int) (l : List Int), emphT num den p (resT num den p l) = l
  | _, [] => rfl
  | p, x :: t => by
    simp only [emphT, resT]
    rw [emphT_resT num den _ t, show x + rnd (num * p) den - rnd (num * p) den = x by omega]
theorem emph_rest (num den : Int) (l : List Int) : emph num den (rest num den l) = l := by
  cases l with
  | nil => rfl
  | cons x t => simp [rest, emph, emphT_resT]
theorem emphT_at (num den : Int) : ∀ (l : List Int) (p : Int) (i : Nat), i < l.length → (emphT num den p l).getD i 0 = l.getD i 0 - rnd (num * (if i = 0 then p else l.getD (i - 1) 0)) den
  | [], p, i, h => absurd h (Nat.not_lt_zero _)
  | x :: t, p, 0, h => by simp [emphT]
  | x :: t, p, i + 1, h => by
    have := emphT_at num den t x i (by simp at h; omega)
    simp only [emphT]
    rw [List.getD_cons_succ, this, List.getD_cons_succ]
    congr 2
    cases i with
    | zero => simp
    | succ i => simp
theorem emph_at (num den : Int) (l : List Int) (i : Nat) (h : i < l.length) (h0 : 1 ≤ i) : (emph num den l).getD i 0 = l.getD i 0 - rnd (num * l.getD (i - 1) 0) den := by
  cases l with
  | nil => exact absurd h (Nat.not_lt_zero _)
  | cons x t =>
    obtain ⟨i, rfl⟩ : ∃ m, i = m + 1 := ⟨i - 1, by omega⟩
    simp only [emph]
    rw [List.getD_cons_succ, emphT_at num den t x i (by simp at h; omega), List.getD_cons_succ]
    congr 2
    cases i with
    | zero => simp
    | succ i => simp
theorem resT_at (num den : Int) : ∀ (l : List Int) (p : Int) (i : Nat), i < l.length → (resT num den p l).getD i 0 = l.getD i 0 + rnd (num * (if i = 0 then p else (resT num den p l).getD (i - 1) 0)) den
  | [], p, i, h => absurd h (Nat.not_lt_zero _)
  | x :: t, p, 0, h => by simp [resT]
  | x :: t, p, i + 1, h => by
    have := resT_at num den t (x + rnd (num * p) den) i (by simp at h; omega)
    simp only [resT]
    rw [List.getD_cons_succ, this, List.getD_cons_succ]
    congr 2
    cases i with
    | zero => simp
    | succ i => simp
theorem rest_at (num den : Int) (l : List Int) (i : Nat) (h : i < l.length) (h0 : 1 ≤ i) : (rest num den l).getD i 0 = l.getD i 0 + rnd (num * (rest num den l).getD (i - 1) 0) den := by
  cases l with
  | nil => exact absurd h (Nat.not_lt_zero _)
  | cons x t =>
    obtain ⟨i, rfl⟩ : ∃ m, i = m + 1 := ⟨i - 1, by omega⟩
    simp only [rest]
    rw [List.getD_cons_succ, resT_at num den t x i (by simp at h; omega), List.getD_cons_succ]
    congr 2
    cases i with
    | zero => simp
    | succ i => simp
theorem emph_zero (num den : Int) (l : List Int) : (emph num den l).getD 0 0 = l.getD 0 0 := by cases l <;> rfl
theorem rest_zero (num den : Int) (l : List Int) : (rest num den l).getD 0 0 = l.getD 0 0 := by cases l <;> rfl
theorem rd_getD (l : List Int) (i : Nat) : rd l i = l.getD i 0 := by simp [rd]
/-- A list whose first i elements are those of another one. -/
def mixT (E l : List Int) (i : Nat) : List Int := E.take i ++ l.drop i
theorem mix_length {E l : List Int} (h : E.length = l.length) (i : Nat) : (mixT E l i).length = l.length := by simp [mixT]; omega
theorem mix_set {E l : List Int} (h : E.length = l.length) {i : Nat} (hi : i < l.length) : (mixT E l i).set i (E.getD i 0) = mixT E l (i + 1) := by
  unfold mixT
  have hE : i < E.length := by omega
  have hm : min i E.length = i := by omega
  rw [List.set_append, if_neg (by rw [List.length_take]; omega), List.length_take, hm, Nat.sub_self, List.drop_eq_getElem_cons hi, List.set_cons_zero, List.take_succ_eq_append_getElem hE, List.append_assoc]
  simp [hE]
theorem mix_at {E l : List Int} (h : E.length = l.length) {i : Nat} (hi : i < l.length) : (mixT E l i).getD i 0 = l.getD i 0 := by
  unfold mixT
  have hm : min i E.length = i := by omega
  simp only [List.getD_eq_getElem?_getD]
  rw [List.getElem?_append_right (by rw [List.length_take]; omega), List.length_take, hm, Nat.sub_self, List.getElem?_drop, Nat.add_zero]
theorem mix_before {E l : List Int} (h : E.length = l.length) {i : Nat} (hi : i < l.length) (h0 : 1 ≤ i) : (mixT E l i).getD (i - 1) 0 = E.getD (i - 1) 0 := by
  unfold mixT
  simp only [List.getD_eq_getElem?_getD]
  rw [List.getElem?_append_left (by rw [List.length_take]; omega), List.getElem?_take_of_lt (by omega)]
theorem mix_end {E l : List Int} (h : E.length = l.length) {i : Nat} (hi : l.length ≤ i) : mixT E l i = E := by
  unfold mixT
  rw [List.take_of_length_le (by omega), List.drop_eq_nil_of_le hi, List.append_nil]
theorem mix_start {E l : List Int} (h : E.length = l.length) (h0 : E.getD 0 0 = l.getD 0 0) : mixT E l 1 = l := by
  unfold mixT
  cases E with
  | nil => cases l with
    | nil => rfl
    | cons y t => simp at h
  | cons x s => cases l with
    | nil => simp at h
    | cons y t =>
      simp at h0
      simp [h0]

/-! ### the elements are values -/
def isV (v : Int) : Prop := -2147483647 ≤ v ∧ v ≤ 2147483647
theorem vals_at {l : List Int} (h : inR (-2147483647) 2147483647 l = true) (i : Nat) : isV (l.getD i 0) := by
  unfold isV
  by_cases hi : i < l.length
  · have e : l.getD i 0 = l[i] := by simp [hi]
    rw [e]; exact inR_mem h _ (List.getElem_mem hi)
  · have e : l.getD i 0 = 0 := by simp [hi]
    rw [e]; omega
theorem prod_bd {num den p : Int} (h1 : 0 ≤ num) (h2 : num ≤ den) (h3 : den ≤ 1024) (hp : isV p) : -2199023255552 ≤ num * p ∧ num * p ≤ 2199023255552 := by
  unfold isV at hp
  have := mul_bd (a := p) (b := num) (m := 2147483648) (n := 1024) (by omega) (by omega) h1 (by omega)
  rw [Int.mul_comm p num] at this
  omega
theorem rnd_abs {num den p : Int} (h1 : 0 ≤ num) (h2 : num ≤ den) (h0 : 1 ≤ den) (h3 : den ≤ 1024) (hp : isV p) : -2199023255553 ≤ rnd (num * p) den ∧ rnd (num * p) den ≤ 2199023255553 := by
  have hb := prod_bd h1 h2 h3 hp
  by_cases h : num * p < 0
  · rw [rnd_neg h]
    have := rnd_le h0 (show 0 ≤ -(num * p) by omega)
    omega
  · have := rnd_le h0 (show 0 ≤ num * p by omega)
    omega
theorem wnx {i : Nat} (h : i ≤ 4611686018427387904) : wrap64 ((i : Int) + 1) = ((i + 1 : Nat) : Int) := by rw [w64 (by omega) (by omega)]; omega
theorem wpv {i : Nat} (h0 : 1 ≤ i) (h : i ≤ 4611686018427387904) : wrap64 ((i : Int) - 1) = ((i - 1 : Nat) : Int) := by rw [w64 (by omega) (by omega)]; omega
theorem round_prod {k : Nat} {num den p : Int} (hk : 2 ≤ k) (h1 : 0 ≤ num) (h2 : num ≤ den) (h0 : 1 ≤ den) (h3 : den ≤ 1024) (hp : isV p) : wave_rounded.f k (wrap64 (num * p)) den = some (rnd (num * p) den) := by
  have b := prod_bd h1 h2 h3 hp
  obtain ⟨q, hq⟩ : ∃ q, q = num * p := ⟨_, rfl⟩
  rw [← hq] at b ⊢
  rw [w64 (by omega) (by omega), rounded_k hk h0 (by omega) (by omega) (by omega)]
theorem Round_prod {k : Nat} {num den p : Int} (hk : 2 ≤ k) (h1 : 0 ≤ num) (h2 : num ≤ den) (h0 : 1 ≤ den) (h3 : den ≤ 1024) (hp : isV p) : earshotref02_Round.f k (wrap64 (num * p)) den = some (rnd (num * p) den) := by
  have b := prod_bd h1 h2 h3 hp
  obtain ⟨q, hq⟩ : ∃ q, q = num * p := ⟨_, rfl⟩
  rw [← hq] at b ⊢
  rw [w64 (by omega) (by omega), Round_some hk h0 (by omega) (by omega) (by omega)]
theorem sub_val {num den p x : Int} (h1 : 0 ≤ num) (h2 : num ≤ den) (h0 : 1 ≤ den) (h3 : den ≤ 1024) (hp : isV p) (hx : isV x) : wrap64 (x - rnd (num * p) den) = x - rnd (num * p) den := by
  have b := rnd_abs h1 h2 h0 h3 hp
  unfold isV at hx
  exact w64 (by omega) (by omega)
theorem add_val {num den p x : Int} (h1 : 0 ≤ num) (h2 : num ≤ den) (h0 : 1 ≤ den) (h3 : den ≤ 1024) (hp : isV p) (hx : isV x) : wrap64 (x + rnd (num * p) den) = x + rnd (num * p) den := by
  have b := rnd_abs h1 h2 h0 h3 hp
  unfold isV at hx
  exact w64 (by omega) (by omega)
/-- What follows a new element q, if it is a value. -/
def goOn (q : Int) (a : Option (List Int × Int)) : Option (List Int × Int) := if q < -2147483647 then some ([], 2) else if q > 2147483647 then some ([], 2) else a
theorem goOn_eq {q : Int} {a : Option (List Int × Int)} {E : List Int} {i : Nat} (hi : i < E.length) (hq : q = E.getD i 0) (ha : isV q → a = some (if inR (-2147483647) 2147483647 (E.drop (i + 1)) = true then (E, 0) else ([], 2))) :
    goOn q a = some (if inR (-2147483647) 2147483647 (E.drop i) = true then (E, 0) else ([], 2)) := by
  have e : inR (-2147483647) 2147483647 (E.drop i) = ((decide (-2147483647 ≤ q) && decide (q ≤ 2147483647)) && inR (-2147483647) 2147483647 (E.drop (i + 1))) := by
    rw [List.drop_eq_getElem_cons hi]
    have e : q = E[i] := by rw [hq]; simp [hi]
    rw [e]; rfl
  rw [e]
  unfold goOn
  by_cases c1 : q < -2147483647
  · rw [if_pos c1, decide_eq_false (show ¬ -2147483647 ≤ q by omega)]
    simp
  · rw [if_neg c1, decide_eq_true (show -2147483647 ≤ q by omega)]
    by_cases c2 : q > 2147483647
    · rw [if_pos c2, decide_eq_false (show ¬ q ≤ 2147483647 by omega)]
      simp
    · rw [if_neg c2, decide_eq_true (show q ≤ 2147483647 by omega), ha ⟨by omega, by omega⟩]
      simp
theorem take_next {E : List Int} {i : Nat} (hi : i < E.length) : E.take i ++ [E.getD i 0] = E.take (i + 1) := by
  rw [List.take_succ_eq_append_getElem hi]; simp [hi]
theorem take_short {E : List Int} {i : Nat} (h : i ≤ 200000) : (E.take i).length < 17592186044416 := by rw [List.length_take]; omega
theorem inR_drop {lo hi : Int} {l : List Int} {i : Nat} (h : i < l.length) : inR lo hi (l.drop i) = ((decide (lo ≤ l.getD i 0) && decide (l.getD i 0 ≤ hi)) && inR lo hi (l.drop (i + 1))) := by
  rw [List.drop_eq_getElem_cons h]
  have e : l.getD i 0 = l[i] := by simp [h]
  rw [e]; rfl
def okShape (num den : Int) : Prop := 0 ≤ num ∧ num ≤ den ∧ 1 ≤ den ∧ den ≤ 1024
instance (num den : Int) : Decidable (okShape num den) := by unfold okShape; infer_instance
def emOut (E : List Int) : List Int × Int := if inR (-2147483647) 2147483647 E = true then (E, 0) else ([], 2)
def emF (back : Bool) (l : List Int) (num den : Int) : List Int × Int :=
  if valErr l ≠ 0 then ([], valErr l) else if okShape num den then emOut (if back = true then rest num den l else emph num den l) else ([], 2)
theorem values_eq (l : List Int) : wave_values.f l = some (valErr l) := by
  unfold wave_values.f valErr
  by_cases h : l.length > 200000
  · rw [if_pos h, if_pos h]
  · rw [if_neg h, if_neg h]
    split <;> rfl
theorem valErr_zero {l : List Int} (h : valErr l = 0) : l.length ≤ 200000 ∧ inR (-2147483647) 2147483647 l = true := by
  unfold valErr at h
  by_cases h1 : l.length > 200000
  · rw [if_pos h1] at h; omega
  · rw [if_neg h1] at h
    by_cases h2 : inR (-2147483647) 2147483647 l = true
    · exact ⟨by omega, h2⟩
    · rw [if_neg h2] at h; omega
theorem ratio_eq (l : List Int) (num den : Int) : wave_ratio.f l num den = some (if valErr l ≠ 0 then valErr l else if okShape num den then 0 else 2) := by
  unfold wave_ratio.f
  rw [values_eq, Option.bind_some]
  by_cases h : valErr l = 0
  · rw [if_pos h, if_neg (show ¬ valErr l ≠ 0 from fun e => e h)]
    by_cases hs : okShape num den
    · obtain ⟨s1, s2, s3, s4⟩ := id hs
      rw [if_pos hs, if_neg (show ¬ num < 0 by omega), if_neg (show ¬ num > den by omega), if_neg (show ¬ den < 1 by omega), if_neg (show ¬ den > 1024 by omega)]
    · rw [if_neg hs]
      by_cases c1 : num < 0
      · rw [if_pos c1]
      · rw [if_neg c1]
        by_cases c2 : num > den
        · rw [if_pos c2]
        · rw [if_neg c2]
          by_cases c3 : den < 1
          · rw [if_pos c3]
          · rw [if_neg c3]
            by_cases c4 : den > 1024
            · rw [if_pos c4]
            · exact absurd ⟨by omega, by omega, by omega, by omega⟩ hs
  · rw [if_neg h, if_pos h]
/-! ### Emphasize, Restore -/
theorem emph_l0 (l : List Int) (num den : Int) (hs : okShape num den) (hv : inR (-2147483647) 2147483647 l = true) (hl : l.length ≤ 200000) : ∀ (d k i : Nat), 1 ≤ i → l.length ≤ i + d → d + 4 ≤ k →
    wave_Emphasize.l0 k l num den (mixT (emph num den l) l i) i = some (emOut (emph num den l)) := by
  obtain ⟨s1, s2, s3, s4⟩ := hs
  have hEl := emph_length num den l
  intro d
  induction d with
  | zero =>
    intro k i h1 h2 h3
    obtain ⟨k, rfl⟩ : ∃ m, k = m + 1 := ⟨k - 1, by omega⟩
    simp only [wave_Emphasize.l0]
    rw [if_neg (show ¬ (i : Int) < (l.length : Int) by omega), mix_end hEl (by omega), values_eq, Option.bind_some]
    unfold emOut valErr
    rw [if_neg (show ¬ (emph num den l).length > 200000 by omega)]
    cases inR (-2147483647) 2147483647 (emph num den l)
    · rfl
    · rfl
  | succ d ih =>
    intro k i h1 h2 h3
    by_cases hi : i < l.length
    · have ihh := ih (k - 1) (i + 1) (by omega) (by omega) (by omega)
      obtain ⟨k, rfl⟩ : ∃ m, k = m + 1 := ⟨k - 1, by omega⟩
      rw [Nat.add_sub_cancel] at ihh
      have hp := vals_at hv (i - 1)
      have hx := vals_at hv i
      simp only [wave_Emphasize.l0]
      rw [mix_length hEl i, wnx (by omega), wpv h1 (by omega), rd_getD, rd_getD, mix_at hEl hi, if_pos (show (i : Int) < (l.length : Int) by omega), if_pos (show 0 ≤ (i : Int) by omega), if_pos (show (i : Int) < (l.length : Int) by omega), if_pos (show 0 ≤ ((i - 1 : Nat) : Int) by omega), if_pos (show ((i - 1 : Nat) : Int) < (l.length : Int) by omega),
        round_prod (by omega) s1 s2 s3 s4 hp, Option.bind_some, sub_val s1 s2 s3 s4 hp hx, ← emph_at num den l i hi h1, Int.toNat_natCast, mix_set hEl hi]
      exact ihh
    · exact ih k i (by omega) (by omega) (by omega)
theorem Emphasize_eq (l : List Int) (num den : Int) (k : Nat) (hk : l.length + 5 ≤ k) : wave_Emphasize.f k l num den = some (emF false l num den) := by
  unfold wave_Emphasize.f emF
  rw [ratio_eq, Option.bind_some]
  by_cases h : valErr l = 0
  · obtain ⟨hl, hv⟩ := valErr_zero h
    have hn : ¬ valErr l ≠ 0 := fun e => e h
    simp only [if_neg hn]
    by_cases hs : okShape num den
    · simp only [if_pos hs, if_true, Bool.false_eq_true, if_false]
      unfold slices_Clone_int_int.f
      rw [if_pos (show l.length ≤ 17592186044000 by omega), Option.bind_some]
      have := emph_l0 l num den hs hv hl l.length k 1 (by omega) (by omega) (by omega)
      rw [mix_start (emph_length num den l) (emph_zero num den l)] at this
      exact this
    · simp only [if_neg hs]
      rfl
  · simp only [if_pos h, if_neg h]
theorem rest_l0 (l : List Int) (num den : Int) (hs : okShape num den) (hv : inR (-2147483647) 2147483647 l = true) (hl : l.length ≤ 200000) : ∀ (d k i : Nat), 1 ≤ i → l.length ≤ i + d → d + 4 ≤ k → (∀ j, j < i → isV ((rest num den l).getD j 0)) →
    wave_Restore.l0 k l num den (mixT (rest num den l) l i) i = some (if inR (-2147483647) 2147483647 ((rest num den l).drop i) = true then (rest num den l, 0) else ([], 2)) := by
  obtain ⟨s1, s2, s3, s4⟩ := hs
  have hEl := rest_length num den l
  intro d
  induction d with
  | zero =>
    intro k i h1 h2 h3 hpre
    obtain ⟨k, rfl⟩ : ∃ m, k = m + 1 := ⟨k - 1, by omega⟩
    simp only [wave_Restore.l0]
    rw [if_neg (show ¬ (i : Int) < (l.length : Int) by omega), mix_end hEl (by omega), List.drop_eq_nil_of_le (by omega)]
    rfl
  | succ d ih =>
    intro k i h1 h2 h3 hpre
    by_cases hi : i < l.length
    · have ihh := ih (k - 1) (i + 1) (by omega) (by omega) (by omega)
      obtain ⟨k, rfl⟩ : ∃ m, k = m + 1 := ⟨k - 1, by omega⟩
      rw [Nat.add_sub_cancel] at ihh
      have hp := hpre (i - 1) (by omega)
      have hx := vals_at hv i
      simp only [wave_Restore.l0]
      rw [mix_length hEl i, wnx (by omega), wpv h1 (by omega), rd_getD, rd_getD, mix_at hEl hi, mix_before hEl hi h1, if_pos (show (i : Int) < (l.length : Int) by omega), if_pos (show 0 ≤ (i : Int) by omega), if_pos (show (i : Int) < (l.length : Int) by omega), if_pos (show 0 ≤ ((i - 1 : Nat) : Int) by omega), if_pos (show ((i - 1 : Nat) : Int) < (l.length : Int) by omega),
        round_prod (by omega) s1 s2 s3 s4 hp, Option.bind_some, add_val s1 s2 s3 s4 hp hx, ← rest_at num den l i hi h1, Int.toNat_natCast, mix_set hEl hi]
      refine goOn_eq (q := (rest num den l).getD i 0) (by omega) rfl (fun hq => ihh ?_)
      intro j hj
      rcases Nat.lt_or_ge j i with h | h
      · exact hpre j h
      · obtain rfl : j = i := by omega
        exact hq
    · exact ih k i (by omega) (by omega) (by omega) hpre
theorem inR_split {lo hi : Int} (E : List Int) (h : E ≠ [] → lo ≤ E.getD 0 0 ∧ E.getD 0 0 ≤ hi) : inR lo hi (E.drop 1) = inR lo hi E := by
  cases E with
  | nil => rfl
  | cons x t =>
    have := h (by simp)
    simp at this
    show inR lo hi t = ((decide (lo ≤ x) && decide (x ≤ hi)) && inR lo hi t)
    simp [this]
theorem Restore_eq (l : List Int) (num den : Int) (k : Nat) (hk : l.length + 5 ≤ k) : wave_Restore.f k l num den = some (emF true l num den) := by
  unfold wave_Restore.f emF
  rw [ratio_eq, Option.bind_some]
  by_cases h : valErr l = 0
  · obtain ⟨hl, hv⟩ := valErr_zero h
    have hn : ¬ valErr l ≠ 0 := fun e => e h
    simp only [if_neg hn]
    by_cases hs : okShape num den
    · simp only [if_pos hs, if_true]
      unfold slices_Clone_int_int.f
      rw [if_pos (show l.length ≤ 17592186044000 by omega), Option.bind_some]
      have h0 := vals_at hv 0
      have := rest_l0 l num den hs hv hl l.length k 1 (by omega) (by omega) (by omega) (by
        intro j hj
        obtain rfl : j = 0 := by omega
        rw [rest_zero]; exact h0)
      rw [mix_start (rest_length num den l) (rest_zero num den l), inR_split _ (fun _ => by rw [rest_zero]; exact h0)] at this
      exact this
    · simp only [if_neg hs]
      rfl
  · simp only [if_pos h, if_neg h]
/-! ### the reference -/
theorem Values_eq (l : List Int) (hl : l.length ≤ 4611686018427387904) (k : Nat) (hk : l.length < k) : earshotref02_Values.f k l = some (inR (-2147483647) 2147483647 l) := by
  unfold earshotref02_Values.f
  rw [all_some l _ _ hl k hk]
  rfl
theorem Shape_eq (num den : Int) : earshotref02_Shape.f num den = some (decide (okShape num den)) := by
  unfold earshotref02_Shape.f
  by_cases hs : okShape num den
  · obtain ⟨s1, s2, s3, s4⟩ := id hs
    rw [decide_eq_true hs, if_pos (show den > 0 by omega), if_pos (show den ≤ 1024 by omega), if_pos (show num ≥ 0 by omega), decide_eq_true (show num ≤ den by omega)]
  · rw [decide_eq_false hs]
    by_cases c1 : den > 0
    · rw [if_pos c1]
      by_cases c2 : den ≤ 1024
      · rw [if_pos c2]
        by_cases c3 : num ≥ 0
        · rw [if_pos c3, decide_eq_false (show ¬ num ≤ den from fun c4 => hs ⟨by omega, c4, by omega, c2⟩)]
        · rw [if_neg c3]
      · rw [if_neg c2]
    · rw [if_neg c1]
theorem ref_j4 (l : List Int) (num den : Int) (back : Bool) (x10 : List Int) (i : Nat) (x : Int) (k : Nat) (hlen : x10.length < 17592186044416) (hi : i ≤ 4611686018427387904) :
    earshotref02_Emphasis.j4 (k + 1) l num den back x10 i x false = goOn x (earshotref02_Emphasis.l0 k l num den back (x10 ++ [x]) ((i + 1 : Nat) : Int)) := by
  simp only [earshotref02_Emphasis.j4]
  rw [if_neg (by decide), if_pos hlen, wnx hi]
  rfl
theorem ref_step_f (l : List Int) (num den : Int) (hs : okShape num den) (hv : inR (-2147483647) 2147483647 l = true) (hl : l.length ≤ 200000) (k i : Nat) (hi : i < l.length) (x10 : List Int) (h10 : x10.length < 17592186044416) (hk : 2 ≤ k) :
    earshotref02_Emphasis.l0 (k + 1 + 1 + 1 + 1) l num den false x10 i = goOn ((emph num den l).getD i 0) (earshotref02_Emphasis.l0 k l num den false (x10 ++ [(emph num den l).getD i 0]) ((i + 1 : Nat) : Int)) := by
  obtain ⟨s1, s2, s3, s4⟩ := hs
  have hx := vals_at hv i
  rw [earshotref02_Emphasis.l0, if_pos (show (i : Int) < (l.length : Int) by omega), if_pos (show 0 ≤ (i : Int) by omega), ite_self, earshotref02_Emphasis.j2, if_neg (show ¬ (false : Bool) = true by decide), earshotref02_Emphasis.j3, rd_getD]
  by_cases h0 : (i : Int) > 0
  · have hp := vals_at hv (i - 1)
    rw [if_pos h0, Bool.not_false, earshotref02_Emphasis.j4, if_pos rfl, wpv (by omega) (by omega), if_pos (show 0 ≤ ((i - 1 : Nat) : Int) by omega), if_pos (show ((i - 1 : Nat) : Int) < (l.length : Int) by omega), rd_getD,
      Round_prod hk s1 s2 s3 s4 hp, Option.bind_some, sub_val s1 s2 s3 s4 hp hx, ← emph_at num den l i hi (by omega), if_pos h10, wnx (by omega)]
    rfl
  · obtain rfl : i = 0 := by omega
    rw [if_neg h0, ref_j4 _ _ _ _ _ _ _ _ h10 (by omega), emph_zero]
theorem ref_step_t (l : List Int) (num den : Int) (hs : okShape num den) (hv : inR (-2147483647) 2147483647 l = true) (hl : l.length ≤ 200000) (k i : Nat) (hi : i < l.length) (hpre : ∀ j, j < i → isV ((rest num den l).getD j 0)) (hk : 2 ≤ k) :
    earshotref02_Emphasis.l0 (k + 1 + 1 + 1 + 1) l num den true ((rest num den l).take i) i = goOn ((rest num den l).getD i 0) (earshotref02_Emphasis.l0 k l num den true ((rest num den l).take i ++ [(rest num den l).getD i 0]) ((i + 1 : Nat) : Int)) := by
  obtain ⟨s1, s2, s3, s4⟩ := hs
  have hx := vals_at hv i
  have hEl := rest_length num den l
  have hlen : ((rest num den l).take i).length = i := by rw [List.length_take]; omega
  have h10 : ((rest num den l).take i).length < 17592186044416 := take_short (by omega)
  rw [earshotref02_Emphasis.l0, if_pos (show (i : Int) < (l.length : Int) by omega), if_pos (show 0 ≤ (i : Int) by omega), rd_getD]
  by_cases h0 : (i : Int) > 0
  · have hp := hpre (i - 1) (by omega)
    have e1 : ((rest num den l).take i).getD (i - 1) 0 = (rest num den l).getD (i - 1) 0 := by
      simp only [List.getD_eq_getElem?_getD]
      rw [List.getElem?_take_of_lt (by omega)]
    rw [if_pos h0, earshotref02_Emphasis.j2, if_pos rfl, wpv (by omega) (by omega), hlen, if_pos (show 0 ≤ ((i - 1 : Nat) : Int) by omega), if_pos (show ((i - 1 : Nat) : Int) < ((i : Nat) : Int) by omega), rd_getD, e1,
      Round_prod (by omega) s1 s2 s3 s4 hp, Option.bind_some, add_val s1 s2 s3 s4 hp hx, ← rest_at num den l i hi (by omega), earshotref02_Emphasis.j3, if_pos h0, Bool.not_true, ref_j4 _ _ _ _ _ _ _ _ h10 (by omega)]
  · obtain rfl : i = 0 := by omega
    rw [if_neg h0, earshotref02_Emphasis.j2, if_neg (show ¬ (false : Bool) = true by decide), earshotref02_Emphasis.j3, if_neg h0, ref_j4 _ _ _ _ _ _ _ _ h10 (by omega), rest_zero]
theorem ref_l0_f (l : List Int) (num den : Int) (hs : okShape num den) (hv : inR (-2147483647) 2147483647 l = true) (hl : l.length ≤ 200000) : ∀ (d k i : Nat), i + d = l.length → 4 * d + 5 ≤ k →
    earshotref02_Emphasis.l0 k l num den false ((emph num den l).take i) i = some (if inR (-2147483647) 2147483647 ((emph num den l).drop i) = true then (emph num den l, 0) else ([], 2)) := by
  have hEl := emph_length num den l
  intro d
  induction d with
  | zero =>
    intro k i h1 h2
    obtain ⟨k, rfl⟩ : ∃ m, k = m + 1 := ⟨k - 1, by omega⟩
    rw [earshotref02_Emphasis.l0, if_neg (show ¬ (i : Int) < (l.length : Int) by omega), List.drop_eq_nil_of_le (by omega), List.take_of_length_le (by omega)]
    rfl
  | succ d ih =>
    intro k i h1 h2
    have ihh := ih (k - 4) (i + 1) (by omega) (by omega)
    obtain ⟨k, rfl⟩ : ∃ m, k = m + 1 + 1 + 1 + 1 := ⟨k - 4, by omega⟩
    rw [Nat.add_sub_cancel (m := 4)] at ihh
    rw [ref_step_f l num den hs hv hl k i (by omega) _ (take_short (by omega)) (by omega), take_next (by omega)]
    exact goOn_eq (by omega) rfl (fun _ => ihh)
theorem ref_l0_t (l : List Int) (num den : Int) (hs : okShape num den) (hv : inR (-2147483647) 2147483647 l = true) (hl : l.length ≤ 200000) : ∀ (d k i : Nat), i + d = l.length → 4 * d + 5 ≤ k → (∀ j, j < i → isV ((rest num den l).getD j 0)) →
    earshotref02_Emphasis.l0 k l num den true ((rest num den l).take i) i = some (if inR (-2147483647) 2147483647 ((rest num den l).drop i) = true then (rest num den l, 0) else ([], 2)) := by
  have hEl := rest_length num den l
  intro d
  induction d with
  | zero =>
    intro k i h1 h2 hpre
    obtain ⟨k, rfl⟩ : ∃ m, k = m + 1 := ⟨k - 1, by omega⟩
    rw [earshotref02_Emphasis.l0, if_neg (show ¬ (i : Int) < (l.length : Int) by omega), List.drop_eq_nil_of_le (by omega), List.take_of_length_le (by omega)]
    rfl
  | succ d ih =>
    intro k i h1 h2 hpre
    have ihh := ih (k - 4) (i + 1) (by omega) (by omega)
    obtain ⟨k, rfl⟩ : ∃ m, k = m + 1 + 1 + 1 + 1 := ⟨k - 4, by omega⟩
    rw [Nat.add_sub_cancel (m := 4)] at ihh
    rw [ref_step_t l num den hs hv hl k i (by omega) hpre (by omega), take_next (by omega)]
    refine goOn_eq (by omega) rfl (fun hq => ihh ?_)
    intro j hj
    rcases Nat.lt_or_ge j i with h | h
    · exact hpre j h
    · obtain rfl : j = i := by omega
      exact hq
theorem Emphasis_eq (back : Bool) (l : List Int) (num den : Int) (hl : l.length ≤ 4611686018427387904) (k : Nat) (hk : 4 * l.length + 8 ≤ k) : earshotref02_Emphasis.f k l num den back = some (emF back l num den) := by
  unfold earshotref02_Emphasis.f emF
  by_cases h : l.length > 200000
  · have e : valErr l = 5 := by unfold valErr; rw [if_pos h]
    rw [if_pos (show (l.length : Int) > 200000 by omega), e, if_pos (show (5 : Int) ≠ 0 by decide)]
  · rw [if_neg (show ¬ (l.length : Int) > 200000 by omega), Values_eq l hl k (by omega), Option.bind_some]
    obtain ⟨k, rfl⟩ : ∃ m, k = m + 1 := ⟨k - 1, by omega⟩
    by_cases hv : inR (-2147483647) 2147483647 l = true
    · have e : valErr l = 0 := by unfold valErr; rw [if_neg h, if_pos hv]
      rw [if_pos hv, Shape_eq, Option.bind_some, e, if_neg (show ¬ (0 : Int) ≠ 0 by decide), earshotref02_Emphasis.j0]
      by_cases hs : okShape num den
      · rw [if_pos hs, decide_eq_true hs, if_neg (show ¬ (!true) = true by decide)]
        cases back with
        | false =>
          have := ref_l0_f l num den hs hv (by omega) l.length k 0 (by omega) (by omega)
          rw [List.take_zero, List.drop_zero] at this
          exact this
        | true =>
          have := ref_l0_t l num den hs hv (by omega) l.length k 0 (by omega) (by omega) (fun j hj => absurd hj (Nat.not_lt_zero _))
          rw [List.take_zero, List.drop_zero] at this
          exact this
      · rw [if_neg hs, decide_eq_false hs, if_pos (show (!false) = true by decide)]
    · have e : valErr l = 2 := by unfold valErr; rw [if_neg h, if_neg hv]
      rw [if_neg hv, e, if_pos (show (2 : Int) ≠ 0 by decide), earshotref02_Emphasis.j0, if_pos rfl]
end Go.Proofs.Ytigbfcodnbnicaa.P
