/- A packed recording with one byte changed is refused. -/
import Derived.Test.YtigbfcodnbnicaaQPack
set_option linter.unusedVariables false
set_option linter.unusedSimpArgs false
namespace Go.Proofs.Ytigbfcodnbnicaa.P
open Go.RowKit Go.Proofs.YtigbfcodnbnicaaW.PrintWords Go.Proofs.YtigbfcodnbnicaaW.PrintLast Go.Proofs.YtigbfcodnbnicaaW.PrintMore

def stepB (c x : Int) : Int := (65599 * c + x + 1) % 4294967296
theorem stepB_bd (c x : Int) : 0 ≤ stepB c x ∧ stepB c x < 4294967296 := by unfold stepB; omega
theorem stepB_inv {c d t : Int} (e : 65599 * c - 65599 * d = 4294967296 * t) : c - d = 4294967296 * (2390421439 * t - 36510 * (c - d)) := by omega
theorem stepB_c {c d x : Int} (h1 : 0 ≤ c ∧ c < 4294967296) (h2 : 0 ≤ d ∧ d < 4294967296) (h : stepB c x = stepB d x) : c = d := by
  unfold stepB at h
  obtain ⟨t, ht⟩ := Int.dvd_of_emod_eq_zero (Int.emod_eq_emod_iff_emod_sub_eq_zero.1 h)
  have e := stepB_inv (c := c) (d := d) (t := t) (by rw [← ht]; omega)
  generalize 2390421439 * t - 36510 * (c - d) = u at e
  clear ht h
  omega
theorem stepB_x {c x y : Int} (h1 : 0 ≤ x ∧ x ≤ 255) (h2 : 0 ≤ y ∧ y ≤ 255) (h : stepB c x = stepB c y) : x = y := by
  unfold stepB at h
  omega
theorem sum_ne : ∀ (l : List Int) (c d : Int), 0 ≤ c ∧ c < 4294967296 → 0 ≤ d ∧ d < 4294967296 → c ≠ d → sumFrom c l ≠ sumFrom d l
  | [], c, d, _, _, h => h
  | x :: t, c, d, h1, h2, h => sum_ne t (stepB c x) (stepB d x) (stepB_bd c x) (stepB_bd d x) fun e => h (stepB_c h1 h2 e)
theorem sum_set : ∀ (l : List Int) (i : Nat) (y c : Int), i < l.length → (∀ v ∈ l, 0 ≤ v ∧ v ≤ 255) → 0 ≤ y ∧ y ≤ 255 → l.getD i 0 ≠ y → sumFrom c (l.set i y) ≠ sumFrom c l
  | [], i, y, c, h, _, _, _ => by simp at h
  | x :: t, 0, y, c, _, hb, hy, hne => sum_ne t (stepB c y) (stepB c x) (stepB_bd c y) (stepB_bd c x) fun e => hne (stepB_x hy (hb x List.mem_cons_self) e).symm
  | x :: t, i + 1, y, c, h, hb, hy, hne => sum_set t i y (stepB c x) (Nat.lt_of_succ_lt_succ h) (fun v hv => hb v (List.mem_cons_of_mem _ hv)) hy hne
theorem set_ne (l : List Int) (i : Nat) (y : Int) (h : i < l.length) (hne : l.getD i 0 ≠ y) : l.set i y ≠ l := by
  intro e
  have h1 : (l.set i y).getD i 0 = y := by simp [List.getD, h]
  rw [e] at h1
  exact hne h1
theorem set_bytes {l : List Int} {i : Nat} {y : Int} (hb : ∀ v ∈ l, 0 ≤ v ∧ v ≤ 255) (hy : 0 ≤ y ∧ y ≤ 255) : ∀ v ∈ l.set i y, 0 ≤ v ∧ v ≤ 255 := by
  intro v hv
  rcases List.mem_or_eq_of_mem_set hv with h | h
  · exact hb v h
  · rw [h]; exact hy
theorem geb_inj {a b : List Int} (h1 : ∀ v ∈ a, 0 ≤ v ∧ v ≤ 255) (h2 : ∀ v ∈ b, 0 ≤ v ∧ v ≤ 255) (hl : a.length = b.length) (h : geb a = geb b) : a = b := by
  rw [← leb_geb a h1, ← leb_geb b h2, h, hl]
theorem tamper {b : List Int} {i : Nat} {y : Int} (hb : ∀ v ∈ b, 0 ≤ v ∧ v ≤ 255) (h16 : 16 ≤ b.length) (h5 : b.length ≤ 500000) (hs : geb (b.drop (b.length - 4)) = sumB (b.take (b.length - 4))) (hi : i < b.length) (hy : 0 ≤ y ∧ y ≤ 255) (hne : b.getD i 0 ≠ y) : wave_Unpack.f (b.set i y) = some (0, [], 4) := by
  have hb' := set_bytes (i := i) hb hy
  have key : geb ((b.set i y).drop (b.length - 4)) ≠ sumB ((b.set i y).take (b.length - 4)) := by
    by_cases c : i < b.length - 4
    · rw [List.drop_set_of_lt c, hs, List.take_set]
      exact fun e => sum_set (b.take (b.length - 4)) i y 1 (by rw [List.length_take]; omega) (fun v hv => hb v (List.mem_of_mem_take hv)) hy (by
        rw [List.getD_eq_getElem?_getD, List.getElem?_take_of_lt c, ← List.getD_eq_getElem?_getD]; exact hne) e.symm
    · rw [List.take_set_of_le (by omega), ← hs, List.drop_set, if_neg c]
      intro e
      have e2 := geb_inj (set_bytes (i := i - (b.length - 4)) (fun v hv => hb v (List.mem_of_mem_drop hv)) hy) (fun v hv => hb v (List.mem_of_mem_drop hv)) (by rw [List.length_set]) e
      refine set_ne (b.drop (b.length - 4)) (i - (b.length - 4)) y (by rw [List.length_drop]; omega) ?_ e2
      rw [List.getD_eq_getElem?_getD, List.getElem?_drop, show b.length - 4 + (i - (b.length - 4)) = i by omega, ← List.getD_eq_getElem?_getD]
      exact hne
  unfold wave_Unpack.f
  rw [inR_bytes hb', if_neg (by decide), List.length_set, if_neg (by omega), if_pos key]
  repeat (first | rfl | split)
end Go.Proofs.Ytigbfcodnbnicaa.P
