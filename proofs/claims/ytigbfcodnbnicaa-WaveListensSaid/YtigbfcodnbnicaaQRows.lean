/- Lists of lists, piece by piece: what lies joined behind so many of them; no condition. -/
import Derived.Test.YtigbfcodnbnicaaX0
set_option linter.unusedVariables false
set_option linter.unusedSimpArgs false
namespace Go.Proofs.Ytigbfcodnbnicaa.P
open Go.RowKit

/-- The first so many lists, joined. -/
def cat (ls : List (List Int)) (i : Nat) : List Int := (ls.take i).flatten
theorem cat_zero (ls : List (List Int)) : cat ls 0 = [] := rfl
theorem rdL_mem {ls : List (List Int)} {i : Nat} (h : i < ls.length) : rd_L1 ls (i : Int) ∈ ls := by
  unfold rd_L1
  rw [Int.toNat_natCast, List.getD_eq_getElem?_getD, List.getElem?_eq_getElem h]
  exact List.getElem_mem h
theorem cat_succ {ls : List (List Int)} {i : Nat} (h : i < ls.length) : cat ls (i + 1) = cat ls i ++ rd_L1 ls (i : Int) := by
  unfold cat rd_L1
  rw [List.take_add_one, List.flatten_append, Int.toNat_natCast, List.getD_eq_getElem?_getD, List.getElem?_eq_getElem h]
  simp
theorem cat_all (ls : List (List Int)) : cat ls ls.length = ls.flatten := by unfold cat; rw [List.take_length]
theorem cat_le (ls : List (List Int)) (M : Nat) (h : ∀ x ∈ ls, x.length ≤ M) : ∀ i : Nat, i ≤ ls.length → (cat ls i).length ≤ i * M
  | 0, _ => by simp [cat]
  | i + 1, hi => by
    rw [cat_succ (by omega), List.length_append, Nat.succ_mul]
    have h1 := cat_le ls M h i (by omega)
    have h2 := h _ (rdL_mem (show i < ls.length by omega))
    omega
theorem cat_mono (ls : List (List Int)) : ∀ d i : Nat, i + d ≤ ls.length → (cat ls i).length ≤ (cat ls (i + d)).length
  | 0, i, _ => Nat.le_refl _
  | d + 1, i, h => by
    have h1 := cat_mono ls d i (by omega)
    rw [show i + (d + 1) = i + d + 1 by omega, cat_succ (by omega), List.length_append]
    omega
theorem cat_le_all (ls : List (List Int)) (i : Nat) (h : i ≤ ls.length) : (cat ls i).length ≤ (cat ls ls.length).length := by
  have := cat_mono ls (ls.length - i) i (by omega)
  rwa [show i + (ls.length - i) = ls.length by omega] at this
theorem cat_mem {ls : List (List Int)} {i : Nat} {v : Int} (h : v ∈ cat ls i) : ∃ x ∈ ls, v ∈ x := by
  unfold cat at h
  obtain ⟨x, hx, hv⟩ := List.mem_flatten.1 h
  exact ⟨x, List.mem_of_mem_take hx, hv⟩
end Go.Proofs.Ytigbfcodnbnicaa.P
