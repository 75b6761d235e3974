/- Strings of bytes as lists of numbers: two of them are equal if their numbers are, for bytes. -/
import Derived.Test.YtigbfcodnbnicaaX0

namespace Go.Proofs.Ytigbfcodnbnicaa.P
open Go.RowKit Go.Proofs.YtigbfcodnbnicaaW.PrintWords
theorem toList_data (s : ByteArray) : s.toList = s.data.toList := ByteArray.toList_eq s
theorem u8_inj {a b : Int} (h : UInt8.ofNat a.toNat = UInt8.ofNat b.toNat) (a0 : 0 ≤ a) (a1 : a ≤ 255) (b0 : 0 ≤ b) (b1 : b ≤ 255) : a = b := by
  have := congrArg UInt8.toNat h
  simp at this
  omega
theorem nums_inj : ∀ (xs ys : List Int), (∀ v ∈ xs, 0 ≤ v ∧ v ≤ 255) → (∀ v ∈ ys, 0 ≤ v ∧ v ≤ 255) → (strOfNums xs).toList = (strOfNums ys).toList → xs = ys := by
  have key : ∀ (xs ys : List Int), (∀ v ∈ xs, 0 ≤ v ∧ v ≤ 255) → (∀ v ∈ ys, 0 ≤ v ∧ v ≤ 255) → xs.map (fun n => UInt8.ofNat n.toNat) = ys.map (fun n => UInt8.ofNat n.toNat) → xs = ys := by
    intro xs
    induction xs with
    | nil =>
      intro ys _ _ h
      cases ys with
      | nil => rfl
      | cons y t => simp at h
    | cons x t ih =>
      intro ys hx hy h
      cases ys with
      | nil => simp at h
      | cons y s =>
        simp only [List.map_cons, List.cons.injEq] at h
        have h1 := hx x List.mem_cons_self
        have h2 := hy y List.mem_cons_self
        rw [u8_inj h.1 h1.1 h1.2 h2.1 h2.2, ih s (fun v hv => hx v (List.mem_cons_of_mem _ hv)) (fun v hv => hy v (List.mem_cons_of_mem _ hv)) h.2]
  intro xs ys hx hy h
  rw [toList_data, toList_data] at h
  simp only [strOfNums, List.toList_toArray] at h
  exact key xs ys hx hy h
theorem ear_eq : (strOfNums [69, 65, 82, 49]).toList = [69, 65, 82, 49] := by decide +kernel
theorem head_test (l : List Int) (hb : ∀ v ∈ l, 0 ≤ v ∧ v ≤ 255) : ((strOfNums (l.take 4)).toList == [69, 65, 82, 49]) = decide (l.take 4 = [69, 65, 82, 49]) := by
  by_cases h : l.take 4 = [69, 65, 82, 49]
  · rw [h, ear_eq]; simp
  · rw [decide_eq_false h]
    refine beq_eq_false_iff_ne.2 (fun e => h ?_)
    refine nums_inj _ _ (fun v hv => hb v (List.mem_of_mem_take hv)) (fun v hv => by simp at hv; omega) ?_
    rw [e, ear_eq]
end Go.Proofs.Ytigbfcodnbnicaa.P
