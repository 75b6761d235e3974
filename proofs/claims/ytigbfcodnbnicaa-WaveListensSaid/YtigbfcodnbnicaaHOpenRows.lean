/- An argument that is a list of lists of whole numbers, opened: what can be read of it; no condition. -/
import Derived.Test.YtigbfcodnbnicaaHOpen
import Derived.Deep.Matrix
import Derived.SizedLaws
set_option linter.unusedVariables false
set_option linter.unusedSimpArgs false
namespace Go.Proofs.Ytigbfcodnbnicaa.P
open Go.RowKit Go.ChangeShapes Go.WideShapes Go.ChangeAt Go.Joins Go.Proofs.YtigbfcodnbnicaaW.PrintWords

section
variable {H : Type} {enc : TypeId × Value → H} {W : World} {base : Nat}
theorem weightsAll_mem {P : Program} {e : TypeId} : ∀ {l : List (DataW H)} {d : DataW H}, d ∈ l → ∀ n ∈ d.weights P e, n ∈ DataW.weightsAll P e l
  | x :: l, d, h, n, hn => by
    simp only [DataW.weightsAll, List.mem_append]
    rcases List.mem_cons.1 h with rfl | h
    · exact Or.inl hn
    · exact Or.inr (weightsAll_mem h n hn)
set_option maxRecDepth 100000 in
theorem open_rows {v : Value} {d : DataW H} {p : List MemPlace} (hv : Value.okWide Try.prog W .any base 66 v) (h : DataW.Trod enc Try.prog W 0 (fun _ => true) true 66 v d p) (hz : ∀ n ∈ d.weights Try.prog 66, n ≤ reachBytes) :
    ∃ (A : Option Addr) (c : Nat) (l : List (List Int)), v = .slice A l.length c ∧ Kd.C (Kd.slice 3 (Kd.int .i64)) W A l.length l ∧ l.length ≤ c ∧ l.length ≤ maxLen ∧ ∀ x ∈ l, x.length ≤ 17592186044416 := by
  obtain ⟨a, len, cap, rfl⟩ := okWide_slice Try.underlying66 hv
  obtain ⟨fuel, hf⟩ := h
  rcases Go.Deep.open_int_rows Try.underlying66 Try.underlying22 Try.underlying3 (by kernel_rfl) (by kernel_rfl) (by simpa [Value.cells] using hf) with ⟨hcs, _⟩ | ⟨x, ln, cp, A, L, C, Z, hcs, _, hl, hm, hd, hc⟩
  · simp at hcs
    obtain ⟨rfl, rfl, rfl⟩ := hcs
    exact ⟨none, 0, [], rfl, ⟨rfl, Nat.zero_le _, fun h => absurd h (by simp)⟩, Nat.le_refl _, Nat.zero_le _, fun x hx => by cases hx⟩
  · simp at hcs
    obtain ⟨rfl, rfl, rfl⟩ := hcs
    have each : ∀ r, r < len → ∃ xs : List Int, L r = xs.length ∧ Kd.C (Kd.int .i64) W (A r) xs.length xs ∧ xs.length ≤ C r ∧ xs.length ≤ 17592186044416 := by
      intro r hr
      obtain ⟨h1, h2, h3, h4, h5, h6, h7⟩ := hc r (by omega)
      have h : (A r = none ∧ L r = 0 ∧ C r = 0 ∧ Z r = []) ∨ ∃ x, A r = some x ∧ L r ≤ C r ∧ C r ≤ maxLen ∧ (Z r).length = C r ∧ (∀ i, i < (Z r).length → W.cell? (x.add i) = some (.int .i64 ((Z r).getD i 0))) ∧ ∀ n ∈ Z r, (Lit.int .i64 n).wf = true := by
        cases hA : A r with
        | none =>
          have h8 := h6 hA
          exact .inl ⟨rfl, by omega, h8, List.eq_nil_of_length_eq_zero (by omega)⟩
        | some x => exact .inr ⟨x, rfl, h2, h3, h4, fun i hi => (h7 x hA).2 i (by omega), h5⟩
      obtain ⟨l, e, hr, hm, hw, hc⟩ := ReadsInt.ofRowC h
      refine ⟨l, e, Kd.C_of_reads (d := (0 : Int)) (h1 := fun _ => rfl) hr, hc, ?_⟩
      cases hA : A r with
      | none =>
        have h8 := h6 hA
        omega
      | some x =>
        have hw : ((Z r).take (L r)).length * 8 + ((Z r).drop (L r)).length * 8 ≤ reachBytes := by
          refine hz _ ?_
          rw [(Prod.mk.inj hd).1]
          simp only [DataW.weights, Try.underlying66]
          refine List.mem_cons_of_mem _ (List.mem_append_left _ (weightsAll_mem (d := Go.Deep.intRow .i64 (A r) (L r) (Z r)) (List.mem_map.2 ⟨r, List.mem_range.2 (by omega), rfl⟩) _ ?_))
          rw [hA]
          simp only [Go.Deep.intRow, DataW.weights, Try.underlying22]
          refine List.mem_cons.2 (.inl ?_)
          have hb : Try.prog.bytesOf 3 = 8 := by kernel_rfl
          rw [hb, ← Nat.add_mul]
          simp [lits]
        rw [List.length_take, List.length_drop] at hw
        simp only [reachBytes] at hw
        omega
    obtain ⟨y, hy⟩ := Go.Deep.choose_lt each
    refine ⟨some x, cap, (List.range len).map y, by simp, ⟨by simp, by simp [maxLen] at hm ⊢; omega, fun _ => ⟨x, rfl, ?_⟩⟩, by simpa using hl, by simp; omega, ?_⟩
    · intro j q hj
      have hjl : j < len := by
        have := (List.getElem?_eq_some_iff.1 hj).1
        simpa using this
      obtain ⟨e1, e2, e3, e4⟩ := hy j hjl
      rw [List.getElem?_map, List.getElem?_range hjl] at hj
      simp only [Option.map_some, Option.some.injEq] at hj
      subst hj
      refine ⟨[.slice (A j) (y j).length (C j)], rfl, ⟨A j, C j, rfl, e3, e2⟩, ?_⟩
      intro i u hu
      cases i with
      | zero =>
        simp at hu
        subst hu
        have := (hc j (by omega)).1
        rw [e1] at this
        simpa [Kd.slice] using this
      | succ i => simp at hu
    · intro z hz
      obtain ⟨j, hj, rfl⟩ := List.mem_map.1 hz
      exact (hy j (List.mem_range.1 hj)).2.2.2
end
end Go.Proofs.Ytigbfcodnbnicaa.P
