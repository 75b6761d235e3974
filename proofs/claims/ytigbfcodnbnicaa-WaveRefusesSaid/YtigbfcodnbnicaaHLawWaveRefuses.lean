/- The law of refused samples, walked: it returns true; for all lists and gates. -/
import Derived.Test.YtigbfcodnbnicaaHRefA
import Derived.Test.YtigbfcodnbnicaaHRefB
set_option linter.unusedVariables false
set_option linter.unusedSimpArgs false
namespace Go.Proofs.Ytigbfcodnbnicaa.P
open Go.RowKit Go.Proofs.YtigbfcodnbnicaaW.PrintWords Go.Proofs.YtigbfcodnbnicaaW.PrintLast Go.Proofs.YtigbfcodnbnicaaW.PrintMore

theorem earshotlaw02_WaveRefuses.calls (A0 : Option Addr) (c0 : Nat) (l0 : List Int) (A1 : Option Addr) (c1 : Nat) (l1 : List Int) (A2 : Option Addr) (c2 : Nat) (l2 : List Int) (a0 a1 a2 a3 a4 a5 a6 : Int) (w : World)
    (hr0 : Kd.C (Kd.int .i64) w A0 l0.length l0) (hc0 : l0.length ≤ c0) (hr1 : Kd.C (Kd.int .i64) w A1 l1.length l1) (hc1 : l1.length ≤ c1) (hr2 : Kd.C (Kd.int .i64) w A2 l2.length l2) (hc2 : l2.length ≤ c2)
    (hm0 : l0.length ≤ maxLen) (hw0 : ∀ x ∈ l0, (Lit.int .i64 x).wf = true) (hm1 : l1.length ≤ maxLen) (hw1 : ∀ x ∈ l1, (Lit.int .i64 x).wf = true) (hm2 : l2.length ≤ maxLen) (hw2 : ∀ x ∈ l2, (Lit.int .i64 x).wf = true)
    (v0 : (Lit.int .i64 a0).wf = true) (v1 : (Lit.int .i64 a1).wf = true) (v2 : (Lit.int .i64 a2).wf = true) (v3 : (Lit.int .i64 a3).wf = true) (v4 : (Lit.int .i64 a4).wf = true) (v5 : (Lit.int .i64 a5).wf = true) (v6 : (Lit.int .i64 a6).wf = true) :
    Calls Try.prog 8 #[.slice A0 l0.length c0, .slice A1 l1.length c1, .slice A2 l2.length c2, .agg #[.int .i64 a0, .int .i64 a1, .int .i64 a2, .int .i64 a3, .int .i64 a4, .int .i64 a5, .int .i64 a6]] w fun e w' => e = .returned (.bool true) ∧ Below w.heap.size w w' := by
  clear hm0 hw0 hm1 hw1 hm2 hw2 v0 v1 v2 v3 v4 v5 v6
  by_cases h : l0.length ≤ 500 ∧ l1.length ≤ 500 ∧ l2.length ≤ 500 ∧ gateOK ⟨a0, a1, a2, a3, a4, a5, a6⟩ = true ∧ inR (-32768) 32767 l0 = true ∧ inR (-32768) 32767 l2 = true ∧ inR (-32768) 32767 l1 = false
  · obtain ⟨n0, n1, n2, hg, hX, hY, hW⟩ := h
    exact ref_good A0 c0 l0 A1 c1 l1 A2 c2 l2 ⟨a0, a1, a2, a3, a4, a5, a6⟩ w hr0 hc0 hr1 hc1 hr2 hc2 hg n0 n1 n2 hX hY hW
  · refine ref_early A0 c0 l0 A1 c1 l1 A2 c2 l2 a0 a1 a2 a3 a4 a5 a6 w hr0 hc0 hr1 hc1 hr2 hc2 _ _ _ _ (fun _ _ _ => rfl) (fun _ => rfl) (fun _ => rfl) (fun _ => rfl) ?_
    rcases Nat.lt_or_ge 500 l0.length with n0 | n0
    · exact .inl n0
    rcases Nat.lt_or_ge 500 l1.length with n1 | n1
    · exact .inr (.inl n1)
    rcases Nat.lt_or_ge 500 l2.length with n2 | n2
    · exact .inr (.inr (.inl n2))
    refine .inr (.inr (.inr ?_))
    cases hg : gateOK ⟨a0, a1, a2, a3, a4, a5, a6⟩ <;> cases hX : inR (-32768) 32767 l0 <;> cases hY : inR (-32768) 32767 l2 <;> cases hW : inR (-32768) 32767 l1 <;> simp
    exact h ⟨n0, n1, n2, hg, hX, hY, hW⟩
end Go.Proofs.Ytigbfcodnbnicaa.P
