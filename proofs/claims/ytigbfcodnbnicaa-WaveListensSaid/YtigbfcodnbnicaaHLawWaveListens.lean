/- The law of listeners, walked: it returns true; for all gates and lists, and rows of at most 2^44 numbers. -/
import Derived.Test.YtigbfcodnbnicaaHLisB
set_option linter.unusedVariables false
set_option linter.unusedSimpArgs false
namespace Go.Proofs.Ytigbfcodnbnicaa.P
open Go.RowKit Go.Proofs.YtigbfcodnbnicaaW.PrintWords Go.Proofs.YtigbfcodnbnicaaW.PrintLast Go.Proofs.YtigbfcodnbnicaaW.PrintMore

theorem earshotlaw02_WaveListens.calls (A0 : Option Addr) (c0 : Nat) (ls : List (List Int)) (a0 a1 a2 a3 a4 a5 a6 : Int) (A2 : Option Addr) (c2 : Nat) (ag : List Int) (w : World)
    (hr0 : Kd.C (Kd.slice 3 (Kd.int .i64)) w A0 ls.length ls) (hc0 : ls.length ≤ c0) (hr2 : Kd.C (Kd.int .i64) w A2 ag.length ag) (hc2 : ag.length ≤ c2)
    (hm0 : ls.length ≤ maxLen) (hx0 : ∀ x ∈ ls, x.length ≤ 17592186044416)
    (v0 : (Lit.int .i64 a0).wf = true) (v1 : (Lit.int .i64 a1).wf = true) (v2 : (Lit.int .i64 a2).wf = true) (v3 : (Lit.int .i64 a3).wf = true) (v4 : (Lit.int .i64 a4).wf = true) (v5 : (Lit.int .i64 a5).wf = true) (v6 : (Lit.int .i64 a6).wf = true)
    (hm2 : ag.length ≤ maxLen) (hw2 : ∀ x ∈ ag, (Lit.int .i64 x).wf = true) :
    Calls Try.prog 11 #[.slice A0 ls.length c0, .agg #[.int .i64 a0, .int .i64 a1, .int .i64 a2, .int .i64 a3, .int .i64 a4, .int .i64 a5, .int .i64 a6], .slice A2 ag.length c2] w fun e w' => e = .returned (.bool true) ∧ Below w.heap.size w w' := by
  clear hm2 hw2 v0 v1 v2 v3 v4 v5 v6
  have hl : ls.length ≤ 9223372036854775807 := by simpa [maxLen] using hm0
  by_cases hg : ∀ x ∈ ls, inR (-32768) 32767 x = true
  · by_cases hf : (cat ls ls.length).length ≤ 2000 ∧ ls.length ≤ 30 ∧ ag.length ≤ 100
    · cases hgate : gateOK ⟨a0, a1, a2, a3, a4, a5, a6⟩ with
      | true => exact lis_good A0 c0 ls ⟨a0, a1, a2, a3, a4, a5, a6⟩ A2 c2 ag w hr0 hr2 hc2 hx0 hl hg hf hgate
      | false => exact lis_gate A0 c0 ls ⟨a0, a1, a2, a3, a4, a5, a6⟩ A2 c2 ag w hr0 hr2 hc2 hx0 hl hg hf hgate
    · exact lis_many A0 c0 ls ⟨a0, a1, a2, a3, a4, a5, a6⟩ A2 c2 ag w hr0 hr2 hc2 hx0 hl hg (by omega)
  · exact lis_bad A0 c0 ls ⟨a0, a1, a2, a3, a4, a5, a6⟩ A2 c2 ag w hr0 hr2 hc2 hx0 hl hg
end Go.Proofs.Ytigbfcodnbnicaa.P
