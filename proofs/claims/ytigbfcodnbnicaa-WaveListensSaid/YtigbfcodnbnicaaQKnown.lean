/- The chapter's examples, as the law's own function 'known' checks them, hold with 40 rounds and more. -/
import Derived.Test.YtigbfcodnbnicaaXBase
namespace Go.Proofs.Ytigbfcodnbnicaa.P
open Go.RowKit Go.Proofs.YtigbfcodnbnicaaW.PrintWords Go.Proofs.YtigbfcodnbnicaaW.PrintLast Go.Proofs.YtigbfcodnbnicaaW.PrintMore
theorem known_40 : earshotlaw02_known.f 40 = some true := by decide +kernel
theorem known_k (k : Nat) (h : 40 ≤ k) : earshotlaw02_known.f k = some true := at_rounds (g := fun k => earshotlaw02_known.f k) earshotlaw02_known.mono h known_40
end Go.Proofs.Ytigbfcodnbnicaa.P
