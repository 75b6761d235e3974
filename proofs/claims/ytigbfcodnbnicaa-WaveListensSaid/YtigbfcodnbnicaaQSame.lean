/- A list of segments is the same as itself; for lists of at most 2^62 segments. -/
import Derived.Test.YtigbfcodnbnicaaQSegs
set_option linter.unusedVariables false
set_option linter.unusedSimpArgs false
namespace Go.Proofs.Ytigbfcodnbnicaa.P
open Go.RowKit

theorem seg_same_l0 (l : List S65) (hl : l.length ≤ 4611686018427387904) : ∀ (d k i : Nat), i + d = l.length → d < k → earshotref02_SameSegments.l0 k l l i = some true := by
  intro d
  induction d with
  | zero =>
    intro k i h1 h2
    obtain ⟨k, rfl, _⟩ := succ_of h2
    rw [earshotref02_SameSegments.l0, if_neg (show ¬ (i : Int) < (l.length : Int) by omega)]
  | succ d ih =>
    intro k i h1 h2
    obtain ⟨k, rfl, h3⟩ := succ_of h2
    have ihh := ih k (i + 1) (by omega) (by omega)
    rw [earshotref02_SameSegments.l0, if_pos (show (i : Int) < (l.length : Int) by omega), if_pos (show 0 ≤ (i : Int) by omega), if_pos (show (i : Int) < (l.length : Int) by omega), w64 (x := (i : Int) + 1) (by omega) (by omega), show (i : Int) + 1 = ((i + 1 : Nat) : Int) by omega]
    simpa using ihh
theorem seg_same_self (l : List S65) (hl : l.length ≤ 4611686018427387904) (k : Nat) (hk : l.length < k) : earshotref02_SameSegments.f k l l = some true := by
  unfold earshotref02_SameSegments.f
  rw [if_pos rfl]
  exact seg_same_l0 l hl l.length k 0 (by omega) hk
end Go.Proofs.Ytigbfcodnbnicaa.P
