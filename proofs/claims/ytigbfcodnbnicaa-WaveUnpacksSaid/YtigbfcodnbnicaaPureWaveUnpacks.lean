/- The law of unpacking over plain numbers: Unpack returns what the reference reads, or the error; for every list of bytes. -/
import Derived.Test.YtigbfcodnbnicaaQUnpack
import Derived.Test.YtigbfcodnbnicaaQBase
import Derived.Test.YtigbfcodnbnicaaQKnown
import Derived.Test.YtigbfcodnbnicaaXF7
set_option linter.unusedVariables false
set_option linter.unusedSimpArgs false
namespace Go.Proofs.Ytigbfcodnbnicaa.Pure
open Go.RowKit Go.Proofs.Ytigbfcodnbnicaa.P Go.Proofs.YtigbfcodnbnicaaW.PrintWords Go.Proofs.YtigbfcodnbnicaaW.PrintLast Go.Proofs.YtigbfcodnbnicaaW.PrintMore

theorem unpacks_j0 (l : List Int) (hb : ∀ v ∈ l, 0 ≤ v ∧ v ≤ 255) (q : Bool) (hl : l.length ≤ 8000 ∨ 500000 < l.length ∨ q = true) (k : Nat) (hk : 600100 < k) : earshotlaw02_WaveUnpacks.j0 k l q = some true := by
  obtain ⟨k, rfl⟩ : ∃ m, k = m + 1 := ⟨k - 1, by omega⟩
  rw [earshotlaw02_WaveUnpacks.j0]
  rw [known_k k (by omega)]
  by_cases hq : q = true
  · rw [if_pos hq]; rfl
  rw [if_neg hq]
  by_cases c : (l.length : Int) > 500000
  · have e : wave_Unpack.f l = some (0, [], 5) := by
      unfold wave_Unpack.f
      rw [inR_bytes hb, if_neg (by decide), if_pos (by omega)]
    rw [e, Option.bind_some, if_pos c]
    simp only
    rw [if_pos trivial, if_pos trivial, same_self [] (by decide) k (by exact Nat.lt_of_le_of_lt (Nat.zero_le _) (show 0 < k by omega))]
    rfl
  · obtain ⟨⟨u1, u2, u3⟩, h1, h2, h3⟩ := unpack_ref hb (by omega) k (by omega)
    rw [h2, Option.bind_some, if_neg c, h1, Option.bind_some]
    simp only at h3 ⊢
    rw [same_self u2 (by omega) k (by omega)]
    cases u3 <;> simp
theorem WaveUnpacks (l : List Int) (hm : l.length ≤ maxLen) (hw : ∀ x ∈ l, (Lit.int .u8 x).wf = true) : ∃ k, earshotlaw02_WaveUnpacks.f k l = some true := by
  have hb : ∀ v ∈ l, 0 ≤ v ∧ v ≤ 255 := fun v hv => Go.bounds_u8 (hw v hv)
  refine ⟨600200, ?_⟩
  unfold earshotlaw02_WaveUnpacks.f
  by_cases c1 : (l.length : Int) > 8000
  · rw [if_pos c1]
    by_cases c2 : (l.length : Int) ≤ 500000
    · rw [if_pos c2]
      exact unpacks_j0 l hb true (.inr (.inr rfl)) _ (by omega)
    · rw [if_neg c2]
      exact unpacks_j0 l hb _ (.inr (.inl (by omega))) _ (by omega)
  · rw [if_neg c1]
    exact unpacks_j0 l hb _ (.inl (by omega)) _ (by omega)
end Go.Proofs.Ytigbfcodnbnicaa.Pure
