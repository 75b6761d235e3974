/- The law of segments over plain numbers: Segments returns what the reference returns, or its error; for every list and gate. -/
import Derived.Test.YtigbfcodnbnicaaQSegs
import Derived.Test.YtigbfcodnbnicaaQKnown
import Derived.Test.YtigbfcodnbnicaaQShort
import Derived.Test.YtigbfcodnbnicaaXF6
set_option linter.unusedVariables false
set_option linter.unusedSimpArgs false
namespace Go.Proofs.Ytigbfcodnbnicaa.Pure
open Go.RowKit Go.Proofs.Ytigbfcodnbnicaa.P Go.Proofs.YtigbfcodnbnicaaW.PrintWords Go.Proofs.YtigbfcodnbnicaaW.PrintLast Go.Proofs.YtigbfcodnbnicaaW.PrintMore

theorem sameS_l0 (l : List S65) (hl : l.length ≤ 4611686018427387904) : ∀ (d k i : Nat), i + d = l.length → d < k → earshotref02_SameSegments.l0 k l l i = some true := by
  intro d
  induction d with
  | zero =>
    intro k i h1 h2
    obtain ⟨k, rfl, _⟩ := succ_of h2
    rw [earshotref02_SameSegments.l0, if_neg (show ¬ (i : Int) < (l.length : Int) by omega)]
  | succ d ih =>
    intro k i h1 h2
    obtain ⟨k, rfl, h3⟩ := succ_of h2
    have ihh := ih k (i + 1) (by omega) (by omega)
    rw [earshotref02_SameSegments.l0, if_pos (show (i : Int) < (l.length : Int) by omega), if_pos (show 0 ≤ (i : Int) by omega), if_pos (show (i : Int) < (l.length : Int) by omega), w64 (x := (i : Int) + 1) (by omega) (by omega), show (i : Int) + 1 = ((i + 1 : Nat) : Int) by omega]
    simpa using ihh
theorem sameS_self (l : List S65) (hl : l.length ≤ 4611686018427387904) (k : Nat) (hk : l.length < k) : earshotref02_SameSegments.f k l l = some true := by
  unfold earshotref02_SameSegments.f
  rw [if_pos rfl]
  exact sameS_l0 l hl l.length k 0 (by omega) hk
theorem blocks_length (g : Gt) : ∀ (q : Nat) (s : Ls) (r : List Int), (runBlocks g q s r).2.length ≤ q
  | 0, _, _ => by simp [runBlocks]
  | q + 1, s, r => by
    have := blocks_length g q (proc g s (sumsq (r.take g.block.toNat))).1 (r.drop g.block.toNat)
    rw [runBlocks_succ]
    have h : (proc g s (sumsq (r.take g.block.toNat))).2.toList.length ≤ 1 := by cases (proc g s (sumsq (r.take g.block.toNat))).2 <;> simp
    simp only [List.length_append]
    omega
theorem segsOf_length (g : Gt) (l : List Int) : (segsOf g l).length ≤ l.length + 1 := by
  unfold segsOf
  have h1 := blocks_length g (l.length / g.block.toNat) ls0 l
  have h2 : l.length / g.block.toNat ≤ l.length := Nat.div_le_self _ _
  rw [List.length_append]
  split
  · simp; omega
  · simp; omega
theorem Segments_closed (g : Gt) (hg : gateOK g = true) (l : List Int) (hl : l.length ≤ 200000) (hv : ∀ v ∈ l, -32768 ≤ v ∧ v ≤ 32767) (k : Nat) (hk : 3 * l.length + 5 ≤ k) :
    ∃ b, earshotref02_Segments.f k l g.block g.high g.low g.rise g.fall g.lead g.longest true = some (segsOf g l, b) := by
  refine ⟨decide ((runBlocks g (l.length / g.block.toNat) ls0 l).1.state = 1), (Segments_eq g hg l hl hv true k hk).trans ?_⟩
  unfold segsOf
  simp only [true_and]
theorem WaveSegments (l : List Int) (a0 a1 a2 a3 a4 a5 a6 : Int) (hm : l.length ≤ maxLen) (hw : ∀ x ∈ l, (Lit.int .i64 x).wf = true) (w0 : (Lit.int .i64 a0).wf = true) (w1 : (Lit.int .i64 a1).wf = true) (w2 : (Lit.int .i64 a2).wf = true) (w3 : (Lit.int .i64 a3).wf = true) (w4 : (Lit.int .i64 a4).wf = true) (w5 : (Lit.int .i64 a5).wf = true) (w6 : (Lit.int .i64 a6).wf = true) :
    ∃ k, earshotlaw02_WaveSegments.f k l a0 a1 a2 a3 a4 a5 a6 = some true := by
  refine ⟨3 * l.length + 100, ?_⟩
  obtain ⟨K, hK⟩ : ∃ K, 3 * l.length + 100 = K + 1 ∧ 3 * l.length + 99 ≤ K := ⟨3 * l.length + 99, by omega, by omega⟩
  unfold earshotlaw02_WaveSegments.f
  obtain ⟨b, hb⟩ := short_some (l.length : Int)
  rw [hb, Option.bind_some, known_k _ (by omega), hK.1]
  cases b with
  | false => rw [if_neg (by decide)]; rfl
  | true =>
    have hl := short_le hb
    rw [if_pos rfl]
    unfold wave_Segments.f
    have stop : ∀ e : Int, e ≠ 0 → earshotlaw02_WaveSegments.j0 (K + 1) l [] e e a0 a1 a2 a3 a4 a5 a6 = some true := by
      intro e he
      rw [earshotlaw02_WaveSegments.j0, if_neg he, if_pos rfl, if_pos (show (([] : List S65).length : Int) = 0 by rfl), known_k K (by omega)]; rfl
    by_cases h1 : l.length > 200000
    · rw [if_pos h1, Option.bind_some, if_pos (show (l.length : Int) > 200000 by omega)]
      exact stop 5 (by decide)
    · rw [if_neg h1]
      simp only [if_neg (show ¬ (l.length : Int) > 200000 by omega), Gate_eq, Option.bind_some, all_some l (-32768) 32767 (by omega) (K + 1) (by omega)]
      cases hg : gateOK ⟨a0, a1, a2, a3, a4, a5, a6⟩ with
      | false =>
        rw [if_pos (.inl rfl), Option.bind_some, if_neg (by decide)]
        exact stop 2 (by decide)
      | true =>
        cases hv : inR (-32768) 32767 l with
        | false =>
          rw [if_pos (.inr rfl), Option.bind_some, if_pos rfl, if_neg (by decide)]
          exact stop 2 (by decide)
        | true =>
          obtain ⟨b, hb2⟩ := Segments_closed ⟨a0, a1, a2, a3, a4, a5, a6⟩ hg l (by omega) (inR_mem hv) K (by omega)
          have hlen := segsOf_length ⟨a0, a1, a2, a3, a4, a5, a6⟩ l
          rw [if_neg (show ¬ ((true : Bool) = false ∨ (true : Bool) = false) by decide), Option.bind_some, if_pos rfl, if_pos rfl, earshotlaw02_WaveSegments.j0, if_pos rfl, hb2, Option.bind_some, if_pos rfl, sameS_self (segsOf ⟨a0, a1, a2, a3, a4, a5, a6⟩ l) (by omega) K (by omega), Option.bind_some, if_pos rfl, known_k K (by omega)]
          rfl
end Go.Proofs.Ytigbfcodnbnicaa.Pure
