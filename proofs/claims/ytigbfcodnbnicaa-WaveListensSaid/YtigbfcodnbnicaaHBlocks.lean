/- Blocks one after the other: what holds of a listener between two blocks stays true, and a further block is processed behind the others; for gates as defined. -/
import Derived.Test.YtigbfcodnbnicaaHProcess
set_option linter.unusedVariables false
set_option linter.unusedSimpArgs false
namespace Go.Proofs.Ytigbfcodnbnicaa.P

theorem nextRun_cases (run : Int) (goes : Bool) : nextRun run goes = run + 1 ∨ nextRun run goes = 0 := by
  unfold nextRun
  split
  · exact .inl rfl
  · exact .inr rfl
theorem proc_inv {g : Gt} {s : Ls} (hg : gateOK g = true) (h : Inv s) (n : Int) : Inv (proc g s n).1 ∧ (proc g s n).1.blocks = s.blocks + 1 := by
  obtain ⟨gb1, gb2, gl1, gl2, gh1, gr1, gr2, gf1, gf2, gd1, gd2, gn1, gn2⟩ := gate_ok hg
  obtain ⟨st, i1, i2, i3, i4, i5, i6⟩ := h
  have n1 := nextRun_cases s.run (decide (g.high * g.block ≤ n))
  have n2 := nextRun_cases s.run (decide (n < g.low * g.block))
  unfold proc
  by_cases h0 : s.state = 0
  · rw [if_pos h0]
    by_cases h1 : nextRun s.run (decide (g.high * g.block ≤ n)) = g.rise
    · rw [if_pos h1]
      exact ⟨⟨.inr rfl, Int.le_refl 0, by show 0 ≤ s.blocks + 1; omega, by show 0 ≤ max _ _; omega, by show max _ _ ≤ s.blocks + 1; omega, i5, by show s.free ≤ s.blocks + 1; omega⟩, rfl⟩
    · rw [if_neg h1]
      exact ⟨⟨st, by show 0 ≤ nextRun _ _; omega, by show nextRun _ _ ≤ s.blocks + 1; omega, i3, by show s.start ≤ s.blocks + 1; omega, i5, by show s.free ≤ s.blocks + 1; omega⟩, rfl⟩
  · rw [if_neg h0]
    by_cases h1 : nextRun s.run (decide (n < g.low * g.block)) = g.fall
    · rw [if_pos h1]
      exact ⟨⟨.inl rfl, Int.le_refl 0, by show 0 ≤ s.blocks + 1; omega, i3, by show s.start ≤ s.blocks + 1; omega, by show 0 ≤ s.blocks - g.fall + 1; omega, by show s.blocks - g.fall + 1 ≤ s.blocks + 1; omega⟩, rfl⟩
    · rw [if_neg h1]
      by_cases h2 : s.blocks - s.start + 1 = g.longest
      · rw [if_pos h2]
        exact ⟨⟨.inl rfl, Int.le_refl 0, by show 0 ≤ s.blocks + 1; omega, i3, by show s.start ≤ s.blocks + 1; omega, by show 0 ≤ s.blocks + 1; omega, by show s.blocks + 1 ≤ s.blocks + 1; omega⟩, rfl⟩
      · rw [if_neg h2]
        exact ⟨⟨st, by show 0 ≤ nextRun _ _; omega, by show nextRun _ _ ≤ s.blocks + 1; omega, i3, by show s.start ≤ s.blocks + 1; omega, i5, by show s.free ≤ s.blocks + 1; omega⟩, rfl⟩
theorem run_inv {g : Gt} (hg : gateOK g = true) : ∀ (q : Nat) (s : Ls) (r : List Int), Inv s → Inv (runBlocks g q s r).1 ∧ (runBlocks g q s r).1.blocks = s.blocks + q
  | 0, s, r, h => ⟨h, by simp [runBlocks]⟩
  | q + 1, s, r, h => by
    have h1 := proc_inv hg h (sumsq (r.take g.block.toNat))
    have h2 := run_inv hg q _ (r.drop g.block.toNat) h1.1
    simp only [runBlocks]
    exact ⟨h2.1, by rw [h2.2, h1.2]; omega⟩
theorem runBlocks_snoc (g : Gt) : ∀ (q : Nat) (s : Ls) (r : List Int), runBlocks g (q + 1) s r = ((proc g (runBlocks g q s r).1 (sumsq ((r.drop (q * g.block.toNat)).take g.block.toNat))).1, (runBlocks g q s r).2 ++ (proc g (runBlocks g q s r).1 (sumsq ((r.drop (q * g.block.toNat)).take g.block.toNat))).2.toList)
  | 0, s, r => by simp [runBlocks]
  | q + 1, s, r => by
    have ih := runBlocks_snoc g q (proc g s (sumsq (r.take g.block.toNat))).1 (r.drop g.block.toNat)
    rw [runBlocks, ih, List.drop_drop]
    have e : g.block.toNat + q * g.block.toNat = (q + 1) * g.block.toNat := by rw [Nat.add_mul]; omega
    rw [e]
    simp only [runBlocks, List.append_assoc]
theorem inv0 : Inv ls0 := ⟨.inl rfl, Int.le_refl 0, Int.le_refl 0, Int.le_refl 0, Int.le_refl 0, Int.le_refl 0, Int.le_refl 0⟩
end Go.Proofs.Ytigbfcodnbnicaa.P
