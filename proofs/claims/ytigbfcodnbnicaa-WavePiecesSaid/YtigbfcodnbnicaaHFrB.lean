/- Frames: the frames of a list of values, or the error; for every list, size, step. -/
import Derived.Test.YtigbfcodnbnicaaHFrA
set_option linter.unusedVariables false
set_option linter.unusedSimpArgs false
set_option linter.constructorNameAsVariable false
namespace Go.Proofs.Ytigbfcodnbnicaa.P
open Go.RowKit Go.Proofs.YtigbfcodnbnicaaW.PrintWords Go.Proofs.YtigbfcodnbnicaaW.PrintLast Go.Proofs.YtigbfcodnbnicaaW.PrintMore

theorem cut_calls (s : Nat) (A : Option Addr) (c n : Nat) (sz st : Int) (pad : Bool) (w : World) (hs : w.heap.size = s + 1) :
    Calls Try.prog 88 #[.slice A n c, .int .i64 sz, .int .i64 st, .bool pad] w fun e w' => e = .returned (.func (.func 98) #[] #[.pointer (some ⟨s + 2, 0, none⟩), .pointer (some ⟨s + 1, 0, none⟩), .pointer (some ⟨s + 4, 0, none⟩), .pointer (some ⟨s + 3, 0, none⟩)]) ∧ w'.heap.size = s + 5 ∧ Below (s + 1) w w' ∧
      w'.heap[s + 1]? = some (.cells #[.slice A n c] 22 (0, 0)) ∧ w'.heap[s + 2]? = some (.cells #[.int .i64 sz] 3 (0, 0)) ∧ w'.heap[s + 3]? = some (.cells #[.int .i64 st] 3 (0, 0)) ∧ w'.heap[s + 4]? = some (.cells #[.bool pad] 4 (0, 0)) := by
  obtain ⟨w', hw'⟩ : ∃ w', (((w.alloc (.cells #[.slice A n c] 22 (0, 0))).alloc (.cells #[.int .i64 sz] 3 (0, 0))).alloc (.cells #[.int .i64 st] 3 (0, 0))).alloc (.cells #[.bool pad] 4 (0, 0)) = w' := ⟨_, rfl⟩
  have f0 : w'.heap.size = s + 5 := by rw [← hw']; simp; omega
  have hb : Below (s + 1) w w' := by rw [← hw', ← hs]; exact below_alloc (below_alloc (below_alloc (below_alloc (Below.refl _ _) _) _) _) _
  have f1 : w'.heap[s + 1]? = some (.cells #[.slice A n c] 22 (0, 0)) := by
    rw [← hw', ← hs]
    exact blk_below (blk_below (blk_below (blk_new w _) (below_alloc (Below.refl _ _) _)) (below_alloc (Below.refl _ _) _)) (below_alloc (Below.refl _ _) _)
  have f2 : w'.heap[s + 2]? = some (.cells #[.int .i64 sz] 3 (0, 0)) := by
    have h := blk_below (blk_below (blk_new (w.alloc (.cells #[.slice A n c] 22 (0, 0))) (.cells #[.int .i64 sz] 3 (0, 0))) (below_alloc (Below.refl _ _) (.cells #[.int .i64 st] 3 (0, 0)))) (below_alloc (Below.refl _ _) (.cells #[.bool pad] 4 (0, 0)))
    rw [hw', World.size_alloc, hs] at h
    exact h
  have f3 : w'.heap[s + 3]? = some (.cells #[.int .i64 st] 3 (0, 0)) := by
    have h := blk_below (blk_new ((w.alloc (.cells #[.slice A n c] 22 (0, 0))).alloc (.cells #[.int .i64 sz] 3 (0, 0))) (.cells #[.int .i64 st] 3 (0, 0))) (below_alloc (Below.refl _ _) (.cells #[.bool pad] 4 (0, 0)))
    rw [hw', World.size_alloc, World.size_alloc, hs] at h
    exact h
  have f4 : w'.heap[s + 4]? = some (.cells #[.bool pad] 4 (0, 0)) := by
    have h := blk_new (((w.alloc (.cells #[.slice A n c] 22 (0, 0))).alloc (.cells #[.int .i64 sz] 3 (0, 0))).alloc (.cells #[.int .i64 st] 3 (0, 0))) (.cells #[.bool pad] 4 (0, 0))
    rw [hw', World.size_alloc, World.size_alloc, World.size_alloc, hs] at h
    exact h
  go_enter Try.func88, Try.ntmps88
  go_wp2
  go_ret
  subst hw'
  exact ⟨rfl, f0, hb, f1, f2, f3, f4⟩
theorem values_val (l : List Int) : wave_values.f l = some (valErr l) := by
  unfold wave_values.f valErr
  split
  · rfl
  · split <;> rfl
/-- The number of frames, and which place is one's. -/
theorem frameN_lt (n sz st : Nat) (pad : Bool) (h1 : 1 ≤ sz) (h2 : 1 ≤ st) : ∀ k : Nat, k < (frameN n sz st pad).toNat ↔ (k * st + sz ≤ n ∨ (pad = true ∧ k * st < n)) := by
  intro k
  unfold frameN
  cases pad with
  | true =>
    rw [if_pos rfl, show ((n : Int) + st - 1) / st = ((n + st - 1 : Nat) / st : Nat) by rw [Int.natCast_ediv]; congr 1; omega, Int.toNat_natCast]
    have e : k < (n + st - 1) / st ↔ k * st < n := by
      rw [Nat.lt_iff_add_one_le, Nat.le_div_iff_mul_le (by omega), Nat.add_mul, Nat.one_mul]
      omega
    rw [e]
    constructor
    · exact fun h => .inr ⟨rfl, h⟩
    · rintro (h | h)
      · omega
      · exact h.2
  | false =>
    rw [if_neg (by decide)]
    by_cases h : (n : Int) ≥ sz
    · rw [if_pos h, show ((n : Int) - sz) / st + 1 = (((n - sz) / st + 1 : Nat) : Int) by rw [Int.natCast_add, Int.natCast_ediv, Int.natCast_sub (by omega)]; rfl, Int.toNat_natCast]
      have e : k < (n - sz) / st + 1 ↔ k * st ≤ n - sz := by
        rw [Nat.lt_succ_iff, Nat.le_div_iff_mul_le (by omega)]
      rw [e]
      constructor
      · exact fun h => .inl (by omega)
      · rintro (h | h)
        · omega
        · cases h.1
    · rw [if_neg h]
      constructor
      · intro h; simp at h
      · rintro (h | h)
        · omega
        · cases h.1
end Go.Proofs.Ytigbfcodnbnicaa.P
