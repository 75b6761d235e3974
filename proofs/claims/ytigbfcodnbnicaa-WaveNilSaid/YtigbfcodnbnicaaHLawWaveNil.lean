/- The law of listeners that are nil or zero, walked: it returns true; for every list. -/
import Derived.Test.YtigbfcodnbnicaaHNil
import Derived.Test.YtigbfcodnbnicaaQKnown
set_option linter.unusedVariables false
set_option linter.unusedSimpArgs false
namespace Go.Proofs.Ytigbfcodnbnicaa.P
open Go.RowKit Go.Proofs.YtigbfcodnbnicaaW.PrintWords Go.Proofs.YtigbfcodnbnicaaW.PrintLast Go.Proofs.YtigbfcodnbnicaaW.PrintMore

theorem zero_useless (w : World) (cs : Array Value) (h : cs[7]? = some (.bool false)) : Calls Try.prog 75 #[.pointer (some ⟨w.heap.size, 0, none⟩)] (w.alloc (.cells cs 71 (0, 0))) fun e w' => e = .returned (.bool false) ∧ w' = w.alloc (.cells cs 71 (0, 0)) :=
  usable_yes _ _ false ((blk_cell (blk_new w (.cells cs 71 (0, 0))) 7).trans h)
set_option maxHeartbeats 2000000 in
set_option maxRecDepth 100000 in
theorem earshotlaw02_WaveNil.calls (A0 : Option Addr) (c0 : Nat) (l0 : List Int) (w : World) (hr0 : Kd.C (Kd.int .i64) w A0 l0.length l0) (hc0 : l0.length ≤ c0) (hm : l0.length ≤ maxLen) (hw : ∀ x ∈ l0, (Lit.int .i64 x).wf = true) :
    Calls Try.prog 12 #[.slice A0 l0.length c0] w fun e w' => e = .returned (.bool true) ∧ Below w.heap.size w w' := by
  clear hr0 hc0 hm hw
  have hu71 := Try.underlying71
  have HB := Aside0.mk (Below.refl w.heap.size w)
  rcases Nat.lt_or_ge 1000 l0.length with hl | hl
  · go_enter Try.func12, Try.ntmps12
    go_wp2_with (first
      | (go_at_call 22; (with_reducible refine (earshotlaw02_known.calls 40 true _ known_40).mono ?_); rintro e w1 ⟨rfl, hb⟩)
      | (go_at_call 41; (with_reducible refine (silent_calls none _ _ l0 _ (usable_nil _)).mono ?_); rintro e w' ⟨rfl, hw_⟩; obtain rfl := hw_.symm; clear hw_)
      | (go_at_call 41; (with_reducible refine (silent_calls (some ⟨w.heap.size, 0, none⟩) _ _ l0 _ (zero_useless w _ rfl)).mono ?_); rintro e w' ⟨rfl, hw_⟩; obtain rfl := hw_.symm; clear hw_))
    go_ret
    exact ⟨rfl, hb⟩
  · go_enter Try.func12, Try.ntmps12
    go_wp2_with (first
      | (go_at_call 22; (with_reducible refine (earshotlaw02_known.calls 40 true _ known_40).mono ?_); rintro e w1 ⟨rfl, hb⟩)
      | (go_at_call 41; (with_reducible refine (silent_calls none _ _ l0 _ (usable_nil _)).mono ?_); rintro e w' ⟨rfl, hw_⟩; obtain rfl := hw_.symm; clear hw_)
      | (go_at_call 41; (with_reducible refine (silent_calls (some ⟨w.heap.size, 0, none⟩) _ _ l0 _ (zero_useless w _ rfl)).mono ?_); rintro e w' ⟨rfl, hw_⟩; obtain rfl := hw_.symm; clear hw_))
    go_ret
    exact ⟨rfl, below_step (below_alloc (Below.refl w.heap.size w) _) hb⟩
end Go.Proofs.Ytigbfcodnbnicaa.P
