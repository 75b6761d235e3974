/- usable, Listen and Close of a listener: what they return and what lies in memory behind them. -/
import Derived.Test.YtigbfcodnbnicaaHProcess
set_option linter.unusedVariables false
set_option linter.unusedSimpArgs false
namespace Go.Proofs.Ytigbfcodnbnicaa.P
open Go.RowKit Go.Proofs.YtigbfcodnbnicaaW.PrintWords Go.Proofs.YtigbfcodnbnicaaW.PrintLast Go.Proofs.YtigbfcodnbnicaaW.PrintMore

theorem usable_yes (b : Nat) (w : World) (r : Bool) (h : w.cell? ⟨b, 7, none⟩ = some (.bool r)) : Calls Try.prog 75 #[.pointer (some ⟨b, 0, none⟩)] w fun e w' => e = .returned (.bool r) ∧ w' = w := by
  have hu71 := Try.underlying71
  go_enter Try.func75, Try.ntmps75
  go_wp2
  go_ret
  exact ⟨rfl, rfl⟩
theorem usable_nil (w : World) : Calls Try.prog 75 #[.pointer none] w fun e w' => e = .returned (.bool false) ∧ w' = w := by
  have hu71 := Try.underlying71
  go_enter Try.func75, Try.ntmps75
  go_wp2
  go_ret
  exact ⟨rfl, rfl⟩
def gAgg (g : Gt) : Value := .agg #[.int .i64 g.block, .int .i64 g.high, .int .i64 g.low, .int .i64 g.rise, .int .i64 g.fall, .int .i64 g.lead, .int .i64 g.longest]
def ListenPost (g : Gt) (w : World) (e : Ending) (w' : World) : Prop := ∃ b : Nat, e = .returned (.tuple #[.pointer (some ⟨b, 0, none⟩), .int .i64 0]) ∧ w'.heap[b]? = some (.cells (lsCells g ls0 0 (.slice none 0 0)) 71 (0, 0)) ∧ w.heap.size ≤ b ∧ Below w.heap.size w w'
theorem listen_bad (g : Gt) (w : World) (hg : gateOK g = false) : Calls Try.prog 36 #[.agg #[.int .i64 g.block, .int .i64 g.high, .int .i64 g.low, .int .i64 g.rise, .int .i64 g.fall, .int .i64 g.lead, .int .i64 g.longest]] w fun e w' => e = .returned (.tuple #[.pointer none, .int .i64 2]) ∧ Below w.heap.size w w' := by
  have HG := Aside0.mk hg
  clear hg
  have hu41 := Try.underlying41
  go_enter Try.func36, Try.ntmps36
  go_wp2_with (go_at_call 74; refine (right_calls _ _ _ _ _ _ _ _ false HG.out).mono ?_; rintro e w' ⟨rfl, hb⟩; have HB := Aside0.mk (((Below.refl _ _).alloc (Nat.le_refl _) _).trans (hb.mono (by simp))); clear hb)
  go_ret2
  exact ⟨rfl, HB.out⟩
set_option maxHeartbeats 2000000 in
theorem listen_good (g : Gt) (w : World) (hg : gateOK g = true) : Calls Try.prog 36 #[.agg #[.int .i64 g.block, .int .i64 g.high, .int .i64 g.low, .int .i64 g.rise, .int .i64 g.fall, .int .i64 g.lead, .int .i64 g.longest]] w (ListenPost g w) := by
  have HG := Aside0.mk hg
  clear hg
  have hu41 := Try.underlying41
  have hu71 := Try.underlying71
  go_enter Try.func36, Try.ntmps36
  go_wp2_with (go_at_call 74; refine (right_calls _ _ _ _ _ _ _ _ true HG.out).mono ?_; rintro e w' ⟨rfl, hb⟩; have HB := Aside0.mk (((Below.refl _ _).alloc (Nat.le_refl _) _).trans (hb.mono (by simp)) : Below w.heap.size w w'); have BK := blk_below (blk_new w (.cells #[.int .i64 g.block, .int .i64 g.high, .int .i64 g.low, .int .i64 g.rise, .int .i64 g.fall, .int .i64 g.lead, .int .i64 g.longest] 41 (0, 0))) hb; have hc0 := (blk_cell BK 0).trans rfl; have hc1 := (blk_cell BK 1).trans rfl; have hc2 := (blk_cell BK 2).trans rfl; have hc3 := (blk_cell BK 3).trans rfl; have hc4 := (blk_cell BK 4).trans rfl; have hc5 := (blk_cell BK 5).trans rfl; have hc6 := (blk_cell BK 6).trans rfl; clear hb)
  go_ret2
  refine ⟨_, rfl, blk_new _ _, HB.out.size, HB.out.alloc HB.out.size _⟩
end Go.Proofs.Ytigbfcodnbnicaa.P
