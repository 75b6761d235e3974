/- Feed, Close and At of a listener that is nil or not ready; the law's silent. -/
import Derived.Test.YtigbfcodnbnicaaHListen
set_option linter.unusedVariables false
set_option linter.unusedSimpArgs false
namespace Go.Proofs.Ytigbfcodnbnicaa.P
open Go.RowKit Go.Proofs.YtigbfcodnbnicaaW.PrintWords Go.Proofs.YtigbfcodnbnicaaW.PrintLast Go.Proofs.YtigbfcodnbnicaaW.PrintMore

theorem feed_useless (p : Option Addr) (A0 : Option Addr) (c0 : Nat) (l : List Int) (w : World) (hu : Calls Try.prog 75 #[.pointer p] w fun e w' => e = .returned (.bool false) ∧ w' = w) :
    Calls Try.prog 37 #[.pointer p, .slice A0 l.length c0] w fun e w' => e = .returned (.tuple #[.slice none 0 0, .int .i64 1]) ∧ w' = w := by
  have HU := Aside0.mk hu
  clear hu
  have hu71 := Try.underlying71
  go_enter Try.func37, Try.ntmps37
  go_wp2_with (go_at_call 75; refine (HU.out).mono ?_; rintro e w' ⟨rfl, hw_⟩; obtain rfl := hw_.symm; clear hw_)
  go_ret2
  exact ⟨rfl, rfl⟩
theorem close_useless (p : Option Addr) (w : World) (hu : Calls Try.prog 75 #[.pointer p] w fun e w' => e = .returned (.bool false) ∧ w' = w) :
    Calls Try.prog 38 #[.pointer p] w fun e w' => e = .returned (.tuple #[.slice none 0 0, .int .i64 1]) ∧ w' = w := by
  have HU := Aside0.mk hu
  clear hu
  have hu71 := Try.underlying71
  go_enter Try.func38, Try.ntmps38
  go_wp2_with (go_at_call 75; refine (HU.out).mono ?_; rintro e w' ⟨rfl, hw_⟩; obtain rfl := hw_.symm; clear hw_)
  go_ret2
  exact ⟨rfl, rfl⟩
theorem at_useless (p : Option Addr) (w : World) (hu : Calls Try.prog 75 #[.pointer p] w fun e w' => e = .returned (.bool false) ∧ w' = w) :
    Calls Try.prog 40 #[.pointer p] w fun e w' => e = .returned (.tuple #[.int .i64 0, .bool false]) ∧ w' = w := by
  have HU := Aside0.mk hu
  clear hu
  have hu71 := Try.underlying71
  go_enter Try.func40, Try.ntmps40
  go_wp2_with (go_at_call 75; refine (HU.out).mono ?_; rintro e w' ⟨rfl, hw_⟩; obtain rfl := hw_.symm; clear hw_)
  go_ret2
  exact ⟨rfl, rfl⟩
theorem silent_calls (p : Option Addr) (A0 : Option Addr) (c0 : Nat) (l : List Int) (w : World) (hu : Calls Try.prog 75 #[.pointer p] w fun e w' => e = .returned (.bool false) ∧ w' = w) :
    Calls Try.prog 41 #[.pointer p, .slice A0 l.length c0] w fun e w' => e = .returned (.bool true) ∧ w' = w := by
  have HU := Aside0.mk hu
  clear hu
  have hu71 := Try.underlying71
  go_enter Try.func41, Try.ntmps41
  go_wp2_with (first
    | (go_at_call 37; (with_reducible refine (feed_useless _ _ _ l _ HU.out).mono ?_); rintro e w' ⟨rfl, hw_⟩; obtain rfl := hw_.symm; clear hw_)
    | (go_at_call 38; (with_reducible refine (close_useless _ _ HU.out).mono ?_); rintro e w' ⟨rfl, hw_⟩; obtain rfl := hw_.symm; clear hw_)
    | (go_at_call 40; (with_reducible refine (at_useless _ _ HU.out).mono ?_); rintro e w' ⟨rfl, hw_⟩; obtain rfl := hw_.symm; clear hw_))
  go_ret
  exact ⟨rfl, rfl⟩
end Go.Proofs.Ytigbfcodnbnicaa.P
