/- Small words that the walks use beside the printed ones: gates that tell which operation stands next, Go's max and min of whole numbers, and a row of the call's own behind an event that leaves it alone; no condition. -/
import Derived.Test.YtigbfcodnbnicaaWWords
import Derived.Test.YtigbfcodnbnicaaWLast
import Derived.Test.YtigbfcodnbnicaaWApart
set_option linter.unusedVariables false
namespace Go.Proofs.YtigbfcodnbnicaaW.PrintMore
open Go.RowKit Go.Proofs.YtigbfcodnbnicaaW.PrintWords
theorem max2_int (k k' : IntKind) (x y : Int) : Builtin.max2 (.int k x) (.int k' y) = pure (.int k (if x < y then y else x)) := by unfold Builtin.max2; rfl
theorem min2_int (k k' : IntKind) (x y : Int) : Builtin.min2 (.int k x) (.int k' y) = pure (.int k (if y < x then y else x)) := by unfold Builtin.min2; rfl
theorem max_two (s : Array TypeId) (t : TypeId) (a b : Value) : Builtin.max_ s t #[a, b] = (Builtin.max2 a b >>= fun x => pure x) := by simp only [Builtin.max_, List.foldlM_cons, List.foldlM_nil]
theorem min_two (s : Array TypeId) (t : TypeId) (a b : Value) : Builtin.min_ s t #[a, b] = (Builtin.min2 a b >>= fun x => pure x) := by simp only [Builtin.min_, List.foldlM_cons, List.foldlM_nil]
theorem max_three (s : Array TypeId) (t : TypeId) (a b c : Value) : Builtin.max_ s t #[a, b, c] = (Builtin.max2 a b >>= fun x => Builtin.max2 x c >>= fun x => pure x) := by simp only [Builtin.max_, List.foldlM_cons, List.foldlM_nil]
theorem min_three (s : Array TypeId) (t : TypeId) (a b c : Value) : Builtin.min_ s t #[a, b, c] = (Builtin.min2 a b >>= fun x => Builtin.min2 x c >>= fun x => pure x) := by simp only [Builtin.min_, List.foldlM_cons, List.foldlM_nil]
theorem max_four (s : Array TypeId) (t : TypeId) (a b c d : Value) : Builtin.max_ s t #[a, b, c, d] = (Builtin.max2 a b >>= fun x => Builtin.max2 x c >>= fun x => Builtin.max2 x d >>= fun x => pure x) := by simp only [Builtin.max_, List.foldlM_cons, List.foldlM_nil]
theorem min_four (s : Array TypeId) (t : TypeId) (a b c d : Value) : Builtin.min_ s t #[a, b, c, d] = (Builtin.min2 a b >>= fun x => Builtin.min2 x c >>= fun x => Builtin.min2 x d >>= fun x => pure x) := by simp only [Builtin.min_, List.foldlM_cons, List.foldlM_nil]
/-- The greater and the smaller of two whole numbers. -/
def mx (a b : Int) : Int := if a < b then b else a
def mn (a b : Int) : Int := if b < a then b else a
section
variable {P : Program} {ops : Array Oper} {rest : List Oper} {o : Oper} {a : Act} {Q : Exit → Act → World → Prop} {W : World}
/-- The next operation calls this function, or this builtin over these places. -/
theorem gate_callee {f : FuncId} {xs : Array Operand} {ts : Array TypeId} (_e : o.op = .call { callee := .value (.func f), args := xs, argTypes := ts }) (h : wpList P ops Q (o :: rest) a W) : wpList P ops Q (o :: rest) a W := h
theorem gate_builtin {b : Builtin} {xs : Array Operand} {ts : Array TypeId} (_e : o.op = .call { callee := .builtin b, args := xs, argTypes := ts }) (h : wpList P ops Q (o :: rest) a W) : wpList P ops Q (o :: rest) a W := h
end
theorem drewN_self (w : World) (n : Nat) : w.drewN n = w.drewN n := rfl
namespace Kd
open Go.Proofs.YtigbfcodnbnicaaW.PrintWords.Kd
variable {α : Type} {d : Kd α} {e base g n c : Nat} {ok : Nat → Prop} {w1 W : World} {v : Value} {A : Option Addr} {xs : List α}
/-- A row behind an event that writes into another row alone. -/
theorem R_grown2 (h : d.R e W base ok v xs) (hE : d.E = []) {row : Option Nat} (hg : W.grownBy w1 row) (hne : ∀ k, row = some k → some k ≠ v.ownBlock) : d.R e w1 base ok v xs := by
  have h1 := R_grown (R_tight hE h) hg (fun k hk e_ => hne k e_.symm hk)
  exact R_mono h1 (fun k hk => h.1 k hk.symm)
/-- A row that lies apart from one block reads as it did while that block alone is written. -/
theorem C_foot_own (h : d.R e W base ok (.slice A n c) xs) (hok : ∀ k, ok k → k ≠ g) (W' : World) (hk : KeepBut W W' g none) : d.C W' A n xs := by
  obtain ⟨e1, _, hC⟩ := R_reads' (R_keep h hk hok)
  rw [e1]
  exact hC
end Kd
end Go.Proofs.YtigbfcodnbnicaaW.PrintMore
