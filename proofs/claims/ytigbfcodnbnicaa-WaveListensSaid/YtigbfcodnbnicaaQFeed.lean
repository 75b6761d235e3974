/- A listener fed in parts: what ends is what ends when all is fed at once. -/
import Derived.Test.YtigbfcodnbnicaaHDefs
set_option linter.unusedVariables false
set_option linter.unusedSimpArgs false
namespace Go.Proofs.Ytigbfcodnbnicaa.P
open Go.RowKit

theorem run_split (g : Gt) : ∀ (p q : Nat) (s : Ls) (r : List Int), runBlocks g (p + q) s r = ((runBlocks g q (runBlocks g p s r).1 (r.drop (p * g.block.toNat))).1, (runBlocks g p s r).2 ++ (runBlocks g q (runBlocks g p s r).1 (r.drop (p * g.block.toNat))).2)
  | 0, q, s, r => by simp [runBlocks]
  | p + 1, q, s, r => by
    have ih := run_split g p q (proc g s (sumsq (r.take g.block.toNat))).1 (r.drop g.block.toNat)
    rw [show p + 1 + q = p + q + 1 by omega]
    simp only [runBlocks]
    rw [ih, List.drop_drop, show g.block.toNat + p * g.block.toNat = (p + 1) * g.block.toNat by rw [Nat.succ_mul]; omega]
    simp only [List.append_assoc]
theorem run_front (g : Gt) : ∀ (p : Nat) (s : Ls) (r t : List Int), p * g.block.toNat ≤ r.length → runBlocks g p s (r ++ t) = runBlocks g p s r
  | 0, s, r, t, _ => rfl
  | p + 1, s, r, t, h => by
    rw [Nat.succ_mul] at h
    have h1 : g.block.toNat ≤ r.length := by omega
    simp only [runBlocks]
    rw [List.take_append_of_le_length h1, List.drop_append_of_le_length h1, run_front g p _ (r.drop g.block.toNat) t (by rw [List.length_drop]; omega)]
/-- What is left of a list behind its complete blocks. -/
def restOf (g : Gt) (r : List Int) : List Int := r.drop (r.length / g.block.toNat * g.block.toNat)
/-- All complete blocks of a list. -/
def runAll (g : Gt) (s : Ls) (r : List Int) : Ls × List S65 := runBlocks g (r.length / g.block.toNat) s r
theorem feed_on (g : Gt) (hg : 1 ≤ g.block.toNat) (s : Ls) (x y : List Int) : runAll g s (x ++ y) = ((runAll g (runAll g s x).1 (restOf g x ++ y)).1, (runAll g s x).2 ++ (runAll g (runAll g s x).1 (restOf g x ++ y)).2) ∧ restOf g (x ++ y) = restOf g (restOf g x ++ y) := by
  have hle : x.length / g.block.toNat * g.block.toNat ≤ x.length := Nat.div_mul_le_self _ _
  have hlen : (restOf g x ++ y).length + x.length / g.block.toNat * g.block.toNat = (x ++ y).length := by
    rw [List.length_append, List.length_append]
    unfold restOf
    rw [List.length_drop]
    omega
  have hq : (x ++ y).length / g.block.toNat = x.length / g.block.toNat + (restOf g x ++ y).length / g.block.toNat := by
    rw [← hlen, Nat.add_mul_div_right _ _ hg, Nat.add_comm]
  have hd : (x ++ y).drop (x.length / g.block.toNat * g.block.toNat) = restOf g x ++ y := List.drop_append_of_le_length hle
  refine ⟨?_, ?_⟩
  · show runBlocks g ((x ++ y).length / g.block.toNat) s (x ++ y) = _
    rw [hq, run_split, hd, run_front g _ s x y hle]
    rfl
  · show (x ++ y).drop ((x ++ y).length / g.block.toNat * g.block.toNat) = (restOf g x ++ y).drop ((restOf g x ++ y).length / g.block.toNat * g.block.toNat)
    rw [hq, Nat.add_mul, ← List.drop_drop, hd]
theorem restOf_nil (g : Gt) : restOf g [] = [] := by simp [restOf]
theorem runAll_nil (g : Gt) (s : Ls) : runAll g s [] = (s, []) := by simp [runAll, runBlocks]
theorem segsOf_all (g : Gt) (l : List Int) : segsOf g l = (runAll g ls0 l).2 ++ (if (runAll g ls0 l).1.state = 1 then [⟨(runAll g ls0 l).1.start * g.block, l.length⟩] else []) := rfl
/-- Fed twice and closed: the segments of both lists, one after the other. -/
theorem segs_twice (g : Gt) (hg : 1 ≤ g.block.toNat) (x y : List Int) : segsOf g (x ++ y) = ((runAll g ls0 x).2 ++ (runAll g (runAll g ls0 x).1 (restOf g x ++ y)).2) ++ (if (runAll g (runAll g ls0 x).1 (restOf g x ++ y)).1.state = 1 then [⟨(runAll g (runAll g ls0 x).1 (restOf g x ++ y)).1.start * g.block, ((x.length : Int) + y.length)⟩] else []) := by
  rw [segsOf_all, (feed_on g hg ls0 x y).1, List.length_append, Int.natCast_add]
end Go.Proofs.Ytigbfcodnbnicaa.P
