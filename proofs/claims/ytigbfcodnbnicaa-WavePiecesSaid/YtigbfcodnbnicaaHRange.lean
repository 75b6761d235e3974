/- Words for a walk within a fence: an operation by its run, make, copy, append of a row to a row of rows. -/
import Derived.RangeFuncNested
import Derived.RangeFuncBound
import Derived.RangeFuncCalls
import Derived.RangeFuncLeaves
import Derived.RangeFuncBox
import Derived.WalkKit
import Derived.OwnWalkIn
import Derived.TacticsInMore
import Derived.LoopNIn
import Derived.LoopIn
import Derived.Maps.OwnIn
import Derived.Test.YtigbfcodnbnicaaHPred
import Derived.Test.YtigbfcodnbnicaaWWords
import Derived.Test.YtigbfcodnbnicaaWApart
set_option linter.unusedVariables false
set_option linter.unusedSimpArgs false
set_option linter.constructorNameAsVariable false
namespace Go.Proofs.Ytigbfcodnbnicaa.P
open Go.RowKit Go.Proofs.YtigbfcodnbnicaaW.PrintWords Go.Proofs.YtigbfcodnbnicaaW.PrintLast Go.Proofs.YtigbfcodnbnicaaW.PrintMore

section
variable {F : Fence} {nF : Nat} {P : Program} {ops : Array Oper} {rest : List Oper} {o : Oper} {a : Act} {Q : Exit → Act → World → Prop} {α : Type}
theorem in_value {v : Value} {W w1 : World} (hg : o.guard = none) (hab : o.about P W a.eval = none) (hpl : ∀ c, o.op ≠ .defer c) (hr : (execOp a.eval o).run P W = .ok (.value v) w1)
    (h : wpListIn F nF P ops Q rest (a.put o.dst v) w1) : wpListIn F nF P ops Q (o :: rest) a W := by
  refine wpListIn_plain hg fun K hK => ?_
  unfold Oper.wpIn
  refine ⟨fun f hf => (by rw [hab] at hf; cases hf), ?_⟩
  rw [Oper.semAt_plain F _ _ hpl, hr]
  exact hK _ _ h
/-- append(v, x) of one element of kind d. -/
theorem R_append_in (d : Kd α) {W : World} (base : Nat) (hgd : o.guard = none) (s x : Operand) (t e : TypeId) (z : Value) (bytes : Nat)
    (ho : o.op = .call { callee := .builtin .append, args := #[s, x], argTypes := #[t, t] })
    (ht : P.underlying t = some (.slice e)) (hinfo : (P.info? e).map (fun i => (i.zero, i.size, i.bytes)) = some (some z, d.sz, bytes)) (hz : z.cells.size = d.sz) (hs0 : 0 < d.sz) (hb0 : 0 < bytes)
    (v : Value) (xs : List α) (p : α) (cs : List Value) (ok okp : Nat → Prop) (hs : a.eval s = v) (hx : a.eval x = .slice (some ⟨W.heap.size, 0, none⟩) 1 1) (hp : d.M W base okp p cs) (hokp : ∀ k, okp k → ok k ∧ some k ≠ v.ownBlock) (hfresh : ∀ k, W.heap.size ≤ k → ok k)
    (HO : d.R e W base ok v xs) (hbase : base ≤ W.heap.size) (hl : (xs.length + 1) * bytes ≤ 140737488355328)
    (h : ∀ v1 w1, d.R e w1 base ok v1 (xs ++ [p]) → W.grownBy w1 v.ownBlock → wpListIn F nF P ops Q rest (a.put o.dst v1) w1) :
    wpListIn F nF P ops Q (o :: rest) a (W.alloc (.cells cs.toArray e)) := by
  obtain ⟨h0, inner, hown, hr⟩ := HO
  obtain ⟨i0, hi, hzz⟩ := Option.map_eq_some_iff.1 hinfo
  simp only [Prod.mk.injEq] at hzz
  obtain ⟨hz0, hz1, hz2⟩ := hzz
  have hlen : xs.length + 1 ≤ 140737488355328 := Nat.le_trans (Nat.le_mul_of_pos_right _ hb0) hl
  refine Go.wpListIn_append_own_at (W.alloc (.cells cs.toArray e)) hgd s x t ho base e i0 z d.sz bytes ht hi hz0 hz1 hz2 hz hs0 v xs.length inner hs (hown.alloc _) ⟨W.heap.size, 0, none⟩ 1 1 cs hx (by rw [d.K_len (d.K_of_M hp)]; simp)
    (by simpa using World.news_of_block (cs := cs.toArray) (t := e) (fr := (0, 0)) (heap_alloc_new W (.cells cs.toArray e))) (d.K_one (d.K_of_M hp)) (by simp only [maxLen]; omega) hl (by simp; omega) ?_
  intro v1 w1 hown1 hg _ hat
  have hg' : W.grownBy w1 v.ownBlock := World.grownBy.trans (World.grownBy_alloc W _ _) hg
  refine h v1 w1 (Kd.R_appended h0 hr hp hokp hfresh hown1 hg' ?_) hg'
  rcases hat with hat | hat
  · exact .inl hat
  · exact .inr ⟨_, hat, by simp⟩
theorem S_append_in (d : Kd α) {W : World} (base : Nat) (hgd : o.guard = none) (s x : Operand) (t e : TypeId) (z : Value) (bytes : Nat)
    (ho : o.op = .call { callee := .builtin .append, args := #[s, x], argTypes := #[t, t] })
    (ht : P.underlying t = some (.slice e)) (hinfo : (P.info? e).map (fun i => (i.zero, i.size, i.bytes)) = some (some z, d.sz, bytes)) (hz : z.cells.size = d.sz) (hs0 : 0 < d.sz) (hb0 : 0 < bytes)
    (v : Value) (xs : List α) (p : α) (cs : List Value) (ok okp : Nat → Prop) (hs : a.eval s = v) (hx : a.eval x = .slice (some ⟨W.heap.size, 0, none⟩) 1 1) (hp : d.M W base okp p cs) (hokp : ∀ k, okp k → ok k ∧ some k ≠ v.ownBlock) (hfresh : ∀ k, W.heap.size ≤ k → ok k)
    (HO : Kd.S d e W base (fun k => ok k ∧ ¬ okp k) v xs) (hbase : base ≤ W.heap.size) (hl : (xs.length + 1) * bytes ≤ 140737488355328)
    (h : ∀ v1 w1, Kd.S d e w1 base ok v1 (xs ++ [p]) → W.grownBy w1 v.ownBlock → wpListIn F nF P ops Q rest (a.put o.dst v1) w1) :
    wpListIn F nF P ops Q (o :: rest) a (W.alloc (.cells cs.toArray e)) := by
  obtain ⟨f, hf, hR⟩ := Kd.S_tag HO xs.length okp (fun _ hk h2 => h2.2 hk)
  refine R_append_in (Kd.tag f d) base hgd s x t e z bytes ho ht hinfo hz hs0 hb0 v xs.zipIdx (p, xs.length) cs ok okp hs hx (d.M_mono (fun k hk => ⟨hk, hf k hk⟩) hp) hokp hfresh (Kd.R_mono hR (fun _ hk => hk.1)) hbase (by rw [List.length_zipIdx]; exact hl) ?_
  intro v1 w1 hr
  rw [← Kd.zip_snoc] at hr
  exact h v1 w1 ⟨f, hr⟩
end
/-- make([]int, n). -/
theorem make_row (W : World) (m base : Nat) (hm : m ≤ 4096) (hb : base ≤ W.heap.size) (ok : Nat → Prop) (hok : ok W.heap.size) : ∃ arr : Array Value,
    (Instr.makeSlice 22 (.int .i64 (m : Int)) (.int .i64 (m : Int))).run Try.prog W = .ok (.slice (some ⟨W.heap.size, 0, none⟩) m m) (W.alloc (.cells arr 3)) ∧
    Kd.R (Kd.int .i64) 3 (W.alloc (.cells arr 3)) base ok (.slice (some ⟨W.heap.size, 0, none⟩) m m) (List.replicate m 0) := by
  obtain ⟨i0, hi, hz0, hz1, hz2⟩ := info_parts info3
  have hr := run_make (P := Try.prog) W 22 3 i0 _ Try.underlying22 hi hz0 .i64 .i64 (m : Int) (m : Int) (by omega) (by omega) (by rw [hz2]; omega) (by omega)
  simp only [Int.toNat_natCast] at hr
  rw [hz1] at hr
  refine ⟨_, hr, Kd.R_of_own ?_ (fun k hk => ?_)⟩
  · have h2 := World.ownsRow_lit (base := base) (e := 3) (size := 1) W (madeCells (Value.int .i64 0).cells (m * 1)) m hb (by simp [maxLen]; omega) (by simp [size_madeCells])
    have e : (madeCells (Value.int .i64 0).cells (m * 1)).toList = encs (Value.int .i64) (List.replicate m 0) := by
      apply List.ext_getElem
      · simp [encs, madeCells]
      · intro i h1 h2
        simp [encs, madeCells, Value.cells, Nat.mod_one]
    rw [e] at h2
    rw [List.length_replicate]
    exact h2
  · have : W.heap.size = k := by simpa [Value.ownBlock] using hk
    subst this
    exact hok
/-- What a frame holds: the values from its place on, then zeros. -/
theorem frame_fill (l : List Int) (f m : Nat) (hf : f ≤ l.length) : (l.drop f).take (min (l.length - f) m) ++ (List.replicate m (0 : Int)).drop (min (l.length - f) m) = (List.range m).map fun i => l.getD (f + i) 0 := by
  apply List.ext_getElem?
  intro i
  rw [List.getElem?_append, List.length_take, List.length_drop, List.getElem?_map]
  by_cases h : i < m
  · rw [List.getElem?_range h]
    by_cases h2 : f + i < l.length
    · rw [if_pos (by omega), List.getElem?_take_of_lt (by omega), List.getElem?_drop, List.getElem?_eq_getElem h2]
      simp [List.getD, h2]
    · rw [if_neg (by omega), List.getElem?_drop, List.getElem?_replicate, if_pos (by omega)]
      simp [List.getD, h2]
  · rw [List.getElem?_eq_none (l := List.range m) (by simp; omega)]
    split
    · rw [List.getElem?_eq_none (by rw [List.length_take, List.length_drop]; omega)]
      rfl
    · rw [List.getElem?_eq_none (by rw [List.length_drop, List.length_replicate]; omega)]
      rfl
/-- copy(v, y): what the run leaves. -/
theorem copy_row {W : World} (base : Nat) (ty : TypeId) (v : Value) (xs ys : List Int) (A : Option Addr) (m c : Nat) (ok : Nat → Prop)
    (HO : Kd.R (Kd.int .i64) 3 W base ok v xs) (HR : Kd.C (Kd.int .i64) W A m ys) (hbase : base ≤ W.heap.size) :
    ∃ u w1, (Builtin.copy_ #[22, 22] ty #[v, .slice A m c]).run Try.prog W = .ok u w1 ∧ Kd.R (Kd.int .i64) 3 w1 base ok v (ys.take (min m xs.length) ++ xs.drop (min m xs.length)) ∧ W.grownBy w1 v.ownBlock := by
  have h := Kd.R_copy (P := Try.prog) (enc := Value.int .i64) (h1 := fun _ => rfl) (ops := #[]) (rest := []) (o := { dst := some 0, op := .call { callee := .builtin .copy, args := #[.const v, .const (.slice A m c)], argTypes := #[22, 22] }, type := ty, pos := "", after := #[], guard := none }) (a := { tmps := #[undef], defers := [] })
    (Q := fun e a' w1 => e = .normal ∧ Kd.R (Kd.int .i64) 3 w1 base ok v (ys.take (min m xs.length) ++ xs.drop (min m xs.length)) ∧ W.grownBy w1 v.ownBlock) (0 : Int) (w0 := W) base rfl (.const v) (.const (.slice A m c)) 22 22 3 rfl Try.underlying22 (by
      obtain ⟨i0, hi, hz0, hz1, hz2⟩ := info_parts info3
      rw [hi]
      exact congrArg some hz1) v xs ys A m c ok rfl rfl HO HR (Below.refl _ _) hbase (fun w1 h1 h2 h3 => ⟨rfl, h1, h3⟩)
  simp only [wpList, Region.wanted, if_true, Oper.wp, execOp, resolve, invoke, builtin, Sem.run_bind, Sem.run_pure, Result.andThen_ok, List.map_toArray, List.map_cons, List.map_nil, Act.eval] at h
  rcases h with h | ⟨_, a', w', h, _⟩
  · cases hr : (Builtin.copy_ #[22, 22] ty #[v, .slice A m c]).run Try.prog W with
    | ok u w1 =>
      rw [hr] at h
      exact ⟨u, w1, rfl, h.2⟩
    | halt hh w1 =>
      rw [hr] at h
      cases hh <;> simp [Result.andThen, Oper.upon, LetsOut] at h
  · cases h
end Go.Proofs.Ytigbfcodnbnicaa.P
