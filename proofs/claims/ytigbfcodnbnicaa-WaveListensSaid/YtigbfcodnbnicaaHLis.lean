/- A listener that has been fed: what Listen, Feed, Close do with it, in few words. -/
import Derived.Test.YtigbfcodnbnicaaHSegments
import Derived.Test.YtigbfcodnbnicaaQFeed
set_option linter.unusedVariables false
set_option linter.unusedSimpArgs false
namespace Go.Proofs.Ytigbfcodnbnicaa.P
open Go.RowKit Go.Proofs.YtigbfcodnbnicaaW.PrintWords Go.Proofs.YtigbfcodnbnicaaW.PrintLast Go.Proofs.YtigbfcodnbnicaaW.PrintMore

/-- The block b is a listener that has been fed with smp samples, of which rest are not yet a block. -/
structure Lis (g : Gt) (s : Ls) (smp : Nat) (rest : List Int) (b base : Nat) (W : World) : Prop where
  cells : ∃ Ab cb, W.heap[b]? = some (.cells (lsCells g s (smp : Int) (.slice Ab rest.length cb)) 71 (0, 0)) ∧ Kd.R (Kd.int .i64) 3 W base (fun _ => True) (.slice Ab rest.length cb) rest
  inv : Inv s
  blocks : s.blocks + rest.length ≤ smp
  range : ∀ v ∈ rest, -32768 ≤ v ∧ v ≤ 32767
  short : rest.length ≤ 4096
theorem gate_block {g : Gt} (hg : gateOK g = true) : 1 ≤ g.block.toNat ∧ g.block.toNat ≤ 4096 := by
  obtain ⟨gb1, gb2, _⟩ := gate_ok hg
  omega
theorem restOf_length (g : Gt) (hg : 1 ≤ g.block.toNat) (r : List Int) : (restOf g r).length < g.block.toNat := by
  unfold restOf
  rw [List.length_drop]
  have := Nat.lt_div_mul_add (a := r.length) (b := g.block.toNat) hg
  omega
theorem Lis.lower {g : Gt} {s : Ls} {smp : Nat} {rest : List Int} {b base base' : Nat} {W : World} (h : Lis g s smp rest b base W) (hb : base' ≤ base) : Lis g s smp rest b base' W := by
  obtain ⟨⟨Ab, cb, h1, h2⟩, h3, h4, h5, h6⟩ := h
  exact ⟨⟨Ab, cb, h1, Kd.R_lower h2 hb⟩, h3, h4, h5, h6⟩
theorem Lis.below {g : Gt} {s : Ls} {smp : Nat} {rest : List Int} {b base : Nat} {W W1 : World} (h : Lis g s smp rest b base W) (hb : Below W.heap.size W W1) : Lis g s smp rest b base W1 := by
  obtain ⟨⟨Ab, cb, h1, h2⟩, h3, h4, h5, h6⟩ := h
  exact ⟨⟨Ab, cb, blk_below h1 hb, Kd.R_below h2 hb⟩, h3, h4, h5, h6⟩
/-- Another row has been written: its block is not the listener's, nor one of those that the ring may lie in. -/
theorem Lis.grown {g : Gt} {s : Ls} {smp : Nat} {rest : List Int} {b base : Nat} {W W1 : World} {row : Option Nat} (h : Lis g s smp rest b base W) (hg : W.grownBy W1 row) (hb : some b ≠ row) (hr : ∀ k, base ≤ k → some k ≠ row) : Lis g s smp rest b base W1 := by
  obtain ⟨⟨Ab, cb, h1, h2⟩, h3, h4, h5, h6⟩ := h
  exact ⟨⟨Ab, cb, blk_grown h1 hg hb, Kd.R_mono (Kd.R_grown (Kd.R_bound h2) hg (fun k hk => hr k hk.2.1)) (fun _ _ => trivial)⟩, h3, h4, h5, h6⟩
/-- A row of segments has been written. -/
theorem Lis.grown65 {g : Gt} {s : Ls} {smp : Nat} {rest : List Int} {b base base1 : Nat} {W W1 : World} {ok : Nat → Prop} {v : Value} {xs : List S65} (h : Lis g s smp rest b base W) (hv : Kd.R k65 65 W base1 ok v xs) (hg : W.grownBy W1 v.ownBlock) : Lis g s smp rest b base W1 := by
  obtain ⟨⟨Ab, cb, h1, h2⟩, h3, h4, h5, h6⟩ := h
  exact ⟨⟨Ab, cb, blk_grown h1 hg (Kd.R_ne hv h1 (by decide)), Kd.R_grown2 h2 rfl hg (R_two hv h2 rfl rfl (by decide))⟩, h3, h4, h5, h6⟩
/-- The ring lies in a block of this call's. -/
theorem feed_fresh (g : Gt) (s : Ls) (smp : Nat) (rest : List Int) (b : Nat) (A0 : Option Addr) (c0 : Nat) (l : List Int) (w0 w : World) (hg : gateOK g = true) (h : Lis g s smp rest b w0.heap.size w) (hs1 : smp + l.length ≤ 2147483648)
    (hr : Kd.C (Kd.int .i64) w0 A0 l.length l) (hv : inR (-32768) 32767 l = true) (hl : l.length ≤ 200000) (hge : w0.heap.size ≤ b) (hB : Below w0.heap.size w0 w) :
    Calls Try.prog 37 #[.pointer (some ⟨b, 0, none⟩), .slice A0 l.length c0] w fun e w' => ∃ v, e = .returned (.tuple #[v, .int .i64 0]) ∧ Kd.R k65 65 w' w.heap.size (fun _ => True) v (runAll g s (rest ++ l)).2 ∧
      Lis g (runAll g s (rest ++ l)).1 (smp + l.length) (restOf g (rest ++ l)) b w.heap.size w' ∧ Below w0.heap.size w0 w' ∧ KeepBut w w' b none := by
  obtain ⟨Ab, cb, hb, hvb⟩ := h.cells
  have hB1 := gate_block hg
  have hrl : (rest ++ l).length = rest.length + l.length := List.length_append
  have hbl := h.blocks
  refine (feed_good g s smp Ab cb b rest A0 c0 l (rest ++ l) rfl w0 w hg h.inv (by omega) (by omega) (by omega) hr hv hl h.range h.short hb hvb hge hB).mono ?_
  rintro e w' ⟨v, vb, he, h1, h2, h3, h4, h5⟩
  obtain ⟨A2, c2, hvb2⟩ := Kd.R_slice h3
  have hri := run_inv hg ((rest ++ l).length / g.block.toNat) s (rest ++ l) h.inv
  refine ⟨v, he, h1, ⟨⟨A2, c2, ?_, ?_⟩, hri.1, ?_, ?_, ?_⟩, h4, h5⟩
  · rw [hvb2] at h2
    rw [Int.natCast_add]
    exact h2
  · rw [hvb2] at h3
    exact h3
  · have e1 : (runAll g s (rest ++ l)).1.blocks = s.blocks + (((rest ++ l).length / g.block.toNat : Nat) : Int) := hri.2
    have e2 : (restOf g (rest ++ l)).length = (rest ++ l).length - (rest ++ l).length / g.block.toNat * g.block.toNat := List.length_drop
    have e3 : (rest ++ l).length / g.block.toNat * g.block.toNat ≤ (rest ++ l).length := Nat.div_mul_le_self _ _
    have e4 : (rest ++ l).length / g.block.toNat ≤ (rest ++ l).length / g.block.toNat * g.block.toNat := Nat.le_mul_of_pos_right _ hB1.1
    rw [e1, e2]
    omega
  · intro v hv2
    have hm := List.mem_of_mem_drop hv2
    rcases List.mem_append.1 hm with h9 | h9
    · exact h.range v h9
    · exact inR_mem hv v h9
  · have := restOf_length g hB1.1 (rest ++ l)
    omega
theorem feed_lis (g : Gt) (s : Ls) (smp : Nat) (rest : List Int) (b : Nat) (A0 : Option Addr) (c0 : Nat) (l : List Int) (w0 w : World) (hg : gateOK g = true) (h : Lis g s smp rest b w0.heap.size w) (hs1 : smp + l.length ≤ 2147483648)
    (hr : Kd.C (Kd.int .i64) w0 A0 l.length l) (hv : inR (-32768) 32767 l = true) (hl : l.length ≤ 200000) (hge : w0.heap.size ≤ b) (hB : Below w0.heap.size w0 w) :
    Calls Try.prog 37 #[.pointer (some ⟨b, 0, none⟩), .slice A0 l.length c0] w fun e w' => ∃ v, e = .returned (.tuple #[v, .int .i64 0]) ∧ Kd.R k65 65 w' w.heap.size (fun _ => True) v (runAll g s (rest ++ l)).2 ∧
      Lis g (runAll g s (rest ++ l)).1 (smp + l.length) (restOf g (rest ++ l)) b w0.heap.size w' ∧ Below w0.heap.size w0 w' ∧ KeepBut w w' b none := by
  refine (feed_fresh g s smp rest b A0 c0 l w0 w hg h hs1 hr hv hl hge hB).mono ?_
  rintro e w' ⟨v, he, h1, h2, h3, h4⟩
  exact ⟨v, he, h1, h2.lower hB.size, h3, h4⟩
theorem listen_lis (g : Gt) (base : Nat) (w : World) (hg : gateOK g = true) (hb : base ≤ w.heap.size) : Calls Try.prog 36 #[.agg #[.int .i64 g.block, .int .i64 g.high, .int .i64 g.low, .int .i64 g.rise, .int .i64 g.fall, .int .i64 g.lead, .int .i64 g.longest]] w fun e w' => ∃ b : Nat, e = .returned (.tuple #[.pointer (some ⟨b, 0, none⟩), .int .i64 0]) ∧ Lis g ls0 0 [] b base w' ∧ w.heap.size ≤ b ∧ Below w.heap.size w w' := by
  refine (listen_good g w hg).mono ?_
  rintro e w' ⟨b, he, h1, h2, h3⟩
  exact ⟨b, he, ⟨⟨none, 0, h1, Kd.R_nil _ _ _ _ _⟩, inv0, Int.le_refl 0, fun v hv => (by cases hv), Nat.zero_le _⟩, h2, h3⟩
theorem refuse_lis (g : Gt) (s : Ls) (smp : Nat) (rest : List Int) (b base : Nat) (A0 : Option Addr) (c0 : Nat) (l : List Int) (w : World) (h : Lis g s smp rest b base w) (hl : l.length ≤ 200000) (hr : Kd.C (Kd.int .i64) w A0 l.length l) (hv : inR (-32768) 32767 l = false) :
    Calls Try.prog 37 #[.pointer (some ⟨b, 0, none⟩), .slice A0 l.length c0] w fun e w' => e = .returned (.tuple #[.slice none 0 0, .int .i64 2]) ∧ w' = w := by
  obtain ⟨Ab, cb, hb, hvb⟩ := h.cells
  exact feed_err g s smp _ b A0 c0 l w hl hr hv hb
theorem close_lis (g : Gt) (s : Ls) (smp : Nat) (rest : List Int) (b : Nat) (w0 w : World) (hg : gateOK g = true) (h : Lis g s smp rest b w0.heap.size w) (hs : smp ≤ 2147483648) (hge : w0.heap.size ≤ b) (hB : Below w0.heap.size w0 w) :
    Calls Try.prog 38 #[.pointer (some ⟨b, 0, none⟩)] w fun e w' => ∃ v, e = .returned (.tuple #[v, .int .i64 0]) ∧ Kd.R k65 65 w' w.heap.size (fun _ => True) v (if s.state = 1 then [⟨s.start * g.block, (smp : Int)⟩] else []) ∧ Below w0.heap.size w0 w' ∧ KeepBut w w' b none := by
  obtain ⟨Ab, cb, hb, hvb⟩ := h.cells
  have h9 := h.blocks
  refine (close_good g s smp _ b w0 w hg h.inv (by omega) hb hge hB).mono ?_
  rintro e w' ⟨v, he, h1, h2, h3, h4⟩
  exact ⟨v, he, h1, h3, h4⟩
end Go.Proofs.Ytigbfcodnbnicaa.P
