/- A block is processed by a listener: what it returns and what the listener then remembers; for gates as defined, blocks of samples, and a listener of at most 2^32 blocks. -/
import Derived.Test.YtigbfcodnbnicaaHGate
import Derived.Deep.QuietTactic
import Derived.BigQuiet
set_option linter.unusedVariables false
set_option linter.unusedSimpArgs false
namespace Go.Proofs.Ytigbfcodnbnicaa.P
open Go.RowKit Go.Proofs.YtigbfcodnbnicaaW.PrintWords Go.Proofs.YtigbfcodnbnicaaW.PrintLast Go.Proofs.YtigbfcodnbnicaaW.PrintMore
attribute [local go_sem] max2_int min2_int max_two min_two max_three min_three max_four min_four

/-- What holds between two blocks. -/
structure Inv (s : Ls) : Prop where
  st : s.state = 0 ∨ s.state = 1
  run0 : 0 ≤ s.run
  run1 : s.run ≤ s.blocks
  start0 : 0 ≤ s.start
  start1 : s.start ≤ s.blocks
  free0 : 0 ≤ s.free
  free1 : s.free ≤ s.blocks
/-- The cells of a listener in memory. -/
def lsCells (g : Gt) (s : Ls) (smp : Int) (v : Value) : Array Value := #[.int .i64 g.block, .int .i64 g.high, .int .i64 g.low, .int .i64 g.rise, .int .i64 g.fall, .int .i64 g.lead, .int .i64 g.longest, .bool true, .int .i64 s.state, v, .int .i64 s.blocks, .int .i64 smp, .int .i64 s.run, .int .i64 s.start, .int .i64 s.free]
def segOf (o : Option S65) : S65 := o.getD ⟨0, 0⟩
def ProcPost (g : Gt) (s : Ls) (smp : Int) (Ab : Option Addr) (nb cb : Nat) (b : Nat) (n : Int) (w0 w : World) (e : Ending) (w' : World) : Prop :=
  e = .returned (.tuple #[.agg #[.int .i64 (segOf (proc g s n).2).f0, .int .i64 (segOf (proc g s n).2).f1], .bool (proc g s n).2.isSome]) ∧ w'.heap[b]? = some (.cells (lsCells g (proc g s n).1 smp (.slice Ab nb cb)) 71 (0, 0)) ∧ Below w0.heap.size w0 w' ∧ KeepBut w w' b none
theorem mul_in {a b m n : Int} (h1 : 0 ≤ a) (h2 : a ≤ m) (h3 : 0 ≤ b) (h4 : b ≤ n) : 0 ≤ a * b ∧ a * b ≤ m * n := ⟨Int.mul_nonneg h1 h3, Int.mul_le_mul h2 h4 h3 (by omega)⟩
theorem nextRun_bd {run : Int} {goes : Bool} (h : 0 ≤ run) : 0 ≤ nextRun run goes ∧ nextRun run goes ≤ run + 1 := by
  unfold nextRun
  split <;> omega
theorem gate_ok {g : Gt} (h : gateOK g = true) : 1 ≤ g.block ∧ g.block ≤ 4096 ∧ 0 ≤ g.low ∧ g.low ≤ g.high ∧ g.high ≤ 1073741824 ∧ 1 ≤ g.rise ∧ g.rise ≤ 1000 ∧ 1 ≤ g.fall ∧ g.fall ≤ 1000 ∧ 0 ≤ g.lead ∧ g.lead ≤ 1000 ∧ g.rise + g.fall + g.lead ≤ g.longest ∧ g.longest ≤ 100000 := by
  unfold gateOK at h
  simp only [Bool.and_eq_true, decide_eq_true_eq] at h
  omega
set_option maxHeartbeats 8000000 in
set_option maxRecDepth 100000 in
theorem process_calls (g : Gt) (s : Ls) (smp : Int) (Ab : Option Addr) (nb cb b : Nat) (A0 : Option Addr) (c0 : Nat) (l0 : List Int) (w0 w : World) (hg : gateOK g = true) (hi : Inv s) (hbl : s.blocks ≤ 4294967296)
    (hrd : ∀ W, KeepBut w W b none → Kd.C (Kd.int .i64) W A0 l0.length l0) (hv : ∀ v ∈ l0, -32768 ≤ v ∧ v ≤ 32767) (hl : l0.length ≤ 4096)
    (hb : w.heap[b]? = some (.cells (lsCells g s smp (.slice Ab nb cb)) 71 (0, 0))) (hge : w0.heap.size ≤ b) (hB : Below w0.heap.size w0 w) :
    Calls Try.prog 77 #[.pointer (some ⟨b, 0, none⟩), .slice A0 l0.length c0] w (ProcPost g s smp Ab nb cb b (sumsq l0) w0 w) := by
  have HRD := Aside0.mk hrd
  have HV := Aside0.mk hv
  have BKb : Aside0 (w.heap[b]? = some (.cells #[.int .i64 g.block, .int .i64 g.high, .int .i64 g.low, .int .i64 g.rise, .int .i64 g.fall, .int .i64 g.lead, .int .i64 g.longest, .bool true, .int .i64 s.state, .slice Ab nb cb, .int .i64 s.blocks, .int .i64 smp, .int .i64 s.run, .int .i64 s.start, .int .i64 s.free] 71 (0, 0))) := ⟨hb⟩
  have GEb := Aside0.mk hge
  have HB := Aside0.mk hB
  have HK := Aside0.mk (KeepBut.refl w b none)
  have hu41 := Try.underlying41
  have hu65 := Try.underlying65
  have hu71 := Try.underlying71
  clear hrd hv hb hge hB
  obtain ⟨gb1, gb2, gl1, gl2, gh1, gr1, gr2, gf1, gf2, gd1, gd2, gn1, gn2⟩ := gate_ok hg
  have i1 := hi.run0
  have i2 := hi.run1
  have i3 := hi.start0
  have i4 := hi.start1
  have i5 := hi.free0
  have i6 := hi.free1
  have IS := Aside0.mk hi.st
  clear hg hi
  have ph := mul_in (show 0 ≤ g.high by omega) gh1 (show 0 ≤ g.block by omega) gb2
  have pl := mul_in gl1 (show g.low ≤ 1073741824 by omega) (show 0 ≤ g.block by omega) gb2
  have ps := mul_in i3 (show s.start ≤ 4294967296 by omega) (show 0 ≤ g.block by omega) gb2
  have ph1 := ph.1
  have ph2 := ph.2
  have pl1 := pl.1
  have pl2 := pl.2
  have ps1 := ps.1
  have ps2 := ps.2
  clear ph pl ps
  have bd := sumsq_bd (l := l0) (fun v hm => by have := HV.out v hm; omega)
  have n0 := bd.1
  have n1 : sumsq l0 ≤ 4294967296 * 4096 := by have := bd.2; omega
  clear bd
  go_enter Try.func77, Try.ntmps77
  go_wp2_with (first | ((with_reducible refine gate_dst (N := 4) rfl ?_); refine box_event ?hg (N := 4) ?hd (cs := #[.int .i64 0, .int .i64 0]) (t := 65) ?hr ?_; (case hd => rfl); (case hg => rfl); (case hr => first | (go_simp; done) | (go_simp; rfl)); intro g4 hg_ w4 hbox_ hb_; have n0_ := Aside0.mk (below_step (by repeat (first | (with_reducible first | exact HB.out | apply below_alloc | apply pw_below_drewN | apply below_drew1 | refine below_set ?_ GEb.out) | exact HB.out)) hb_); have nk_ := Aside0.mk (KeepBut.trans (by repeat (first | exact HK.out | apply KeepBut.set_ | apply keep_drewN | apply keep_drew | apply keep_alloc)) (KeepBut.of_below hb_ b none) (.inl rfl)); have n1_ := Aside0.mk (blk_below (g := b) (o := .cells #[.int .i64 g.block, .int .i64 g.high, .int .i64 g.low, .int .i64 g.rise, .int .i64 g.fall, .int .i64 g.lead, .int .i64 g.longest, .bool true, .int .i64 s.state, .slice Ab nb cb, .int .i64 s.blocks, .int .i64 smp, .int .i64 s.run, .int .i64 s.start, .int .i64 s.free] 71 (0, 0)) (by (with_reducible repeat (first | refine blk_drewN ?_ _ | refine blk_drew ?_ | refine blk_alloc ?_ _)); exact BKb.out) hb_); have n2_ := Aside0.mk (hbox_); have n3_ : Aside0 (w0.heap.size ≤ g4) := ⟨by rw [hg_]; exact (below_size (by repeat (first | (with_reducible first | exact HB.out | apply below_alloc | apply pw_below_drewN | apply below_drew1 | refine below_set ?_ GEb.out) | exact HB.out)))⟩; have n4_ : Aside0 (w.heap.size ≤ g4) := ⟨by rw [hg_]; exact keep_size (by repeat (first | exact HK.out | apply KeepBut.set_ | apply keep_drewN | apply keep_drew | apply keep_alloc))⟩; have NBb_g4 : Aside0 (b ≠ g4) := ⟨by rw [hg_]; exact Nat.ne_of_lt (blk_lt (o := .cells #[.int .i64 g.block, .int .i64 g.high, .int .i64 g.low, .int .i64 g.rise, .int .i64 g.fall, .int .i64 g.lead, .int .i64 g.longest, .bool true, .int .i64 s.state, .slice Ab nb cb, .int .i64 s.blocks, .int .i64 smp, .int .i64 s.run, .int .i64 s.start, .int .i64 s.free] 71 (0, 0)) (by (with_reducible repeat (first | refine blk_drewN ?_ _ | refine blk_drew ?_ | refine blk_alloc ?_ _)); exact BKb.out))⟩; have NBg4_b : Aside0 (g4 ≠ b) := ⟨NBb_g4.out.symm⟩; have hx1 := NBb_g4.out; have hy1 := NBg4_b.out; clear HB BKb; clear HK; have HK := nk_; clear nk_; have HB := n0_; have BKb := n1_; have BKg4 := n2_; have GEg4 := n3_; have GWg4 := n4_; clear n0_ n1_ n2_ n3_ n4_; have hc2 : w4.cell? ⟨b, 0, none⟩ = some (.int .i64 g.block) := (blk_cell BKb.out 0).trans rfl; have hf2 := blk_frozen BKb.out 0; have hc3 : w4.cell? ⟨b, 1, none⟩ = some (.int .i64 g.high) := (blk_cell BKb.out 1).trans rfl; have hf3 := blk_frozen BKb.out 1; have hc4 : w4.cell? ⟨b, 2, none⟩ = some (.int .i64 g.low) := (blk_cell BKb.out 2).trans rfl; have hf4 := blk_frozen BKb.out 2; have hc5 : w4.cell? ⟨b, 3, none⟩ = some (.int .i64 g.rise) := (blk_cell BKb.out 3).trans rfl; have hf5 := blk_frozen BKb.out 3; have hc6 : w4.cell? ⟨b, 4, none⟩ = some (.int .i64 g.fall) := (blk_cell BKb.out 4).trans rfl; have hf6 := blk_frozen BKb.out 4; have hc7 : w4.cell? ⟨b, 5, none⟩ = some (.int .i64 g.lead) := (blk_cell BKb.out 5).trans rfl; have hf7 := blk_frozen BKb.out 5; have hc8 : w4.cell? ⟨b, 6, none⟩ = some (.int .i64 g.longest) := (blk_cell BKb.out 6).trans rfl; have hf8 := blk_frozen BKb.out 6; have hc9 : w4.cell? ⟨b, 7, none⟩ = some (.bool true) := (blk_cell BKb.out 7).trans rfl; have hf9 := blk_frozen BKb.out 7; have hc10 : w4.cell? ⟨b, 8, none⟩ = some (.int .i64 s.state) := (blk_cell BKb.out 8).trans rfl; have hf10 := blk_frozen BKb.out 8; have hc11 : w4.cell? ⟨b, 9, none⟩ = some (.slice Ab nb cb) := (blk_cell BKb.out 9).trans rfl; have hf11 := blk_frozen BKb.out 9; have hc12 : w4.cell? ⟨b, 10, none⟩ = some (.int .i64 s.blocks) := (blk_cell BKb.out 10).trans rfl; have hf12 := blk_frozen BKb.out 10; have hc13 : w4.cell? ⟨b, 11, none⟩ = some (.int .i64 smp) := (blk_cell BKb.out 11).trans rfl; have hf13 := blk_frozen BKb.out 11; have hc14 : w4.cell? ⟨b, 12, none⟩ = some (.int .i64 s.run) := (blk_cell BKb.out 12).trans rfl; have hf14 := blk_frozen BKb.out 12; have hc15 : w4.cell? ⟨b, 13, none⟩ = some (.int .i64 s.start) := (blk_cell BKb.out 13).trans rfl; have hf15 := blk_frozen BKb.out 13; have hc16 : w4.cell? ⟨b, 14, none⟩ = some (.int .i64 s.free) := (blk_cell BKb.out 14).trans rfl; have hf16 := blk_frozen BKb.out 14; have hc17 : w4.cell? ⟨g4, 0, none⟩ = some (.int .i64 0) := (blk_cell BKg4.out 0).trans rfl; have hf17 := blk_frozen BKg4.out 0; have hc18 : w4.cell? ⟨g4, 1, none⟩ = some (.int .i64 0) := (blk_cell BKg4.out 1).trans rfl; have hf18 := blk_frozen BKg4.out 1; clear hb_ hbox_ hg_))
  have BKb := Aside0.mk (blk_drew BKb.out)
  have BKg4 := Aside0.mk (blk_drew BKg4.out)
  have HB := Aside0.mk (below_drew1 HB.out)
  have HK := Aside0.mk (keep_drew HK.out)
  have hp0 : w4.drew.cell? ⟨b, 0, none⟩ = some (.int .i64 g.block) := (blk_cell BKb.out 0).trans rfl
  have hp1 : w4.drew.cell? ⟨b, 1, none⟩ = some (.int .i64 g.high) := (blk_cell BKb.out 1).trans rfl
  have hp2 : w4.drew.cell? ⟨b, 2, none⟩ = some (.int .i64 g.low) := (blk_cell BKb.out 2).trans rfl
  have hp3 : w4.drew.cell? ⟨b, 3, none⟩ = some (.int .i64 g.rise) := (blk_cell BKb.out 3).trans rfl
  have hp4 : w4.drew.cell? ⟨b, 4, none⟩ = some (.int .i64 g.fall) := (blk_cell BKb.out 4).trans rfl
  have hp5 : w4.drew.cell? ⟨b, 5, none⟩ = some (.int .i64 g.lead) := (blk_cell BKb.out 5).trans rfl
  have hp6 : w4.drew.cell? ⟨b, 6, none⟩ = some (.int .i64 g.longest) := (blk_cell BKb.out 6).trans rfl
  have hp7 : w4.drew.cell? ⟨b, 10, none⟩ = some (.int .i64 s.blocks) := (blk_cell BKb.out 10).trans rfl
  refine start_ (n := 14) (S := fun w' => w'.cell? ⟨b, 0, none⟩ = some (.int .i64 g.block) ∧ w'.cell? ⟨b, 1, none⟩ = some (.int .i64 g.high) ∧ w'.cell? ⟨b, 2, none⟩ = some (.int .i64 g.low) ∧ w'.cell? ⟨b, 3, none⟩ = some (.int .i64 g.rise) ∧ w'.cell? ⟨b, 4, none⟩ = some (.int .i64 g.fall) ∧ w'.cell? ⟨b, 5, none⟩ = some (.int .i64 g.lead) ∧ w'.cell? ⟨b, 6, none⟩ = some (.int .i64 g.longest) ∧ w'.cell? ⟨b, 10, none⟩ = some (.int .i64 s.blocks)) (ds := []) #[false, false, false, false, false, false, false, false, false, false, false, false, false, false] (by kernel_rfl) rfl rfl ⟨hp0, hp1, hp2, hp3, hp4, hp5, hp6, hp7⟩ (fun hHeld => ?_)
  generalize w4.drew = w5 at BKb BKg4 HB HK hHeld ⊢
  refine pure_ (i := 0) (N := some 11) (v := ?_) (a' := ?_) #[true, false, false, false, false, false, false, false, false, false, false, false, false, false] rfl rfl (by kernel_rfl) (fun _ _ _ h => h) (Or.inl ⟨by rfl, ?_⟩) ?_ ?_
  rotate_left
  · intro w'
    go_simp
    with_reducible rfl
  rotate_left
  · simp only [Act.put, List.setIfInBounds_toArray, List.set_cons_zero, List.set_cons_succ, i64_w, i32_w]
    rfl
  refine pure_ (i := 1) (N := some 12) (v := ?_) (a' := ?_) #[true, true, false, false, false, false, false, false, false, false, false, false, false, false] rfl rfl (by kernel_rfl) (fun _ _ _ h => h) (Or.inl ⟨by rfl, ?_⟩) ?_ ?_
  rotate_left
  · intro w'
    go_simp
    with_reducible rfl
  rotate_left
  · simp only [Act.put, List.setIfInBounds_toArray, List.set_cons_zero, List.set_cons_succ, i64_w, i32_w]
    rfl
  refine pure_ (i := 2) (N := some 13) (v := ?_) (a' := ?_) #[true, true, true, false, false, false, false, false, false, false, false, false, false, false] rfl rfl (by kernel_rfl) (fun _ _ _ h => h) (Or.inl ⟨by rfl, ?_⟩) ?_ ?_
  rotate_left
  · intro w'
    go_simp
    with_reducible rfl
  rotate_left
  · simp only [Act.put, List.setIfInBounds_toArray, List.set_cons_zero, List.set_cons_succ, i64_w, i32_w]
    rfl
  refine pure_ (i := 4) (N := some 15) (v := ?_) (a' := ?_) #[true, true, true, false, true, false, false, false, false, false, false, false, false, false] rfl rfl (by kernel_rfl) (fun _ _ _ h => h) (Or.inl ⟨by rfl, ?_⟩) ?_ ?_
  rotate_left
  · intro w'
    go_simp
    with_reducible rfl
  rotate_left
  · simp only [Act.put, List.setIfInBounds_toArray, List.set_cons_zero, List.set_cons_succ, i64_w, i32_w]
    rfl
  refine pure_ (i := 6) (N := some 17) (v := ?_) (a' := ?_) #[true, true, true, false, true, false, true, false, false, false, false, false, false, false] rfl rfl (by kernel_rfl) (fun _ _ _ h => h) (Or.inl ⟨by rfl, ?_⟩) ?_ ?_
  rotate_left
  · intro w'
    go_simp
    with_reducible rfl
  rotate_left
  · simp only [Act.put, List.setIfInBounds_toArray, List.set_cons_zero, List.set_cons_succ, i64_w, i32_w]
    rfl
  refine pure_ (i := 7) (N := some 18) (v := ?_) (a' := ?_) #[true, true, true, false, true, false, true, true, false, false, false, false, false, false] rfl rfl (by kernel_rfl) (fun _ _ _ h => h) (Or.inl ⟨by rfl, ?_⟩) ?_ ?_
  rotate_left
  · intro w'
    go_simp
    with_reducible rfl
  rotate_left
  · simp only [Act.put, List.setIfInBounds_toArray, List.set_cons_zero, List.set_cons_succ, i64_w, i32_w]
    rfl
  refine pure_ (i := 8) (N := some 19) (v := ?_) (a' := ?_) #[true, true, true, false, true, false, true, true, true, false, false, false, false, false] rfl rfl (by kernel_rfl) (fun _ _ _ h => h) (Or.inl ⟨by rfl, ?_⟩) ?_ ?_
  rotate_left
  · intro w'
    go_simp
    with_reducible rfl
  rotate_left
  · simp only [Act.put, List.setIfInBounds_toArray, List.set_cons_zero, List.set_cons_succ, i64_w, i32_w]
    rfl
  refine take_ (i := 3) (N := some 14) (v := ?_) (a' := ?_) #[true, true, true, true, true, false, true, true, true, false, false, false, false, false] rfl rfl (by kernel_rfl) (fun _ _ _ h => h) (Or.inl ⟨by rfl, ?_⟩) hHeld ?_ ?_
  rotate_left
  · rintro w' ⟨s0, s1, s2, s3, s4, s5, s6, s7⟩
    go_simp
    with_reducible rfl
  rotate_left
  · simp only [Act.put, List.setIfInBounds_toArray, List.set_cons_zero, List.set_cons_succ, i64_w, i32_w]
    rfl
  refine take_ (i := 9) (N := some 20) (v := ?_) (a' := ?_) #[true, true, true, true, true, false, true, true, true, true, false, false, false, false] rfl rfl (by kernel_rfl) (fun _ _ _ h => h) (Or.inl ⟨by rfl, ?_⟩) hHeld ?_ ?_
  rotate_left
  · rintro w' ⟨s0, s1, s2, s3, s4, s5, s6, s7⟩
    go_simp
    with_reducible rfl
  rotate_left
  · simp only [Act.put, List.setIfInBounds_toArray, List.set_cons_zero, List.set_cons_succ, i64_w, i32_w]
    rfl
  refine join_ (σ := Unit) 3 #[true, true, true, true, true, true, true, true, true, true, true, false, false, false] (fun _ => [(16, .int .i64 (sumsq l0)), (6, .pointer (some ⟨w5.heap.size, 0, none⟩))]) (fun _ w' => w' = w5.alloc (.cells #[.int .i64 0, .int .i64 0, .int .i64 0, .int .i64 0, .int .i64 0, .int .i64 0, .int .i64 0] 41)) ?_ ?_
  rotate_left
  · intro hCont
    refine two_ (i := 5) (j := 10) (Ni := some 16) (Nj := some 6) #[true, true, true, true, true, true, true, true, true, true, false, false, false, false] #[true, true, true, true, true, false, true, true, true, true, true, false, false, false] rfl rfl rfl rfl (by kernel_rfl) (by decide) (by decide) (fun K hK => ?_) (fun K hK => ?_)
    · skip
      refine goes_ Try.func82 (by kernel_rfl) rfl #[.slice A0 l0.length c0] (by rfl) rfl rfl (by simp only [List.map_toArray, List.map_cons, List.map_nil]; rfl) ?_
      refine (energy_still A0 c0 l0 _ (HRD.out _ (by repeat (first | exact HK.out | apply KeepBut.set_ | apply keep_drewN | apply keep_drew | apply keep_alloc | refine keep_far ?_ GWg4.out _))) HV.out (by omega)).mono ?_
      rintro e w' ⟨rfl, rfl⟩
      refine ⟨_, rfl, ?_⟩
      refine hK.out _ _ ⟨(blk_cell (by (with_reducible repeat (first | refine blk_drewN ?_ _ | refine blk_drew ?_ | refine blk_alloc ?_ _)); exact BKb.out) 0).trans rfl, (blk_cell (by (with_reducible repeat (first | refine blk_drewN ?_ _ | refine blk_drew ?_ | refine blk_alloc ?_ _)); exact BKb.out) 1).trans rfl, (blk_cell (by (with_reducible repeat (first | refine blk_drewN ?_ _ | refine blk_drew ?_ | refine blk_alloc ?_ _)); exact BKb.out) 2).trans rfl, (blk_cell (by (with_reducible repeat (first | refine blk_drewN ?_ _ | refine blk_drew ?_ | refine blk_alloc ?_ _)); exact BKb.out) 3).trans rfl, (blk_cell (by (with_reducible repeat (first | refine blk_drewN ?_ _ | refine blk_drew ?_ | refine blk_alloc ?_ _)); exact BKb.out) 4).trans rfl, (blk_cell (by (with_reducible repeat (first | refine blk_drewN ?_ _ | refine blk_drew ?_ | refine blk_alloc ?_ _)); exact BKb.out) 5).trans rfl, (blk_cell (by (with_reducible repeat (first | refine blk_drewN ?_ _ | refine blk_drew ?_ | refine blk_alloc ?_ _)); exact BKb.out) 6).trans rfl, (blk_cell (by (with_reducible repeat (first | refine blk_drewN ?_ _ | refine blk_drew ?_ | refine blk_alloc ?_ _)); exact BKb.out) 10).trans rfl⟩ (fun hHeld => ?_)
      clear hK K
      refine norm_ (a' := ?_) ?_ ?_
      rotate_left
      · show Act.put _ (some 16) _ = _
        simp only [Act.put, List.setIfInBounds_toArray, List.set_cons_zero, List.set_cons_succ, i64_w, i32_w]
        rfl
      refine one_ (i := 10) (N := some 6) #[true, true, true, true, true, true, true, true, true, true, true, false, false, false] rfl rfl (by kernel_rfl) (by decide) (fun K hK => ?_)
      refine value_ (w1 := ?_) (v := ?_) (by rfl) rfl ?_ ?_
      rotate_left 2
      · go_simp
        constructor
        · rfl
        · rfl
      refine hK.out _ _ ⟨(blk_cell (by (with_reducible repeat (first | refine blk_drewN ?_ _ | refine blk_drew ?_ | refine blk_alloc ?_ _)); exact BKb.out) 0).trans rfl, (blk_cell (by (with_reducible repeat (first | refine blk_drewN ?_ _ | refine blk_drew ?_ | refine blk_alloc ?_ _)); exact BKb.out) 1).trans rfl, (blk_cell (by (with_reducible repeat (first | refine blk_drewN ?_ _ | refine blk_drew ?_ | refine blk_alloc ?_ _)); exact BKb.out) 2).trans rfl, (blk_cell (by (with_reducible repeat (first | refine blk_drewN ?_ _ | refine blk_drew ?_ | refine blk_alloc ?_ _)); exact BKb.out) 3).trans rfl, (blk_cell (by (with_reducible repeat (first | refine blk_drewN ?_ _ | refine blk_drew ?_ | refine blk_alloc ?_ _)); exact BKb.out) 4).trans rfl, (blk_cell (by (with_reducible repeat (first | refine blk_drewN ?_ _ | refine blk_drew ?_ | refine blk_alloc ?_ _)); exact BKb.out) 5).trans rfl, (blk_cell (by (with_reducible repeat (first | refine blk_drewN ?_ _ | refine blk_drew ?_ | refine blk_alloc ?_ _)); exact BKb.out) 6).trans rfl, (blk_cell (by (with_reducible repeat (first | refine blk_drewN ?_ _ | refine blk_drew ?_ | refine blk_alloc ?_ _)); exact BKb.out) 10).trans rfl⟩ (fun hHeld => ?_)
      clear hK K
      refine norm_ (a' := ?_) ?_ ?_
      rotate_left
      · show Act.put _ (some 6) _ = _
        simp only [Act.put, List.setIfInBounds_toArray, List.set_cons_zero, List.set_cons_succ, i64_w, i32_w]
        rfl
      exact norm_ (by simp only [putAll, Act.put, List.setIfInBounds_toArray, List.set_cons_zero, List.set_cons_succ]) (hCont () _ rfl)
    · skip
      refine value_ (w1 := ?_) (v := ?_) (by rfl) rfl ?_ ?_
      rotate_left 2
      · go_simp
        constructor
        · rfl
        · rfl
      refine hK.out _ _ ⟨(blk_cell (by (with_reducible repeat (first | refine blk_drewN ?_ _ | refine blk_drew ?_ | refine blk_alloc ?_ _)); exact BKb.out) 0).trans rfl, (blk_cell (by (with_reducible repeat (first | refine blk_drewN ?_ _ | refine blk_drew ?_ | refine blk_alloc ?_ _)); exact BKb.out) 1).trans rfl, (blk_cell (by (with_reducible repeat (first | refine blk_drewN ?_ _ | refine blk_drew ?_ | refine blk_alloc ?_ _)); exact BKb.out) 2).trans rfl, (blk_cell (by (with_reducible repeat (first | refine blk_drewN ?_ _ | refine blk_drew ?_ | refine blk_alloc ?_ _)); exact BKb.out) 3).trans rfl, (blk_cell (by (with_reducible repeat (first | refine blk_drewN ?_ _ | refine blk_drew ?_ | refine blk_alloc ?_ _)); exact BKb.out) 4).trans rfl, (blk_cell (by (with_reducible repeat (first | refine blk_drewN ?_ _ | refine blk_drew ?_ | refine blk_alloc ?_ _)); exact BKb.out) 5).trans rfl, (blk_cell (by (with_reducible repeat (first | refine blk_drewN ?_ _ | refine blk_drew ?_ | refine blk_alloc ?_ _)); exact BKb.out) 6).trans rfl, (blk_cell (by (with_reducible repeat (first | refine blk_drewN ?_ _ | refine blk_drew ?_ | refine blk_alloc ?_ _)); exact BKb.out) 10).trans rfl⟩ (fun hHeld => ?_)
      clear hK K
      refine norm_ (a' := ?_) ?_ ?_
      rotate_left
      · show Act.put _ (some 6) _ = _
        simp only [Act.put, List.setIfInBounds_toArray, List.set_cons_zero, List.set_cons_succ, i64_w, i32_w]
        rfl
      refine one_ (i := 5) (N := some 16) #[true, true, true, true, true, true, true, true, true, true, true, false, false, false] rfl rfl (by kernel_rfl) (by decide) (fun K hK => ?_)
      refine goes_ Try.func82 (by kernel_rfl) rfl #[.slice A0 l0.length c0] (by rfl) rfl rfl (by simp only [List.map_toArray, List.map_cons, List.map_nil]; rfl) ?_
      refine (energy_still A0 c0 l0 _ (HRD.out _ (by repeat (first | exact HK.out | apply KeepBut.set_ | apply keep_drewN | apply keep_drew | apply keep_alloc | refine keep_far ?_ GWg4.out _))) HV.out (by omega)).mono ?_
      rintro e w' ⟨rfl, rfl⟩
      refine ⟨_, rfl, ?_⟩
      refine hK.out _ _ ⟨(blk_cell (by (with_reducible repeat (first | refine blk_drewN ?_ _ | refine blk_drew ?_ | refine blk_alloc ?_ _)); exact BKb.out) 0).trans rfl, (blk_cell (by (with_reducible repeat (first | refine blk_drewN ?_ _ | refine blk_drew ?_ | refine blk_alloc ?_ _)); exact BKb.out) 1).trans rfl, (blk_cell (by (with_reducible repeat (first | refine blk_drewN ?_ _ | refine blk_drew ?_ | refine blk_alloc ?_ _)); exact BKb.out) 2).trans rfl, (blk_cell (by (with_reducible repeat (first | refine blk_drewN ?_ _ | refine blk_drew ?_ | refine blk_alloc ?_ _)); exact BKb.out) 3).trans rfl, (blk_cell (by (with_reducible repeat (first | refine blk_drewN ?_ _ | refine blk_drew ?_ | refine blk_alloc ?_ _)); exact BKb.out) 4).trans rfl, (blk_cell (by (with_reducible repeat (first | refine blk_drewN ?_ _ | refine blk_drew ?_ | refine blk_alloc ?_ _)); exact BKb.out) 5).trans rfl, (blk_cell (by (with_reducible repeat (first | refine blk_drewN ?_ _ | refine blk_drew ?_ | refine blk_alloc ?_ _)); exact BKb.out) 6).trans rfl, (blk_cell (by (with_reducible repeat (first | refine blk_drewN ?_ _ | refine blk_drew ?_ | refine blk_alloc ?_ _)); exact BKb.out) 10).trans rfl⟩ (fun hHeld => ?_)
      clear hK K
      refine norm_ (a' := ?_) ?_ ?_
      rotate_left
      · show Act.put _ (some 16) _ = _
        simp only [Act.put, List.setIfInBounds_toArray, List.set_cons_zero, List.set_cons_succ, i64_w, i32_w]
        rfl
      exact norm_ (by simp only [putAll, Act.put, List.setIfInBounds_toArray, List.set_cons_zero, List.set_cons_succ]) (hCont () _ rfl)
  rintro _ w' rfl
  have hHeld : (w5.alloc (.cells #[.int .i64 0, .int .i64 0, .int .i64 0, .int .i64 0, .int .i64 0, .int .i64 0, .int .i64 0] 41)).cell? ⟨b, 0, none⟩ = some (.int .i64 g.block) ∧ (w5.alloc (.cells #[.int .i64 0, .int .i64 0, .int .i64 0, .int .i64 0, .int .i64 0, .int .i64 0, .int .i64 0] 41)).cell? ⟨b, 1, none⟩ = some (.int .i64 g.high) ∧ (w5.alloc (.cells #[.int .i64 0, .int .i64 0, .int .i64 0, .int .i64 0, .int .i64 0, .int .i64 0, .int .i64 0] 41)).cell? ⟨b, 2, none⟩ = some (.int .i64 g.low) ∧ (w5.alloc (.cells #[.int .i64 0, .int .i64 0, .int .i64 0, .int .i64 0, .int .i64 0, .int .i64 0, .int .i64 0] 41)).cell? ⟨b, 3, none⟩ = some (.int .i64 g.rise) ∧ (w5.alloc (.cells #[.int .i64 0, .int .i64 0, .int .i64 0, .int .i64 0, .int .i64 0, .int .i64 0, .int .i64 0] 41)).cell? ⟨b, 4, none⟩ = some (.int .i64 g.fall) ∧ (w5.alloc (.cells #[.int .i64 0, .int .i64 0, .int .i64 0, .int .i64 0, .int .i64 0, .int .i64 0, .int .i64 0] 41)).cell? ⟨b, 5, none⟩ = some (.int .i64 g.lead) ∧ (w5.alloc (.cells #[.int .i64 0, .int .i64 0, .int .i64 0, .int .i64 0, .int .i64 0, .int .i64 0, .int .i64 0] 41)).cell? ⟨b, 6, none⟩ = some (.int .i64 g.longest) ∧ (w5.alloc (.cells #[.int .i64 0, .int .i64 0, .int .i64 0, .int .i64 0, .int .i64 0, .int .i64 0, .int .i64 0] 41)).cell? ⟨b, 10, none⟩ = some (.int .i64 s.blocks) := ⟨(blk_cell (blk_alloc BKb.out _) 0).trans rfl, (blk_cell (blk_alloc BKb.out _) 1).trans rfl, (blk_cell (blk_alloc BKb.out _) 2).trans rfl, (blk_cell (blk_alloc BKb.out _) 3).trans rfl, (blk_cell (blk_alloc BKb.out _) 4).trans rfl, (blk_cell (blk_alloc BKb.out _) 5).trans rfl, (blk_cell (blk_alloc BKb.out _) 6).trans rfl, (blk_cell (blk_alloc BKb.out _) 10).trans rfl⟩
  refine norm_ (a' := ?_) ?_ ?_
  rotate_left
  · simp only [putAll, Act.put, List.setIfInBounds_toArray, List.set_cons_zero, List.set_cons_succ]
    rfl
  refine one_ (i := 11) (N := none) #[true, true, true, true, true, true, true, true, true, true, true, true, false, false] rfl rfl (by kernel_rfl) (by decide) (fun K hK => ?_)
  skip
  refine skip_ (w1 := ?_) (by rfl) rfl ?_ ?_
  rotate_left
  · go_simp
    rfl
  refine hK.out _ _ ⟨(blk_cell (blk_alloc BKb.out _) 0).trans rfl, (blk_cell (blk_alloc BKb.out _) 1).trans rfl, (blk_cell (blk_alloc BKb.out _) 2).trans rfl, (blk_cell (blk_alloc BKb.out _) 3).trans rfl, (blk_cell (blk_alloc BKb.out _) 4).trans rfl, (blk_cell (blk_alloc BKb.out _) 5).trans rfl, (blk_cell (blk_alloc BKb.out _) 6).trans rfl, (blk_cell (blk_alloc BKb.out _) 10).trans rfl⟩ (fun hHeld => ?_)
  clear hK K
  refine pure_ (i := 12) (N := some 7) (v := ?_) (a' := ?_) #[true, true, true, true, true, true, true, true, true, true, true, true, true, false] rfl rfl (by kernel_rfl) (fun _ _ _ h => h) (Or.inl ⟨by rfl, ?_⟩) ?_ ?_
  rotate_left
  · intro w'
    go_simp
    with_reducible rfl
  rotate_left
  · simp only [Act.put, List.setIfInBounds_toArray, List.set_cons_zero, List.set_cons_succ, i64_w, i32_w]
    rfl
  refine pure_ (i := 13) (N := some 8) (v := ?_) (a' := ?_) #[true, true, true, true, true, true, true, true, true, true, true, true, true, true] rfl rfl (by kernel_rfl) (fun _ _ _ h => h) (Or.inl ⟨by rfl, ?_⟩) ?_ ?_
  rotate_left
  · intro w'
    go_simp
    with_reducible rfl
  rotate_left
  · simp only [Act.put, List.setIfInBounds_toArray, List.set_cons_zero, List.set_cons_succ, i64_w, i32_w]
    rfl
  refine done_ (by kernel_rfl) ?_

  obtain ⟨w6, hw6⟩ : ∃ w6, w6 = w5.alloc (.cells #[.int .i64 g.block, .int .i64 g.high, .int .i64 g.low, .int .i64 g.rise, .int .i64 g.fall, .int .i64 g.lead, .int .i64 g.longest] 41) := ⟨_, rfl⟩
  obtain ⟨g6, hg6⟩ : ∃ g6, g6 = w5.heap.size := ⟨_, rfl⟩
  rw [← hw6, ← hg6]
  have BKg6 : Aside0 (w6.heap[g6]? = some (.cells #[.int .i64 g.block, .int .i64 g.high, .int .i64 g.low, .int .i64 g.rise, .int .i64 g.fall, .int .i64 g.lead, .int .i64 g.longest] 41 (0, 0))) := ⟨by rw [hw6, hg6]; exact blk_new _ _⟩
  have GEg6 : Aside0 (w0.heap.size ≤ g6) := ⟨by rw [hg6]; exact below_size HB.out⟩
  have GWg6 : Aside0 (w.heap.size ≤ g6) := ⟨by rw [hg6]; exact keep_size HK.out⟩
  have NBb_g6 : Aside0 (b ≠ g6) := ⟨by rw [hg6]; exact Nat.ne_of_lt (blk_lt BKb.out)⟩
  have NBg6_b : Aside0 (g6 ≠ b) := ⟨NBb_g6.out.symm⟩
  have NBg4_g6 : Aside0 (g4 ≠ g6) := ⟨by rw [hg6]; exact Nat.ne_of_lt (blk_lt BKg4.out)⟩
  have NBg6_g4 : Aside0 (g6 ≠ g4) := ⟨NBg4_g6.out.symm⟩
  have hnq1 := NBb_g6.out
  have hnq2 := NBg6_b.out
  have hnq3 := NBg4_g6.out
  have hnq4 := NBg6_g4.out
  have BKb : Aside0 (w6.heap[b]? = some (.cells #[.int .i64 g.block, .int .i64 g.high, .int .i64 g.low, .int .i64 g.rise, .int .i64 g.fall, .int .i64 g.lead, .int .i64 g.longest, .bool true, .int .i64 s.state, .slice Ab nb cb, .int .i64 s.blocks, .int .i64 smp, .int .i64 s.run, .int .i64 s.start, .int .i64 s.free] 71 (0, 0))) := ⟨by rw [hw6]; exact blk_alloc BKb.out _⟩
  have BKg4 : Aside0 (w6.heap[g4]? = some (.cells #[.int .i64 0, .int .i64 0] 65 (0, 0))) := ⟨by rw [hw6]; exact blk_alloc BKg4.out _⟩
  have HB : Aside0 (Below w0.heap.size w0 w6) := ⟨by rw [hw6]; exact below_alloc HB.out _⟩
  have HK : Aside0 (KeepBut w w6 b none) := ⟨by rw [hw6]; exact keep_alloc HK.out _⟩
  clear hw6 hg6 hHeld
  have hc19 : w6.cell? ⟨b, 0, none⟩ = some (.int .i64 g.block) := (blk_cell BKb.out 0).trans rfl
  have hf19 := blk_frozen BKb.out 0
  have hc20 : w6.cell? ⟨b, 1, none⟩ = some (.int .i64 g.high) := (blk_cell BKb.out 1).trans rfl
  have hf20 := blk_frozen BKb.out 1
  have hc21 : w6.cell? ⟨b, 2, none⟩ = some (.int .i64 g.low) := (blk_cell BKb.out 2).trans rfl
  have hf21 := blk_frozen BKb.out 2
  have hc22 : w6.cell? ⟨b, 3, none⟩ = some (.int .i64 g.rise) := (blk_cell BKb.out 3).trans rfl
  have hf22 := blk_frozen BKb.out 3
  have hc23 : w6.cell? ⟨b, 4, none⟩ = some (.int .i64 g.fall) := (blk_cell BKb.out 4).trans rfl
  have hf23 := blk_frozen BKb.out 4
  have hc24 : w6.cell? ⟨b, 5, none⟩ = some (.int .i64 g.lead) := (blk_cell BKb.out 5).trans rfl
  have hf24 := blk_frozen BKb.out 5
  have hc25 : w6.cell? ⟨b, 6, none⟩ = some (.int .i64 g.longest) := (blk_cell BKb.out 6).trans rfl
  have hf25 := blk_frozen BKb.out 6
  have hc26 : w6.cell? ⟨b, 7, none⟩ = some (.bool true) := (blk_cell BKb.out 7).trans rfl
  have hf26 := blk_frozen BKb.out 7
  have hc27 : w6.cell? ⟨b, 8, none⟩ = some (.int .i64 s.state) := (blk_cell BKb.out 8).trans rfl
  have hf27 := blk_frozen BKb.out 8
  have hc28 : w6.cell? ⟨b, 9, none⟩ = some (.slice Ab nb cb) := (blk_cell BKb.out 9).trans rfl
  have hf28 := blk_frozen BKb.out 9
  have hc29 : w6.cell? ⟨b, 10, none⟩ = some (.int .i64 s.blocks) := (blk_cell BKb.out 10).trans rfl
  have hf29 := blk_frozen BKb.out 10
  have hc30 : w6.cell? ⟨b, 11, none⟩ = some (.int .i64 smp) := (blk_cell BKb.out 11).trans rfl
  have hf30 := blk_frozen BKb.out 11
  have hc31 : w6.cell? ⟨b, 12, none⟩ = some (.int .i64 s.run) := (blk_cell BKb.out 12).trans rfl
  have hf31 := blk_frozen BKb.out 12
  have hc32 : w6.cell? ⟨b, 13, none⟩ = some (.int .i64 s.start) := (blk_cell BKb.out 13).trans rfl
  have hf32 := blk_frozen BKb.out 13
  have hc33 : w6.cell? ⟨b, 14, none⟩ = some (.int .i64 s.free) := (blk_cell BKb.out 14).trans rfl
  have hf33 := blk_frozen BKb.out 14
  have hc34 : w6.cell? ⟨g4, 0, none⟩ = some (.int .i64 0) := (blk_cell BKg4.out 0).trans rfl
  have hf34 := blk_frozen BKg4.out 0
  have hc35 : w6.cell? ⟨g4, 1, none⟩ = some (.int .i64 0) := (blk_cell BKg4.out 1).trans rfl
  have hf35 := blk_frozen BKg4.out 1
  have hc36 : w6.cell? ⟨g6, 0, none⟩ = some (.int .i64 g.block) := (blk_cell BKg6.out 0).trans rfl
  have hf36 := blk_frozen BKg6.out 0
  have hc37 : w6.cell? ⟨g6, 1, none⟩ = some (.int .i64 g.high) := (blk_cell BKg6.out 1).trans rfl
  have hf37 := blk_frozen BKg6.out 1
  have hc38 : w6.cell? ⟨g6, 2, none⟩ = some (.int .i64 g.low) := (blk_cell BKg6.out 2).trans rfl
  have hf38 := blk_frozen BKg6.out 2
  have hc39 : w6.cell? ⟨g6, 3, none⟩ = some (.int .i64 g.rise) := (blk_cell BKg6.out 3).trans rfl
  have hf39 := blk_frozen BKg6.out 3
  have hc40 : w6.cell? ⟨g6, 4, none⟩ = some (.int .i64 g.fall) := (blk_cell BKg6.out 4).trans rfl
  have hf40 := blk_frozen BKg6.out 4
  have hc41 : w6.cell? ⟨g6, 5, none⟩ = some (.int .i64 g.lead) := (blk_cell BKg6.out 5).trans rfl
  have hf41 := blk_frozen BKg6.out 5
  have hc42 : w6.cell? ⟨g6, 6, none⟩ = some (.int .i64 g.longest) := (blk_cell BKg6.out 6).trans rfl
  have hf42 := blk_frozen BKg6.out 6
  have pw1 : IntKind.i64.wrap (g.high * g.block) = g.high * g.block := IntWalk.i64_in _ (by omega)
  have pw2 : IntKind.i64.wrap (g.low * g.block) = g.low * g.block := IntWalk.i64_in _ (by omega)
  go_wp2_with fail
  have z0_ := Aside0.mk (show Below w0.heap.size w0 (w6.setCell ⟨b, 10, none⟩ (.int .i64 (s.blocks + 1))) from (by repeat (first | (with_reducible first | exact HB.out | apply below_alloc | apply pw_below_drewN | apply below_drew1 | refine below_set ?_ GEb.out | refine below_set ?_ GEg4.out | refine below_set ?_ GEg6.out) | exact HB.out)))
  have z1_ := Aside0.mk (show KeepBut w (w6.setCell ⟨b, 10, none⟩ (.int .i64 (s.blocks + 1))) b none from (by repeat (first | exact HK.out | apply KeepBut.set_ | apply keep_drewN | apply keep_drew | apply keep_alloc | refine keep_far ?_ GWg4.out _ | refine keep_far ?_ GWg6.out _)))
  have z2_ := Aside0.mk (show (w6.setCell ⟨b, 10, none⟩ (.int .i64 (s.blocks + 1))).heap[b]? = some (.cells #[.int .i64 g.block, .int .i64 g.high, .int .i64 g.low, .int .i64 g.rise, .int .i64 g.fall, .int .i64 g.lead, .int .i64 g.longest, .bool true, .int .i64 s.state, .slice Ab nb cb, .int .i64 (s.blocks + 1), .int .i64 smp, .int .i64 s.run, .int .i64 s.start, .int .i64 s.free] 71 (0, 0)) from (by (with_reducible repeat (first | refine blk_drewN ?_ _ | refine blk_drew ?_ | refine blk_alloc ?_ _)); refine blk_put (cs := #[.int .i64 g.block, .int .i64 g.high, .int .i64 g.low, .int .i64 g.rise, .int .i64 g.fall, .int .i64 g.lead, .int .i64 g.longest, .bool true, .int .i64 s.state, .slice Ab nb cb, .int .i64 s.blocks, .int .i64 smp, .int .i64 s.run, .int .i64 s.start, .int .i64 s.free]) ?_ 10 _ rfl; (with_reducible repeat (first | refine blk_drewN ?_ _ | refine blk_drew ?_ | refine blk_alloc ?_ _)); exact BKb.out))
  have z3_ := Aside0.mk (show (w6.setCell ⟨b, 10, none⟩ (.int .i64 (s.blocks + 1))).heap[g4]? = some (.cells #[.int .i64 0, .int .i64 0] 65 (0, 0)) from (by (with_reducible repeat (first | refine blk_drewN ?_ _ | refine blk_drew ?_ | refine blk_alloc ?_ _)); refine blk_far ?_ NBg4_b.out _; (with_reducible repeat (first | refine blk_drewN ?_ _ | refine blk_drew ?_ | refine blk_alloc ?_ _)); exact BKg4.out))
  have z4_ := Aside0.mk (show (w6.setCell ⟨b, 10, none⟩ (.int .i64 (s.blocks + 1))).heap[g6]? = some (.cells #[.int .i64 g.block, .int .i64 g.high, .int .i64 g.low, .int .i64 g.rise, .int .i64 g.fall, .int .i64 g.lead, .int .i64 g.longest] 41 (0, 0)) from (by (with_reducible repeat (first | refine blk_drewN ?_ _ | refine blk_drew ?_ | refine blk_alloc ?_ _)); refine blk_far ?_ NBg6_b.out _; (with_reducible repeat (first | refine blk_drewN ?_ _ | refine blk_drew ?_ | refine blk_alloc ?_ _)); exact BKg6.out))
  clear HB HK BKb BKg4 BKg6
  have HB := z0_
  have HK := z1_
  have BKb := z2_
  have BKg4 := z3_
  have BKg6 := z4_
  clear z0_ z1_ z2_ z3_ z4_
  generalize w6.setCell ⟨b, 10, none⟩ (.int .i64 (s.blocks + 1)) = w7 at HB HK BKb BKg4 BKg6 ⊢
  have hc43 : w7.cell? ⟨b, 0, none⟩ = some (.int .i64 g.block) := (blk_cell BKb.out 0).trans rfl
  have hf43 := blk_frozen BKb.out 0
  have hc44 : w7.cell? ⟨b, 1, none⟩ = some (.int .i64 g.high) := (blk_cell BKb.out 1).trans rfl
  have hf44 := blk_frozen BKb.out 1
  have hc45 : w7.cell? ⟨b, 2, none⟩ = some (.int .i64 g.low) := (blk_cell BKb.out 2).trans rfl
  have hf45 := blk_frozen BKb.out 2
  have hc46 : w7.cell? ⟨b, 3, none⟩ = some (.int .i64 g.rise) := (blk_cell BKb.out 3).trans rfl
  have hf46 := blk_frozen BKb.out 3
  have hc47 : w7.cell? ⟨b, 4, none⟩ = some (.int .i64 g.fall) := (blk_cell BKb.out 4).trans rfl
  have hf47 := blk_frozen BKb.out 4
  have hc48 : w7.cell? ⟨b, 5, none⟩ = some (.int .i64 g.lead) := (blk_cell BKb.out 5).trans rfl
  have hf48 := blk_frozen BKb.out 5
  have hc49 : w7.cell? ⟨b, 6, none⟩ = some (.int .i64 g.longest) := (blk_cell BKb.out 6).trans rfl
  have hf49 := blk_frozen BKb.out 6
  have hc50 : w7.cell? ⟨b, 7, none⟩ = some (.bool true) := (blk_cell BKb.out 7).trans rfl
  have hf50 := blk_frozen BKb.out 7
  have hc51 : w7.cell? ⟨b, 8, none⟩ = some (.int .i64 s.state) := (blk_cell BKb.out 8).trans rfl
  have hf51 := blk_frozen BKb.out 8
  have hc52 : w7.cell? ⟨b, 9, none⟩ = some (.slice Ab nb cb) := (blk_cell BKb.out 9).trans rfl
  have hf52 := blk_frozen BKb.out 9
  have hc53 : w7.cell? ⟨b, 10, none⟩ = some (.int .i64 (s.blocks + 1)) := (blk_cell BKb.out 10).trans rfl
  have hf53 := blk_frozen BKb.out 10
  have hc54 : w7.cell? ⟨b, 11, none⟩ = some (.int .i64 smp) := (blk_cell BKb.out 11).trans rfl
  have hf54 := blk_frozen BKb.out 11
  have hc55 : w7.cell? ⟨b, 12, none⟩ = some (.int .i64 s.run) := (blk_cell BKb.out 12).trans rfl
  have hf55 := blk_frozen BKb.out 12
  have hc56 : w7.cell? ⟨b, 13, none⟩ = some (.int .i64 s.start) := (blk_cell BKb.out 13).trans rfl
  have hf56 := blk_frozen BKb.out 13
  have hc57 : w7.cell? ⟨b, 14, none⟩ = some (.int .i64 s.free) := (blk_cell BKb.out 14).trans rfl
  have hf57 := blk_frozen BKb.out 14
  have hc58 : w7.cell? ⟨g4, 0, none⟩ = some (.int .i64 0) := (blk_cell BKg4.out 0).trans rfl
  have hf58 := blk_frozen BKg4.out 0
  have hc59 : w7.cell? ⟨g4, 1, none⟩ = some (.int .i64 0) := (blk_cell BKg4.out 1).trans rfl
  have hf59 := blk_frozen BKg4.out 1
  have hc60 : w7.cell? ⟨g6, 0, none⟩ = some (.int .i64 g.block) := (blk_cell BKg6.out 0).trans rfl
  have hf60 := blk_frozen BKg6.out 0
  have hc61 : w7.cell? ⟨g6, 1, none⟩ = some (.int .i64 g.high) := (blk_cell BKg6.out 1).trans rfl
  have hf61 := blk_frozen BKg6.out 1
  have hc62 : w7.cell? ⟨g6, 2, none⟩ = some (.int .i64 g.low) := (blk_cell BKg6.out 2).trans rfl
  have hf62 := blk_frozen BKg6.out 2
  have hc63 : w7.cell? ⟨g6, 3, none⟩ = some (.int .i64 g.rise) := (blk_cell BKg6.out 3).trans rfl
  have hf63 := blk_frozen BKg6.out 3
  have hc64 : w7.cell? ⟨g6, 4, none⟩ = some (.int .i64 g.fall) := (blk_cell BKg6.out 4).trans rfl
  have hf64 := blk_frozen BKg6.out 4
  have hc65 : w7.cell? ⟨g6, 5, none⟩ = some (.int .i64 g.lead) := (blk_cell BKg6.out 5).trans rfl
  have hf65 := blk_frozen BKg6.out 5
  have hc66 : w7.cell? ⟨g6, 6, none⟩ = some (.int .i64 g.longest) := (blk_cell BKg6.out 6).trans rfl
  have hf66 := blk_frozen BKg6.out 6
  go_quiet (fail)
  clear pw1 pw2
  have z0_ := Aside0.mk (show Below w0.heap.size w0 (w7.drewN nq) from (by repeat (first | (with_reducible first | exact HB.out | apply below_alloc | apply pw_below_drewN | apply below_drew1 | refine below_set ?_ GEb.out | refine below_set ?_ GEg4.out | refine below_set ?_ GEg6.out) | exact HB.out)))
  have z1_ := Aside0.mk (show KeepBut w (w7.drewN nq) b none from (by repeat (first | exact HK.out | apply KeepBut.set_ | apply keep_drewN | apply keep_drew | apply keep_alloc | refine keep_far ?_ GWg4.out _ | refine keep_far ?_ GWg6.out _)))
  have z2_ := Aside0.mk (show (w7.drewN nq).heap[b]? = some (.cells #[.int .i64 g.block, .int .i64 g.high, .int .i64 g.low, .int .i64 g.rise, .int .i64 g.fall, .int .i64 g.lead, .int .i64 g.longest, .bool true, .int .i64 s.state, .slice Ab nb cb, .int .i64 (s.blocks + 1), .int .i64 smp, .int .i64 s.run, .int .i64 s.start, .int .i64 s.free] 71 (0, 0)) from (by (with_reducible repeat (first | refine blk_drewN ?_ _ | refine blk_drew ?_ | refine blk_alloc ?_ _)); exact BKb.out))
  have z3_ := Aside0.mk (show (w7.drewN nq).heap[g4]? = some (.cells #[.int .i64 0, .int .i64 0] 65 (0, 0)) from (by (with_reducible repeat (first | refine blk_drewN ?_ _ | refine blk_drew ?_ | refine blk_alloc ?_ _)); exact BKg4.out))
  have z4_ := Aside0.mk (show (w7.drewN nq).heap[g6]? = some (.cells #[.int .i64 g.block, .int .i64 g.high, .int .i64 g.low, .int .i64 g.rise, .int .i64 g.fall, .int .i64 g.lead, .int .i64 g.longest] 41 (0, 0)) from (by (with_reducible repeat (first | refine blk_drewN ?_ _ | refine blk_drew ?_ | refine blk_alloc ?_ _)); exact BKg6.out))
  clear HB HK BKb BKg4 BKg6
  have HB := z0_
  have HK := z1_
  have BKb := z2_
  have BKg4 := z3_
  have BKg6 := z4_
  clear z0_ z1_ z2_ z3_ z4_
  generalize w7.drewN nq = w8 at HB HK BKb BKg4 BKg6 ⊢
  have hc67 : w8.cell? ⟨b, 0, none⟩ = some (.int .i64 g.block) := (blk_cell BKb.out 0).trans rfl
  have hf67 := blk_frozen BKb.out 0
  have hc68 : w8.cell? ⟨b, 1, none⟩ = some (.int .i64 g.high) := (blk_cell BKb.out 1).trans rfl
  have hf68 := blk_frozen BKb.out 1
  have hc69 : w8.cell? ⟨b, 2, none⟩ = some (.int .i64 g.low) := (blk_cell BKb.out 2).trans rfl
  have hf69 := blk_frozen BKb.out 2
  have hc70 : w8.cell? ⟨b, 3, none⟩ = some (.int .i64 g.rise) := (blk_cell BKb.out 3).trans rfl
  have hf70 := blk_frozen BKb.out 3
  have hc71 : w8.cell? ⟨b, 4, none⟩ = some (.int .i64 g.fall) := (blk_cell BKb.out 4).trans rfl
  have hf71 := blk_frozen BKb.out 4
  have hc72 : w8.cell? ⟨b, 5, none⟩ = some (.int .i64 g.lead) := (blk_cell BKb.out 5).trans rfl
  have hf72 := blk_frozen BKb.out 5
  have hc73 : w8.cell? ⟨b, 6, none⟩ = some (.int .i64 g.longest) := (blk_cell BKb.out 6).trans rfl
  have hf73 := blk_frozen BKb.out 6
  have hc74 : w8.cell? ⟨b, 7, none⟩ = some (.bool true) := (blk_cell BKb.out 7).trans rfl
  have hf74 := blk_frozen BKb.out 7
  have hc75 : w8.cell? ⟨b, 8, none⟩ = some (.int .i64 s.state) := (blk_cell BKb.out 8).trans rfl
  have hf75 := blk_frozen BKb.out 8
  have hc76 : w8.cell? ⟨b, 9, none⟩ = some (.slice Ab nb cb) := (blk_cell BKb.out 9).trans rfl
  have hf76 := blk_frozen BKb.out 9
  have hc77 : w8.cell? ⟨b, 10, none⟩ = some (.int .i64 (s.blocks + 1)) := (blk_cell BKb.out 10).trans rfl
  have hf77 := blk_frozen BKb.out 10
  have hc78 : w8.cell? ⟨b, 11, none⟩ = some (.int .i64 smp) := (blk_cell BKb.out 11).trans rfl
  have hf78 := blk_frozen BKb.out 11
  have hc79 : w8.cell? ⟨b, 12, none⟩ = some (.int .i64 s.run) := (blk_cell BKb.out 12).trans rfl
  have hf79 := blk_frozen BKb.out 12
  have hc80 : w8.cell? ⟨b, 13, none⟩ = some (.int .i64 s.start) := (blk_cell BKb.out 13).trans rfl
  have hf80 := blk_frozen BKb.out 13
  have hc81 : w8.cell? ⟨b, 14, none⟩ = some (.int .i64 s.free) := (blk_cell BKb.out 14).trans rfl
  have hf81 := blk_frozen BKb.out 14
  have hc82 : w8.cell? ⟨g4, 0, none⟩ = some (.int .i64 0) := (blk_cell BKg4.out 0).trans rfl
  have hf82 := blk_frozen BKg4.out 0
  have hc83 : w8.cell? ⟨g4, 1, none⟩ = some (.int .i64 0) := (blk_cell BKg4.out 1).trans rfl
  have hf83 := blk_frozen BKg4.out 1
  have hc84 : w8.cell? ⟨g6, 0, none⟩ = some (.int .i64 g.block) := (blk_cell BKg6.out 0).trans rfl
  have hf84 := blk_frozen BKg6.out 0
  have hc85 : w8.cell? ⟨g6, 1, none⟩ = some (.int .i64 g.high) := (blk_cell BKg6.out 1).trans rfl
  have hf85 := blk_frozen BKg6.out 1
  have hc86 : w8.cell? ⟨g6, 2, none⟩ = some (.int .i64 g.low) := (blk_cell BKg6.out 2).trans rfl
  have hf86 := blk_frozen BKg6.out 2
  have hc87 : w8.cell? ⟨g6, 3, none⟩ = some (.int .i64 g.rise) := (blk_cell BKg6.out 3).trans rfl
  have hf87 := blk_frozen BKg6.out 3
  have hc88 : w8.cell? ⟨g6, 4, none⟩ = some (.int .i64 g.fall) := (blk_cell BKg6.out 4).trans rfl
  have hf88 := blk_frozen BKg6.out 4
  have hc89 : w8.cell? ⟨g6, 5, none⟩ = some (.int .i64 g.lead) := (blk_cell BKg6.out 5).trans rfl
  have hf89 := blk_frozen BKg6.out 5
  have hc90 : w8.cell? ⟨g6, 6, none⟩ = some (.int .i64 g.longest) := (blk_cell BKg6.out 6).trans rfl
  have hf90 := blk_frozen BKg6.out 6
  obtain ⟨loud, HL⟩ : ∃ x, Aside0 (x = decide (g.high * g.block ≤ sumsq l0)) := ⟨_, ⟨rfl⟩⟩
  obtain ⟨quiet, HQ⟩ : ∃ x, Aside0 (x = decide (sumsq l0 < g.low * g.block)) := ⟨_, ⟨rfl⟩⟩
  rcases IS.out with hst | hst
  · have HS := Aside0.mk hst
    have q0 : (s.state == 0) = true := beq_iff_eq.2 hst
    clear hst
    obtain ⟨r, HR⟩ : ∃ r, Aside0 (r = nextRun s.run loud) := ⟨_, ⟨rfl⟩⟩
    have hrb := nextRun_bd (goes := loud) i1
    rw [← HR.out] at hrb
    have r0 := hrb.1
    have r1 := hrb.2
    clear hrb
    go_wp2_with fail
    rw [← HL.out]
    refine (next95 _ _ _ (by omega) (by omega)).mono ?_
    rintro e w' ⟨rfl, rfl⟩
    rw [← HR.out]
    go_wp2_with fail
    have z0_ := Aside0.mk (show Below w0.heap.size w0 (w'.setCell ⟨b, 12, none⟩ (.int .i64 r)) from (by repeat (first | (with_reducible first | exact HB.out | apply below_alloc | apply pw_below_drewN | apply below_drew1 | refine below_set ?_ GEb.out | refine below_set ?_ GEg4.out | refine below_set ?_ GEg6.out) | exact HB.out)))
    have z1_ := Aside0.mk (show KeepBut w (w'.setCell ⟨b, 12, none⟩ (.int .i64 r)) b none from (by repeat (first | exact HK.out | apply KeepBut.set_ | apply keep_drewN | apply keep_drew | apply keep_alloc | refine keep_far ?_ GWg4.out _ | refine keep_far ?_ GWg6.out _)))
    have z2_ := Aside0.mk (show (w'.setCell ⟨b, 12, none⟩ (.int .i64 r)).heap[b]? = some (.cells #[.int .i64 g.block, .int .i64 g.high, .int .i64 g.low, .int .i64 g.rise, .int .i64 g.fall, .int .i64 g.lead, .int .i64 g.longest, .bool true, .int .i64 s.state, .slice Ab nb cb, .int .i64 (s.blocks + 1), .int .i64 smp, .int .i64 r, .int .i64 s.start, .int .i64 s.free] 71 (0, 0)) from (by (with_reducible repeat (first | refine blk_drewN ?_ _ | refine blk_drew ?_ | refine blk_alloc ?_ _)); refine blk_put (cs := #[.int .i64 g.block, .int .i64 g.high, .int .i64 g.low, .int .i64 g.rise, .int .i64 g.fall, .int .i64 g.lead, .int .i64 g.longest, .bool true, .int .i64 s.state, .slice Ab nb cb, .int .i64 (s.blocks + 1), .int .i64 smp, .int .i64 s.run, .int .i64 s.start, .int .i64 s.free]) ?_ 12 _ rfl; (with_reducible repeat (first | refine blk_drewN ?_ _ | refine blk_drew ?_ | refine blk_alloc ?_ _)); exact BKb.out))
    have z3_ := Aside0.mk (show (w'.setCell ⟨b, 12, none⟩ (.int .i64 r)).heap[g4]? = some (.cells #[.int .i64 0, .int .i64 0] 65 (0, 0)) from (by (with_reducible repeat (first | refine blk_drewN ?_ _ | refine blk_drew ?_ | refine blk_alloc ?_ _)); refine blk_far ?_ NBg4_b.out _; (with_reducible repeat (first | refine blk_drewN ?_ _ | refine blk_drew ?_ | refine blk_alloc ?_ _)); exact BKg4.out))
    have z4_ := Aside0.mk (show (w'.setCell ⟨b, 12, none⟩ (.int .i64 r)).heap[g6]? = some (.cells #[.int .i64 g.block, .int .i64 g.high, .int .i64 g.low, .int .i64 g.rise, .int .i64 g.fall, .int .i64 g.lead, .int .i64 g.longest] 41 (0, 0)) from (by (with_reducible repeat (first | refine blk_drewN ?_ _ | refine blk_drew ?_ | refine blk_alloc ?_ _)); refine blk_far ?_ NBg6_b.out _; (with_reducible repeat (first | refine blk_drewN ?_ _ | refine blk_drew ?_ | refine blk_alloc ?_ _)); exact BKg6.out))
    clear HB HK BKb BKg4 BKg6
    have HB := z0_
    have HK := z1_
    have BKb := z2_
    have BKg4 := z3_
    have BKg6 := z4_
    clear z0_ z1_ z2_ z3_ z4_
    generalize w'.setCell ⟨b, 12, none⟩ (.int .i64 r) = w9 at HB HK BKb BKg4 BKg6 ⊢
    have hc91 : w9.cell? ⟨b, 0, none⟩ = some (.int .i64 g.block) := (blk_cell BKb.out 0).trans rfl
    have hf91 := blk_frozen BKb.out 0
    have hc92 : w9.cell? ⟨b, 1, none⟩ = some (.int .i64 g.high) := (blk_cell BKb.out 1).trans rfl
    have hf92 := blk_frozen BKb.out 1
    have hc93 : w9.cell? ⟨b, 2, none⟩ = some (.int .i64 g.low) := (blk_cell BKb.out 2).trans rfl
    have hf93 := blk_frozen BKb.out 2
    have hc94 : w9.cell? ⟨b, 3, none⟩ = some (.int .i64 g.rise) := (blk_cell BKb.out 3).trans rfl
    have hf94 := blk_frozen BKb.out 3
    have hc95 : w9.cell? ⟨b, 4, none⟩ = some (.int .i64 g.fall) := (blk_cell BKb.out 4).trans rfl
    have hf95 := blk_frozen BKb.out 4
    have hc96 : w9.cell? ⟨b, 5, none⟩ = some (.int .i64 g.lead) := (blk_cell BKb.out 5).trans rfl
    have hf96 := blk_frozen BKb.out 5
    have hc97 : w9.cell? ⟨b, 6, none⟩ = some (.int .i64 g.longest) := (blk_cell BKb.out 6).trans rfl
    have hf97 := blk_frozen BKb.out 6
    have hc98 : w9.cell? ⟨b, 7, none⟩ = some (.bool true) := (blk_cell BKb.out 7).trans rfl
    have hf98 := blk_frozen BKb.out 7
    have hc99 : w9.cell? ⟨b, 8, none⟩ = some (.int .i64 s.state) := (blk_cell BKb.out 8).trans rfl
    have hf99 := blk_frozen BKb.out 8
    have hc100 : w9.cell? ⟨b, 9, none⟩ = some (.slice Ab nb cb) := (blk_cell BKb.out 9).trans rfl
    have hf100 := blk_frozen BKb.out 9
    have hc101 : w9.cell? ⟨b, 10, none⟩ = some (.int .i64 (s.blocks + 1)) := (blk_cell BKb.out 10).trans rfl
    have hf101 := blk_frozen BKb.out 10
    have hc102 : w9.cell? ⟨b, 11, none⟩ = some (.int .i64 smp) := (blk_cell BKb.out 11).trans rfl
    have hf102 := blk_frozen BKb.out 11
    have hc103 : w9.cell? ⟨b, 12, none⟩ = some (.int .i64 r) := (blk_cell BKb.out 12).trans rfl
    have hf103 := blk_frozen BKb.out 12
    have hc104 : w9.cell? ⟨b, 13, none⟩ = some (.int .i64 s.start) := (blk_cell BKb.out 13).trans rfl
    have hf104 := blk_frozen BKb.out 13
    have hc105 : w9.cell? ⟨b, 14, none⟩ = some (.int .i64 s.free) := (blk_cell BKb.out 14).trans rfl
    have hf105 := blk_frozen BKb.out 14
    have hc106 : w9.cell? ⟨g4, 0, none⟩ = some (.int .i64 0) := (blk_cell BKg4.out 0).trans rfl
    have hf106 := blk_frozen BKg4.out 0
    have hc107 : w9.cell? ⟨g4, 1, none⟩ = some (.int .i64 0) := (blk_cell BKg4.out 1).trans rfl
    have hf107 := blk_frozen BKg4.out 1
    have hc108 : w9.cell? ⟨g6, 0, none⟩ = some (.int .i64 g.block) := (blk_cell BKg6.out 0).trans rfl
    have hf108 := blk_frozen BKg6.out 0
    have hc109 : w9.cell? ⟨g6, 1, none⟩ = some (.int .i64 g.high) := (blk_cell BKg6.out 1).trans rfl
    have hf109 := blk_frozen BKg6.out 1
    have hc110 : w9.cell? ⟨g6, 2, none⟩ = some (.int .i64 g.low) := (blk_cell BKg6.out 2).trans rfl
    have hf110 := blk_frozen BKg6.out 2
    have hc111 : w9.cell? ⟨g6, 3, none⟩ = some (.int .i64 g.rise) := (blk_cell BKg6.out 3).trans rfl
    have hf111 := blk_frozen BKg6.out 3
    have hc112 : w9.cell? ⟨g6, 4, none⟩ = some (.int .i64 g.fall) := (blk_cell BKg6.out 4).trans rfl
    have hf112 := blk_frozen BKg6.out 4
    have hc113 : w9.cell? ⟨g6, 5, none⟩ = some (.int .i64 g.lead) := (blk_cell BKg6.out 5).trans rfl
    have hf113 := blk_frozen BKg6.out 5
    have hc114 : w9.cell? ⟨g6, 6, none⟩ = some (.int .i64 g.longest) := (blk_cell BKg6.out 6).trans rfl
    have hf114 := blk_frozen BKg6.out 6
    go_quiet (fail)
    have z0_ := Aside0.mk (show Below w0.heap.size w0 (w9.drewN nq) from (by repeat (first | (with_reducible first | exact HB.out | apply below_alloc | apply pw_below_drewN | apply below_drew1 | refine below_set ?_ GEb.out | refine below_set ?_ GEg4.out | refine below_set ?_ GEg6.out) | exact HB.out)))
    have z1_ := Aside0.mk (show KeepBut w (w9.drewN nq) b none from (by repeat (first | exact HK.out | apply KeepBut.set_ | apply keep_drewN | apply keep_drew | apply keep_alloc | refine keep_far ?_ GWg4.out _ | refine keep_far ?_ GWg6.out _)))
    have z2_ := Aside0.mk (show (w9.drewN nq).heap[b]? = some (.cells #[.int .i64 g.block, .int .i64 g.high, .int .i64 g.low, .int .i64 g.rise, .int .i64 g.fall, .int .i64 g.lead, .int .i64 g.longest, .bool true, .int .i64 s.state, .slice Ab nb cb, .int .i64 (s.blocks + 1), .int .i64 smp, .int .i64 r, .int .i64 s.start, .int .i64 s.free] 71 (0, 0)) from (by (with_reducible repeat (first | refine blk_drewN ?_ _ | refine blk_drew ?_ | refine blk_alloc ?_ _)); exact BKb.out))
    have z3_ := Aside0.mk (show (w9.drewN nq).heap[g4]? = some (.cells #[.int .i64 0, .int .i64 0] 65 (0, 0)) from (by (with_reducible repeat (first | refine blk_drewN ?_ _ | refine blk_drew ?_ | refine blk_alloc ?_ _)); exact BKg4.out))
    have z4_ := Aside0.mk (show (w9.drewN nq).heap[g6]? = some (.cells #[.int .i64 g.block, .int .i64 g.high, .int .i64 g.low, .int .i64 g.rise, .int .i64 g.fall, .int .i64 g.lead, .int .i64 g.longest] 41 (0, 0)) from (by (with_reducible repeat (first | refine blk_drewN ?_ _ | refine blk_drew ?_ | refine blk_alloc ?_ _)); exact BKg6.out))
    clear HB HK BKb BKg4 BKg6
    have HB := z0_
    have HK := z1_
    have BKb := z2_
    have BKg4 := z3_
    have BKg6 := z4_
    clear z0_ z1_ z2_ z3_ z4_
    generalize w9.drewN nq = w10 at HB HK BKb BKg4 BKg6 ⊢
    have hc115 : w10.cell? ⟨b, 0, none⟩ = some (.int .i64 g.block) := (blk_cell BKb.out 0).trans rfl
    have hf115 := blk_frozen BKb.out 0
    have hc116 : w10.cell? ⟨b, 1, none⟩ = some (.int .i64 g.high) := (blk_cell BKb.out 1).trans rfl
    have hf116 := blk_frozen BKb.out 1
    have hc117 : w10.cell? ⟨b, 2, none⟩ = some (.int .i64 g.low) := (blk_cell BKb.out 2).trans rfl
    have hf117 := blk_frozen BKb.out 2
    have hc118 : w10.cell? ⟨b, 3, none⟩ = some (.int .i64 g.rise) := (blk_cell BKb.out 3).trans rfl
    have hf118 := blk_frozen BKb.out 3
    have hc119 : w10.cell? ⟨b, 4, none⟩ = some (.int .i64 g.fall) := (blk_cell BKb.out 4).trans rfl
    have hf119 := blk_frozen BKb.out 4
    have hc120 : w10.cell? ⟨b, 5, none⟩ = some (.int .i64 g.lead) := (blk_cell BKb.out 5).trans rfl
    have hf120 := blk_frozen BKb.out 5
    have hc121 : w10.cell? ⟨b, 6, none⟩ = some (.int .i64 g.longest) := (blk_cell BKb.out 6).trans rfl
    have hf121 := blk_frozen BKb.out 6
    have hc122 : w10.cell? ⟨b, 7, none⟩ = some (.bool true) := (blk_cell BKb.out 7).trans rfl
    have hf122 := blk_frozen BKb.out 7
    have hc123 : w10.cell? ⟨b, 8, none⟩ = some (.int .i64 s.state) := (blk_cell BKb.out 8).trans rfl
    have hf123 := blk_frozen BKb.out 8
    have hc124 : w10.cell? ⟨b, 9, none⟩ = some (.slice Ab nb cb) := (blk_cell BKb.out 9).trans rfl
    have hf124 := blk_frozen BKb.out 9
    have hc125 : w10.cell? ⟨b, 10, none⟩ = some (.int .i64 (s.blocks + 1)) := (blk_cell BKb.out 10).trans rfl
    have hf125 := blk_frozen BKb.out 10
    have hc126 : w10.cell? ⟨b, 11, none⟩ = some (.int .i64 smp) := (blk_cell BKb.out 11).trans rfl
    have hf126 := blk_frozen BKb.out 11
    have hc127 : w10.cell? ⟨b, 12, none⟩ = some (.int .i64 r) := (blk_cell BKb.out 12).trans rfl
    have hf127 := blk_frozen BKb.out 12
    have hc128 : w10.cell? ⟨b, 13, none⟩ = some (.int .i64 s.start) := (blk_cell BKb.out 13).trans rfl
    have hf128 := blk_frozen BKb.out 13
    have hc129 : w10.cell? ⟨b, 14, none⟩ = some (.int .i64 s.free) := (blk_cell BKb.out 14).trans rfl
    have hf129 := blk_frozen BKb.out 14
    have hc130 : w10.cell? ⟨g4, 0, none⟩ = some (.int .i64 0) := (blk_cell BKg4.out 0).trans rfl
    have hf130 := blk_frozen BKg4.out 0
    have hc131 : w10.cell? ⟨g4, 1, none⟩ = some (.int .i64 0) := (blk_cell BKg4.out 1).trans rfl
    have hf131 := blk_frozen BKg4.out 1
    have hc132 : w10.cell? ⟨g6, 0, none⟩ = some (.int .i64 g.block) := (blk_cell BKg6.out 0).trans rfl
    have hf132 := blk_frozen BKg6.out 0
    have hc133 : w10.cell? ⟨g6, 1, none⟩ = some (.int .i64 g.high) := (blk_cell BKg6.out 1).trans rfl
    have hf133 := blk_frozen BKg6.out 1
    have hc134 : w10.cell? ⟨g6, 2, none⟩ = some (.int .i64 g.low) := (blk_cell BKg6.out 2).trans rfl
    have hf134 := blk_frozen BKg6.out 2
    have hc135 : w10.cell? ⟨g6, 3, none⟩ = some (.int .i64 g.rise) := (blk_cell BKg6.out 3).trans rfl
    have hf135 := blk_frozen BKg6.out 3
    have hc136 : w10.cell? ⟨g6, 4, none⟩ = some (.int .i64 g.fall) := (blk_cell BKg6.out 4).trans rfl
    have hf136 := blk_frozen BKg6.out 4
    have hc137 : w10.cell? ⟨g6, 5, none⟩ = some (.int .i64 g.lead) := (blk_cell BKg6.out 5).trans rfl
    have hf137 := blk_frozen BKg6.out 5
    have hc138 : w10.cell? ⟨g6, 6, none⟩ = some (.int .i64 g.longest) := (blk_cell BKg6.out 6).trans rfl
    have hf138 := blk_frozen BKg6.out 6
    by_cases hr : r = g.rise
    · have HE := Aside0.mk hr
      have q1 : (r == g.rise) = true := beq_iff_eq.2 hr
      clear hr
      go_wp2_with fail
      have z0_ := Aside0.mk (show Below w0.heap.size w0 ((w10.setCell ⟨b, 8, none⟩ (.int .i64 1)).setCell ⟨b, 12, none⟩ (.int .i64 0)) from (by repeat (first | (with_reducible first | exact HB.out | apply below_alloc | apply pw_below_drewN | apply below_drew1 | refine below_set ?_ GEb.out | refine below_set ?_ GEg4.out | refine below_set ?_ GEg6.out) | exact HB.out)))
      have z1_ := Aside0.mk (show KeepBut w ((w10.setCell ⟨b, 8, none⟩ (.int .i64 1)).setCell ⟨b, 12, none⟩ (.int .i64 0)) b none from (by repeat (first | exact HK.out | apply KeepBut.set_ | apply keep_drewN | apply keep_drew | apply keep_alloc | refine keep_far ?_ GWg4.out _ | refine keep_far ?_ GWg6.out _)))
      have z2_ := Aside0.mk (show ((w10.setCell ⟨b, 8, none⟩ (.int .i64 1)).setCell ⟨b, 12, none⟩ (.int .i64 0)).heap[b]? = some (.cells #[.int .i64 g.block, .int .i64 g.high, .int .i64 g.low, .int .i64 g.rise, .int .i64 g.fall, .int .i64 g.lead, .int .i64 g.longest, .bool true, .int .i64 1, .slice Ab nb cb, .int .i64 (s.blocks + 1), .int .i64 smp, .int .i64 0, .int .i64 s.start, .int .i64 s.free] 71 (0, 0)) from (by (with_reducible repeat (first | refine blk_drewN ?_ _ | refine blk_drew ?_ | refine blk_alloc ?_ _)); refine blk_put (cs := #[.int .i64 g.block, .int .i64 g.high, .int .i64 g.low, .int .i64 g.rise, .int .i64 g.fall, .int .i64 g.lead, .int .i64 g.longest, .bool true, .int .i64 1, .slice Ab nb cb, .int .i64 (s.blocks + 1), .int .i64 smp, .int .i64 r, .int .i64 s.start, .int .i64 s.free]) ?_ 12 _ rfl; (with_reducible repeat (first | refine blk_drewN ?_ _ | refine blk_drew ?_ | refine blk_alloc ?_ _)); refine blk_put (cs := #[.int .i64 g.block, .int .i64 g.high, .int .i64 g.low, .int .i64 g.rise, .int .i64 g.fall, .int .i64 g.lead, .int .i64 g.longest, .bool true, .int .i64 s.state, .slice Ab nb cb, .int .i64 (s.blocks + 1), .int .i64 smp, .int .i64 r, .int .i64 s.start, .int .i64 s.free]) ?_ 8 _ rfl; (with_reducible repeat (first | refine blk_drewN ?_ _ | refine blk_drew ?_ | refine blk_alloc ?_ _)); exact BKb.out))
      have z3_ := Aside0.mk (show ((w10.setCell ⟨b, 8, none⟩ (.int .i64 1)).setCell ⟨b, 12, none⟩ (.int .i64 0)).heap[g4]? = some (.cells #[.int .i64 0, .int .i64 0] 65 (0, 0)) from (by (with_reducible repeat (first | refine blk_drewN ?_ _ | refine blk_drew ?_ | refine blk_alloc ?_ _)); refine blk_far ?_ NBg4_b.out _; (with_reducible repeat (first | refine blk_drewN ?_ _ | refine blk_drew ?_ | refine blk_alloc ?_ _)); refine blk_far ?_ NBg4_b.out _; (with_reducible repeat (first | refine blk_drewN ?_ _ | refine blk_drew ?_ | refine blk_alloc ?_ _)); exact BKg4.out))
      have z4_ := Aside0.mk (show ((w10.setCell ⟨b, 8, none⟩ (.int .i64 1)).setCell ⟨b, 12, none⟩ (.int .i64 0)).heap[g6]? = some (.cells #[.int .i64 g.block, .int .i64 g.high, .int .i64 g.low, .int .i64 g.rise, .int .i64 g.fall, .int .i64 g.lead, .int .i64 g.longest] 41 (0, 0)) from (by (with_reducible repeat (first | refine blk_drewN ?_ _ | refine blk_drew ?_ | refine blk_alloc ?_ _)); refine blk_far ?_ NBg6_b.out _; (with_reducible repeat (first | refine blk_drewN ?_ _ | refine blk_drew ?_ | refine blk_alloc ?_ _)); refine blk_far ?_ NBg6_b.out _; (with_reducible repeat (first | refine blk_drewN ?_ _ | refine blk_drew ?_ | refine blk_alloc ?_ _)); exact BKg6.out))
      clear HB HK BKb BKg4 BKg6
      have HB := z0_
      have HK := z1_
      have BKb := z2_
      have BKg4 := z3_
      have BKg6 := z4_
      clear z0_ z1_ z2_ z3_ z4_
      generalize (w10.setCell ⟨b, 8, none⟩ (.int .i64 1)).setCell ⟨b, 12, none⟩ (.int .i64 0) = w11 at HB HK BKb BKg4 BKg6 ⊢
      have hc139 : w11.cell? ⟨b, 0, none⟩ = some (.int .i64 g.block) := (blk_cell BKb.out 0).trans rfl
      have hf139 := blk_frozen BKb.out 0
      have hc140 : w11.cell? ⟨b, 1, none⟩ = some (.int .i64 g.high) := (blk_cell BKb.out 1).trans rfl
      have hf140 := blk_frozen BKb.out 1
      have hc141 : w11.cell? ⟨b, 2, none⟩ = some (.int .i64 g.low) := (blk_cell BKb.out 2).trans rfl
      have hf141 := blk_frozen BKb.out 2
      have hc142 : w11.cell? ⟨b, 3, none⟩ = some (.int .i64 g.rise) := (blk_cell BKb.out 3).trans rfl
      have hf142 := blk_frozen BKb.out 3
      have hc143 : w11.cell? ⟨b, 4, none⟩ = some (.int .i64 g.fall) := (blk_cell BKb.out 4).trans rfl
      have hf143 := blk_frozen BKb.out 4
      have hc144 : w11.cell? ⟨b, 5, none⟩ = some (.int .i64 g.lead) := (blk_cell BKb.out 5).trans rfl
      have hf144 := blk_frozen BKb.out 5
      have hc145 : w11.cell? ⟨b, 6, none⟩ = some (.int .i64 g.longest) := (blk_cell BKb.out 6).trans rfl
      have hf145 := blk_frozen BKb.out 6
      have hc146 : w11.cell? ⟨b, 7, none⟩ = some (.bool true) := (blk_cell BKb.out 7).trans rfl
      have hf146 := blk_frozen BKb.out 7
      have hc147 : w11.cell? ⟨b, 8, none⟩ = some (.int .i64 1) := (blk_cell BKb.out 8).trans rfl
      have hf147 := blk_frozen BKb.out 8
      have hc148 : w11.cell? ⟨b, 9, none⟩ = some (.slice Ab nb cb) := (blk_cell BKb.out 9).trans rfl
      have hf148 := blk_frozen BKb.out 9
      have hc149 : w11.cell? ⟨b, 10, none⟩ = some (.int .i64 (s.blocks + 1)) := (blk_cell BKb.out 10).trans rfl
      have hf149 := blk_frozen BKb.out 10
      have hc150 : w11.cell? ⟨b, 11, none⟩ = some (.int .i64 smp) := (blk_cell BKb.out 11).trans rfl
      have hf150 := blk_frozen BKb.out 11
      have hc151 : w11.cell? ⟨b, 12, none⟩ = some (.int .i64 0) := (blk_cell BKb.out 12).trans rfl
      have hf151 := blk_frozen BKb.out 12
      have hc152 : w11.cell? ⟨b, 13, none⟩ = some (.int .i64 s.start) := (blk_cell BKb.out 13).trans rfl
      have hf152 := blk_frozen BKb.out 13
      have hc153 : w11.cell? ⟨b, 14, none⟩ = some (.int .i64 s.free) := (blk_cell BKb.out 14).trans rfl
      have hf153 := blk_frozen BKb.out 14
      have hc154 : w11.cell? ⟨g4, 0, none⟩ = some (.int .i64 0) := (blk_cell BKg4.out 0).trans rfl
      have hf154 := blk_frozen BKg4.out 0
      have hc155 : w11.cell? ⟨g4, 1, none⟩ = some (.int .i64 0) := (blk_cell BKg4.out 1).trans rfl
      have hf155 := blk_frozen BKg4.out 1
      have hc156 : w11.cell? ⟨g6, 0, none⟩ = some (.int .i64 g.block) := (blk_cell BKg6.out 0).trans rfl
      have hf156 := blk_frozen BKg6.out 0
      have hc157 : w11.cell? ⟨g6, 1, none⟩ = some (.int .i64 g.high) := (blk_cell BKg6.out 1).trans rfl
      have hf157 := blk_frozen BKg6.out 1
      have hc158 : w11.cell? ⟨g6, 2, none⟩ = some (.int .i64 g.low) := (blk_cell BKg6.out 2).trans rfl
      have hf158 := blk_frozen BKg6.out 2
      have hc159 : w11.cell? ⟨g6, 3, none⟩ = some (.int .i64 g.rise) := (blk_cell BKg6.out 3).trans rfl
      have hf159 := blk_frozen BKg6.out 3
      have hc160 : w11.cell? ⟨g6, 4, none⟩ = some (.int .i64 g.fall) := (blk_cell BKg6.out 4).trans rfl
      have hf160 := blk_frozen BKg6.out 4
      have hc161 : w11.cell? ⟨g6, 5, none⟩ = some (.int .i64 g.lead) := (blk_cell BKg6.out 5).trans rfl
      have hf161 := blk_frozen BKg6.out 5
      have hc162 : w11.cell? ⟨g6, 6, none⟩ = some (.int .i64 g.longest) := (blk_cell BKg6.out 6).trans rfl
      have hf162 := blk_frozen BKg6.out 6
      have pa : IntKind.i64.wrap (s.blocks - g.rise) = s.blocks - g.rise := IntWalk.i64_in _ (by omega)
      have pb : IntKind.i64.wrap (s.blocks - g.rise + 1) = s.blocks - g.rise + 1 := IntWalk.i64_in _ (by omega)
      have pc : IntKind.i64.wrap (s.blocks - g.rise + 1 - g.lead) = s.blocks - g.rise + 1 - g.lead := IntWalk.i64_in _ (by omega)
      have BKb := Aside0.mk (blk_drew BKb.out)
      have BKg4 := Aside0.mk (blk_drew BKg4.out)
      have BKg6 := Aside0.mk (blk_drew BKg6.out)
      have HB := Aside0.mk (below_drew1 HB.out)
      have HK := Aside0.mk (keep_drew HK.out)
      have hp0 : w11.drew.cell? ⟨g6, 3, none⟩ = some (.int .i64 g.rise) := (blk_cell BKg6.out 3).trans rfl
      have hp1 : w11.drew.cell? ⟨g6, 5, none⟩ = some (.int .i64 g.lead) := (blk_cell BKg6.out 5).trans rfl
      have hp2 : w11.drew.cell? ⟨b, 14, none⟩ = some (.int .i64 s.free) := (blk_cell BKb.out 14).trans rfl
      by_cases hm : s.blocks - g.rise + 1 - g.lead < s.free
      · have HM := Aside0.mk hm
        refine start_ (n := 17) (S := fun w' => w'.cell? ⟨g6, 3, none⟩ = some (.int .i64 g.rise) ∧ w'.cell? ⟨g6, 5, none⟩ = some (.int .i64 g.lead) ∧ w'.cell? ⟨b, 14, none⟩ = some (.int .i64 s.free)) (ds := [16]) #[false, false, false, false, false, false, false, false, false, false, false, false, false, false, false, false, false] (by kernel_rfl) rfl rfl ⟨hp0, hp1, hp2⟩ (fun hHeld => ?_)
        generalize w11.drew = w12 at BKb BKg4 BKg6 HB HK hHeld ⊢
        have hc163 : w12.cell? ⟨b, 0, none⟩ = some (.int .i64 g.block) := (blk_cell BKb.out 0).trans rfl
        have hf163 := blk_frozen BKb.out 0
        have hc164 : w12.cell? ⟨b, 1, none⟩ = some (.int .i64 g.high) := (blk_cell BKb.out 1).trans rfl
        have hf164 := blk_frozen BKb.out 1
        have hc165 : w12.cell? ⟨b, 2, none⟩ = some (.int .i64 g.low) := (blk_cell BKb.out 2).trans rfl
        have hf165 := blk_frozen BKb.out 2
        have hc166 : w12.cell? ⟨b, 3, none⟩ = some (.int .i64 g.rise) := (blk_cell BKb.out 3).trans rfl
        have hf166 := blk_frozen BKb.out 3
        have hc167 : w12.cell? ⟨b, 4, none⟩ = some (.int .i64 g.fall) := (blk_cell BKb.out 4).trans rfl
        have hf167 := blk_frozen BKb.out 4
        have hc168 : w12.cell? ⟨b, 5, none⟩ = some (.int .i64 g.lead) := (blk_cell BKb.out 5).trans rfl
        have hf168 := blk_frozen BKb.out 5
        have hc169 : w12.cell? ⟨b, 6, none⟩ = some (.int .i64 g.longest) := (blk_cell BKb.out 6).trans rfl
        have hf169 := blk_frozen BKb.out 6
        have hc170 : w12.cell? ⟨b, 7, none⟩ = some (.bool true) := (blk_cell BKb.out 7).trans rfl
        have hf170 := blk_frozen BKb.out 7
        have hc171 : w12.cell? ⟨b, 8, none⟩ = some (.int .i64 1) := (blk_cell BKb.out 8).trans rfl
        have hf171 := blk_frozen BKb.out 8
        have hc172 : w12.cell? ⟨b, 9, none⟩ = some (.slice Ab nb cb) := (blk_cell BKb.out 9).trans rfl
        have hf172 := blk_frozen BKb.out 9
        have hc173 : w12.cell? ⟨b, 10, none⟩ = some (.int .i64 (s.blocks + 1)) := (blk_cell BKb.out 10).trans rfl
        have hf173 := blk_frozen BKb.out 10
        have hc174 : w12.cell? ⟨b, 11, none⟩ = some (.int .i64 smp) := (blk_cell BKb.out 11).trans rfl
        have hf174 := blk_frozen BKb.out 11
        have hc175 : w12.cell? ⟨b, 12, none⟩ = some (.int .i64 0) := (blk_cell BKb.out 12).trans rfl
        have hf175 := blk_frozen BKb.out 12
        have hc176 : w12.cell? ⟨b, 13, none⟩ = some (.int .i64 s.start) := (blk_cell BKb.out 13).trans rfl
        have hf176 := blk_frozen BKb.out 13
        have hc177 : w12.cell? ⟨b, 14, none⟩ = some (.int .i64 s.free) := (blk_cell BKb.out 14).trans rfl
        have hf177 := blk_frozen BKb.out 14
        have hc178 : w12.cell? ⟨g4, 0, none⟩ = some (.int .i64 0) := (blk_cell BKg4.out 0).trans rfl
        have hf178 := blk_frozen BKg4.out 0
        have hc179 : w12.cell? ⟨g4, 1, none⟩ = some (.int .i64 0) := (blk_cell BKg4.out 1).trans rfl
        have hf179 := blk_frozen BKg4.out 1
        refine pure_ (i := 0) (N := some 69) (v := ?_) (a' := ?_) #[true, false, false, false, false, false, false, false, false, false, false, false, false, false, false, false, false] rfl rfl (by kernel_rfl) (fun _ _ _ h => h) (Or.inl ⟨by rfl, ?_⟩) ?_ ?_
        rotate_left
        · intro w'
          go_simp
          with_reducible rfl
        rotate_left
        · simp only [Act.put, List.setIfInBounds_toArray, List.set_cons_zero, List.set_cons_succ, i64_w, i32_w]
          rfl
        refine pure_ (i := 1) (N := some 70) (v := ?_) (a' := ?_) #[true, true, false, false, false, false, false, false, false, false, false, false, false, false, false, false, false] rfl rfl (by kernel_rfl) (fun _ _ _ h => h) (Or.inl ⟨by rfl, ?_⟩) ?_ ?_
        rotate_left
        · intro w'
          go_simp
          with_reducible rfl
        rotate_left
        · simp only [Act.put, List.setIfInBounds_toArray, List.set_cons_zero, List.set_cons_succ, i64_w, i32_w]
          rfl
        refine pure_ (i := 2) (N := some 71) (v := ?_) (a' := ?_) #[true, true, true, false, false, false, false, false, false, false, false, false, false, false, false, false, false] rfl rfl (by kernel_rfl) (fun _ _ _ h => h) (Or.inl ⟨by rfl, ?_⟩) ?_ ?_
        rotate_left
        · intro w'
          go_simp
          with_reducible rfl
        rotate_left
        · simp only [Act.put, List.setIfInBounds_toArray, List.set_cons_zero, List.set_cons_succ, i64_w, i32_w]
          rfl
        refine pure_ (i := 6) (N := some 75) (v := ?_) (a' := ?_) #[true, true, true, false, false, false, true, false, false, false, false, false, false, false, false, false, false] rfl rfl (by kernel_rfl) (fun _ _ _ h => h) (Or.inl ⟨by rfl, ?_⟩) ?_ ?_
        rotate_left
        · intro w'
          go_simp
          with_reducible rfl
        rotate_left
        · simp only [Act.put, List.setIfInBounds_toArray, List.set_cons_zero, List.set_cons_succ, i64_w, i32_w]
          rfl
        refine pure_ (i := 9) (N := some 78) (v := ?_) (a' := ?_) #[true, true, true, false, false, false, true, false, false, true, false, false, false, false, false, false, false] rfl rfl (by kernel_rfl) (fun _ _ _ h => h) (Or.inl ⟨by rfl, ?_⟩) ?_ ?_
        rotate_left
        · intro w'
          go_simp
          with_reducible rfl
        rotate_left
        · simp only [Act.put, List.setIfInBounds_toArray, List.set_cons_zero, List.set_cons_succ, i64_w, i32_w]
          rfl
        refine pure_ (i := 10) (N := some 79) (v := ?_) (a' := ?_) #[true, true, true, false, false, false, true, false, false, true, true, false, false, false, false, false, false] rfl rfl (by kernel_rfl) (fun _ _ _ h => h) (Or.inl ⟨by rfl, ?_⟩) ?_ ?_
        rotate_left
        · intro w'
          go_simp
          with_reducible rfl
        rotate_left
        · simp only [Act.put, List.setIfInBounds_toArray, List.set_cons_zero, List.set_cons_succ, i64_w, i32_w]
          rfl
        refine pure_ (i := 11) (N := some 80) (v := ?_) (a' := ?_) #[true, true, true, false, false, false, true, false, false, true, true, true, false, false, false, false, false] rfl rfl (by kernel_rfl) (fun _ _ _ h => h) (Or.inl ⟨by rfl, ?_⟩) ?_ ?_
        rotate_left
        · intro w'
          go_simp
          with_reducible rfl
        rotate_left
        · simp only [Act.put, List.setIfInBounds_toArray, List.set_cons_zero, List.set_cons_succ, i64_w, i32_w]
          rfl
        refine take_ (i := 3) (N := some 72) (v := ?_) (a' := ?_) #[true, true, true, true, false, false, true, false, false, true, true, true, false, false, false, false, false] rfl rfl (by kernel_rfl) (fun _ _ _ h => h) (Or.inl ⟨by rfl, ?_⟩) hHeld ?_ ?_
        rotate_left
        · rintro w' ⟨s0, s1, s2⟩
          go_simp
          with_reducible rfl
        rotate_left
        · simp only [Act.put, List.setIfInBounds_toArray, List.set_cons_zero, List.set_cons_succ, i64_w, i32_w]
          rfl
        refine pure_ (i := 4) (N := some 73) (v := ?_) (a' := ?_) #[true, true, true, true, true, false, true, false, false, true, true, true, false, false, false, false, false] rfl rfl (by kernel_rfl) (fun _ _ _ h => h) (Or.inl ⟨by rfl, ?_⟩) ?_ ?_
        rotate_left
        · intro w'
          go_simp
          with_reducible rfl
        rotate_left
        · simp only [Act.put, List.setIfInBounds_toArray, List.set_cons_zero, List.set_cons_succ, i64_w, i32_w]
          rfl
        refine pure_ (i := 5) (N := some 74) (v := ?_) (a' := ?_) #[true, true, true, true, true, true, true, false, false, true, true, true, false, false, false, false, false] rfl rfl (by kernel_rfl) (fun _ _ _ h => h) (Or.inl ⟨by rfl, ?_⟩) ?_ ?_
        rotate_left
        · intro w'
          go_simp
          with_reducible rfl
        rotate_left
        · simp only [Act.put, List.setIfInBounds_toArray, List.set_cons_zero, List.set_cons_succ, i64_w, i32_w]
          rfl
        refine take_ (i := 7) (N := some 76) (v := ?_) (a' := ?_) #[true, true, true, true, true, true, true, true, false, true, true, true, false, false, false, false, false] rfl rfl (by kernel_rfl) (fun _ _ _ h => h) (Or.inl ⟨by rfl, ?_⟩) hHeld ?_ ?_
        rotate_left
        · rintro w' ⟨s0, s1, s2⟩
          go_simp
          with_reducible rfl
        rotate_left
        · simp only [Act.put, List.setIfInBounds_toArray, List.set_cons_zero, List.set_cons_succ, i64_w, i32_w]
          rfl
        refine pure_ (i := 8) (N := some 77) (v := ?_) (a' := ?_) #[true, true, true, true, true, true, true, true, true, true, true, true, false, false, false, false, false] rfl rfl (by kernel_rfl) (fun _ _ _ h => h) (Or.inl ⟨by rfl, ?_⟩) ?_ ?_
        rotate_left
        · intro w'
          go_simp
          with_reducible rfl
        rotate_left
        · simp only [Act.put, List.setIfInBounds_toArray, List.set_cons_zero, List.set_cons_succ, i64_w, i32_w]
          rfl
        refine take_ (i := 12) (N := some 81) (v := ?_) (a' := ?_) #[true, true, true, true, true, true, true, true, true, true, true, true, true, false, false, false, false] rfl rfl (by kernel_rfl) (fun _ _ _ h => h) (Or.inl ⟨by rfl, ?_⟩) hHeld ?_ ?_
        rotate_left
        · rintro w' ⟨s0, s1, s2⟩
          go_simp
          with_reducible rfl
        rotate_left
        · simp only [Act.put, List.setIfInBounds_toArray, List.set_cons_zero, List.set_cons_succ, i64_w, i32_w]
          rfl
        refine pure_ (i := 13) (N := some 82) (v := ?_) (a' := ?_) #[true, true, true, true, true, true, true, true, true, true, true, true, true, true, false, false, false] rfl rfl (by kernel_rfl) (fun _ _ _ h => h) (Or.inl ⟨by rfl, ?_⟩) ?_ ?_
        rotate_left
        · intro w'
          go_simp
          with_reducible rfl
        rotate_left
        · simp only [Act.put, List.setIfInBounds_toArray, List.set_cons_zero, List.set_cons_succ, i64_w, i32_w]
          rfl
        refine pure_ (i := 14) (N := some 83) (v := ?_) (a' := ?_) #[true, true, true, true, true, true, true, true, true, true, true, true, true, true, true, false, false] rfl rfl (by kernel_rfl) (fun _ _ _ h => h) (Or.inl ⟨by rfl, ?_⟩) ?_ ?_
        rotate_left
        · intro w'
          go_simp
          with_reducible rfl
        rotate_left
        · simp only [Act.put, List.setIfInBounds_toArray, List.set_cons_zero, List.set_cons_succ, i64_w, i32_w]
          rfl
        refine pure_ (i := 15) (N := some 84) (v := ?_) (a' := ?_) #[true, true, true, true, true, true, true, true, true, true, true, true, true, true, true, true, false] rfl rfl (by kernel_rfl) (fun _ _ _ h => h) (Or.inl ⟨by rfl, ?_⟩) ?_ ?_
        rotate_left
        · intro w'
          go_simp
          with_reducible rfl
        rotate_left
        · simp only [Act.put, List.setIfInBounds_toArray, List.set_cons_zero, List.set_cons_succ, i64_w, i32_w]
          rfl
        refine last_ (i := 16) (N := none) #[true, true, true, true, true, true, true, true, true, true, true, true, true, true, true, true, true] rfl rfl (by kernel_rfl) (by decide) (fun K hK => ?_)
        refine skip_ (w1 := ?_) (by rfl) rfl ?_ ?_
        rotate_left
        · go_simp
          rfl
        refine hK.out _ _ ?_
        clear hK K
        refine done_ (by kernel_rfl) ?_

        go_wp2
        have E : proc g s (sumsq l0) = ({ state := 1, blocks := s.blocks + 1, run := 0, start := s.free, free := s.free }, none) := by
          unfold proc
          rw [if_pos HS.out, ← HL.out, ← HR.out, if_pos HE.out, Int.max_eq_right (by have := HM.out; omega)]
        refine bodyPost_ret (results_ct rfl _ _ g4 65 #[.int .i64 0, .int .i64 0] (0, 0) _ rfl (by (with_reducible repeat (first | refine blk_drewN ?_ _ | refine blk_drew ?_ | refine blk_alloc ?_ _)); refine blk_put (cs := #[.int .i64 0, .int .i64 0]) ?_ 1 _ rfl; (with_reducible repeat (first | refine blk_drewN ?_ _ | refine blk_drew ?_ | refine blk_alloc ?_ _)); refine blk_put (cs := #[.int .i64 0, .int .i64 0]) ?_ 0 _ rfl; (with_reducible repeat (first | refine blk_drewN ?_ _ | refine blk_drew ?_ | refine blk_alloc ?_ _)); refine blk_far ?_ NBg4_b.out _; (with_reducible repeat (first | refine blk_drewN ?_ _ | refine blk_drew ?_ | refine blk_alloc ?_ _)); exact BKg4.out) Try.underlying65 rfl (by kernel_rfl)) rfl ?_
        unfold ProcPost
        rw [E]
        refine ⟨rfl, ?_, ?_, ?_⟩
        · show _ = some (Obj.cells #[.int .i64 g.block, .int .i64 g.high, .int .i64 g.low, .int .i64 g.rise, .int .i64 g.fall, .int .i64 g.lead, .int .i64 g.longest, .bool true, .int .i64 1, .slice Ab nb cb, .int .i64 (s.blocks + 1), .int .i64 smp, .int .i64 0, .int .i64 (s.free), .int .i64 s.free] 71 (0, 0))
          exact (by (with_reducible repeat (first | refine blk_drewN ?_ _ | refine blk_drew ?_ | refine blk_alloc ?_ _)); refine blk_far ?_ NBb_g4.out _; (with_reducible repeat (first | refine blk_drewN ?_ _ | refine blk_drew ?_ | refine blk_alloc ?_ _)); refine blk_far ?_ NBb_g4.out _; (with_reducible repeat (first | refine blk_drewN ?_ _ | refine blk_drew ?_ | refine blk_alloc ?_ _)); refine blk_put (cs := #[.int .i64 g.block, .int .i64 g.high, .int .i64 g.low, .int .i64 g.rise, .int .i64 g.fall, .int .i64 g.lead, .int .i64 g.longest, .bool true, .int .i64 1, .slice Ab nb cb, .int .i64 (s.blocks + 1), .int .i64 smp, .int .i64 0, .int .i64 s.start, .int .i64 s.free]) ?_ 13 _ rfl; (with_reducible repeat (first | refine blk_drewN ?_ _ | refine blk_drew ?_ | refine blk_alloc ?_ _)); exact BKb.out)
        · exact (by repeat (first | (with_reducible first | exact HB.out | apply below_alloc | apply pw_below_drewN | apply below_drew1 | refine below_set ?_ GEb.out | refine below_set ?_ GEg4.out | refine below_set ?_ GEg6.out) | exact HB.out))
        · exact (by repeat (first | exact HK.out | apply KeepBut.set_ | apply keep_drewN | apply keep_drew | apply keep_alloc | refine keep_far ?_ GWg4.out _ | refine keep_far ?_ GWg6.out _))
      · have HM := Aside0.mk hm
        have hm2 : s.free ≤ s.blocks - g.rise + 1 - g.lead := by omega
        refine start_ (n := 17) (S := fun w' => w'.cell? ⟨g6, 3, none⟩ = some (.int .i64 g.rise) ∧ w'.cell? ⟨g6, 5, none⟩ = some (.int .i64 g.lead) ∧ w'.cell? ⟨b, 14, none⟩ = some (.int .i64 s.free)) (ds := [16]) #[false, false, false, false, false, false, false, false, false, false, false, false, false, false, false, false, false] (by kernel_rfl) rfl rfl ⟨hp0, hp1, hp2⟩ (fun hHeld => ?_)
        generalize w11.drew = w12 at BKb BKg4 BKg6 HB HK hHeld ⊢
        have hc163 : w12.cell? ⟨b, 0, none⟩ = some (.int .i64 g.block) := (blk_cell BKb.out 0).trans rfl
        have hf163 := blk_frozen BKb.out 0
        have hc164 : w12.cell? ⟨b, 1, none⟩ = some (.int .i64 g.high) := (blk_cell BKb.out 1).trans rfl
        have hf164 := blk_frozen BKb.out 1
        have hc165 : w12.cell? ⟨b, 2, none⟩ = some (.int .i64 g.low) := (blk_cell BKb.out 2).trans rfl
        have hf165 := blk_frozen BKb.out 2
        have hc166 : w12.cell? ⟨b, 3, none⟩ = some (.int .i64 g.rise) := (blk_cell BKb.out 3).trans rfl
        have hf166 := blk_frozen BKb.out 3
        have hc167 : w12.cell? ⟨b, 4, none⟩ = some (.int .i64 g.fall) := (blk_cell BKb.out 4).trans rfl
        have hf167 := blk_frozen BKb.out 4
        have hc168 : w12.cell? ⟨b, 5, none⟩ = some (.int .i64 g.lead) := (blk_cell BKb.out 5).trans rfl
        have hf168 := blk_frozen BKb.out 5
        have hc169 : w12.cell? ⟨b, 6, none⟩ = some (.int .i64 g.longest) := (blk_cell BKb.out 6).trans rfl
        have hf169 := blk_frozen BKb.out 6
        have hc170 : w12.cell? ⟨b, 7, none⟩ = some (.bool true) := (blk_cell BKb.out 7).trans rfl
        have hf170 := blk_frozen BKb.out 7
        have hc171 : w12.cell? ⟨b, 8, none⟩ = some (.int .i64 1) := (blk_cell BKb.out 8).trans rfl
        have hf171 := blk_frozen BKb.out 8
        have hc172 : w12.cell? ⟨b, 9, none⟩ = some (.slice Ab nb cb) := (blk_cell BKb.out 9).trans rfl
        have hf172 := blk_frozen BKb.out 9
        have hc173 : w12.cell? ⟨b, 10, none⟩ = some (.int .i64 (s.blocks + 1)) := (blk_cell BKb.out 10).trans rfl
        have hf173 := blk_frozen BKb.out 10
        have hc174 : w12.cell? ⟨b, 11, none⟩ = some (.int .i64 smp) := (blk_cell BKb.out 11).trans rfl
        have hf174 := blk_frozen BKb.out 11
        have hc175 : w12.cell? ⟨b, 12, none⟩ = some (.int .i64 0) := (blk_cell BKb.out 12).trans rfl
        have hf175 := blk_frozen BKb.out 12
        have hc176 : w12.cell? ⟨b, 13, none⟩ = some (.int .i64 s.start) := (blk_cell BKb.out 13).trans rfl
        have hf176 := blk_frozen BKb.out 13
        have hc177 : w12.cell? ⟨b, 14, none⟩ = some (.int .i64 s.free) := (blk_cell BKb.out 14).trans rfl
        have hf177 := blk_frozen BKb.out 14
        have hc178 : w12.cell? ⟨g4, 0, none⟩ = some (.int .i64 0) := (blk_cell BKg4.out 0).trans rfl
        have hf178 := blk_frozen BKg4.out 0
        have hc179 : w12.cell? ⟨g4, 1, none⟩ = some (.int .i64 0) := (blk_cell BKg4.out 1).trans rfl
        have hf179 := blk_frozen BKg4.out 1
        refine pure_ (i := 0) (N := some 69) (v := ?_) (a' := ?_) #[true, false, false, false, false, false, false, false, false, false, false, false, false, false, false, false, false] rfl rfl (by kernel_rfl) (fun _ _ _ h => h) (Or.inl ⟨by rfl, ?_⟩) ?_ ?_
        rotate_left
        · intro w'
          go_simp
          with_reducible rfl
        rotate_left
        · simp only [Act.put, List.setIfInBounds_toArray, List.set_cons_zero, List.set_cons_succ, i64_w, i32_w]
          rfl
        refine pure_ (i := 1) (N := some 70) (v := ?_) (a' := ?_) #[true, true, false, false, false, false, false, false, false, false, false, false, false, false, false, false, false] rfl rfl (by kernel_rfl) (fun _ _ _ h => h) (Or.inl ⟨by rfl, ?_⟩) ?_ ?_
        rotate_left
        · intro w'
          go_simp
          with_reducible rfl
        rotate_left
        · simp only [Act.put, List.setIfInBounds_toArray, List.set_cons_zero, List.set_cons_succ, i64_w, i32_w]
          rfl
        refine pure_ (i := 2) (N := some 71) (v := ?_) (a' := ?_) #[true, true, true, false, false, false, false, false, false, false, false, false, false, false, false, false, false] rfl rfl (by kernel_rfl) (fun _ _ _ h => h) (Or.inl ⟨by rfl, ?_⟩) ?_ ?_
        rotate_left
        · intro w'
          go_simp
          with_reducible rfl
        rotate_left
        · simp only [Act.put, List.setIfInBounds_toArray, List.set_cons_zero, List.set_cons_succ, i64_w, i32_w]
          rfl
        refine pure_ (i := 6) (N := some 75) (v := ?_) (a' := ?_) #[true, true, true, false, false, false, true, false, false, false, false, false, false, false, false, false, false] rfl rfl (by kernel_rfl) (fun _ _ _ h => h) (Or.inl ⟨by rfl, ?_⟩) ?_ ?_
        rotate_left
        · intro w'
          go_simp
          with_reducible rfl
        rotate_left
        · simp only [Act.put, List.setIfInBounds_toArray, List.set_cons_zero, List.set_cons_succ, i64_w, i32_w]
          rfl
        refine pure_ (i := 9) (N := some 78) (v := ?_) (a' := ?_) #[true, true, true, false, false, false, true, false, false, true, false, false, false, false, false, false, false] rfl rfl (by kernel_rfl) (fun _ _ _ h => h) (Or.inl ⟨by rfl, ?_⟩) ?_ ?_
        rotate_left
        · intro w'
          go_simp
          with_reducible rfl
        rotate_left
        · simp only [Act.put, List.setIfInBounds_toArray, List.set_cons_zero, List.set_cons_succ, i64_w, i32_w]
          rfl
        refine pure_ (i := 10) (N := some 79) (v := ?_) (a' := ?_) #[true, true, true, false, false, false, true, false, false, true, true, false, false, false, false, false, false] rfl rfl (by kernel_rfl) (fun _ _ _ h => h) (Or.inl ⟨by rfl, ?_⟩) ?_ ?_
        rotate_left
        · intro w'
          go_simp
          with_reducible rfl
        rotate_left
        · simp only [Act.put, List.setIfInBounds_toArray, List.set_cons_zero, List.set_cons_succ, i64_w, i32_w]
          rfl
        refine pure_ (i := 11) (N := some 80) (v := ?_) (a' := ?_) #[true, true, true, false, false, false, true, false, false, true, true, true, false, false, false, false, false] rfl rfl (by kernel_rfl) (fun _ _ _ h => h) (Or.inl ⟨by rfl, ?_⟩) ?_ ?_
        rotate_left
        · intro w'
          go_simp
          with_reducible rfl
        rotate_left
        · simp only [Act.put, List.setIfInBounds_toArray, List.set_cons_zero, List.set_cons_succ, i64_w, i32_w]
          rfl
        refine take_ (i := 3) (N := some 72) (v := ?_) (a' := ?_) #[true, true, true, true, false, false, true, false, false, true, true, true, false, false, false, false, false] rfl rfl (by kernel_rfl) (fun _ _ _ h => h) (Or.inl ⟨by rfl, ?_⟩) hHeld ?_ ?_
        rotate_left
        · rintro w' ⟨s0, s1, s2⟩
          go_simp
          with_reducible rfl
        rotate_left
        · simp only [Act.put, List.setIfInBounds_toArray, List.set_cons_zero, List.set_cons_succ, i64_w, i32_w]
          rfl
        refine pure_ (i := 4) (N := some 73) (v := ?_) (a' := ?_) #[true, true, true, true, true, false, true, false, false, true, true, true, false, false, false, false, false] rfl rfl (by kernel_rfl) (fun _ _ _ h => h) (Or.inl ⟨by rfl, ?_⟩) ?_ ?_
        rotate_left
        · intro w'
          go_simp
          with_reducible rfl
        rotate_left
        · simp only [Act.put, List.setIfInBounds_toArray, List.set_cons_zero, List.set_cons_succ, i64_w, i32_w]
          rfl
        refine pure_ (i := 5) (N := some 74) (v := ?_) (a' := ?_) #[true, true, true, true, true, true, true, false, false, true, true, true, false, false, false, false, false] rfl rfl (by kernel_rfl) (fun _ _ _ h => h) (Or.inl ⟨by rfl, ?_⟩) ?_ ?_
        rotate_left
        · intro w'
          go_simp
          with_reducible rfl
        rotate_left
        · simp only [Act.put, List.setIfInBounds_toArray, List.set_cons_zero, List.set_cons_succ, i64_w, i32_w]
          rfl
        refine take_ (i := 7) (N := some 76) (v := ?_) (a' := ?_) #[true, true, true, true, true, true, true, true, false, true, true, true, false, false, false, false, false] rfl rfl (by kernel_rfl) (fun _ _ _ h => h) (Or.inl ⟨by rfl, ?_⟩) hHeld ?_ ?_
        rotate_left
        · rintro w' ⟨s0, s1, s2⟩
          go_simp
          with_reducible rfl
        rotate_left
        · simp only [Act.put, List.setIfInBounds_toArray, List.set_cons_zero, List.set_cons_succ, i64_w, i32_w]
          rfl
        refine pure_ (i := 8) (N := some 77) (v := ?_) (a' := ?_) #[true, true, true, true, true, true, true, true, true, true, true, true, false, false, false, false, false] rfl rfl (by kernel_rfl) (fun _ _ _ h => h) (Or.inl ⟨by rfl, ?_⟩) ?_ ?_
        rotate_left
        · intro w'
          go_simp
          with_reducible rfl
        rotate_left
        · simp only [Act.put, List.setIfInBounds_toArray, List.set_cons_zero, List.set_cons_succ, i64_w, i32_w]
          rfl
        refine take_ (i := 12) (N := some 81) (v := ?_) (a' := ?_) #[true, true, true, true, true, true, true, true, true, true, true, true, true, false, false, false, false] rfl rfl (by kernel_rfl) (fun _ _ _ h => h) (Or.inl ⟨by rfl, ?_⟩) hHeld ?_ ?_
        rotate_left
        · rintro w' ⟨s0, s1, s2⟩
          go_simp
          with_reducible rfl
        rotate_left
        · simp only [Act.put, List.setIfInBounds_toArray, List.set_cons_zero, List.set_cons_succ, i64_w, i32_w]
          rfl
        refine pure_ (i := 13) (N := some 82) (v := ?_) (a' := ?_) #[true, true, true, true, true, true, true, true, true, true, true, true, true, true, false, false, false] rfl rfl (by kernel_rfl) (fun _ _ _ h => h) (Or.inl ⟨by rfl, ?_⟩) ?_ ?_
        rotate_left
        · intro w'
          go_simp
          with_reducible rfl
        rotate_left
        · simp only [Act.put, List.setIfInBounds_toArray, List.set_cons_zero, List.set_cons_succ, i64_w, i32_w]
          rfl
        refine pure_ (i := 14) (N := some 83) (v := ?_) (a' := ?_) #[true, true, true, true, true, true, true, true, true, true, true, true, true, true, true, false, false] rfl rfl (by kernel_rfl) (fun _ _ _ h => h) (Or.inl ⟨by rfl, ?_⟩) ?_ ?_
        rotate_left
        · intro w'
          go_simp
          with_reducible rfl
        rotate_left
        · simp only [Act.put, List.setIfInBounds_toArray, List.set_cons_zero, List.set_cons_succ, i64_w, i32_w]
          rfl
        refine pure_ (i := 15) (N := some 84) (v := ?_) (a' := ?_) #[true, true, true, true, true, true, true, true, true, true, true, true, true, true, true, true, false] rfl rfl (by kernel_rfl) (fun _ _ _ h => h) (Or.inl ⟨by rfl, ?_⟩) ?_ ?_
        rotate_left
        · intro w'
          go_simp
          with_reducible rfl
        rotate_left
        · simp only [Act.put, List.setIfInBounds_toArray, List.set_cons_zero, List.set_cons_succ, i64_w, i32_w]
          rfl
        refine last_ (i := 16) (N := none) #[true, true, true, true, true, true, true, true, true, true, true, true, true, true, true, true, true] rfl rfl (by kernel_rfl) (by decide) (fun K hK => ?_)
        refine skip_ (w1 := ?_) (by rfl) rfl ?_ ?_
        rotate_left
        · go_simp
          rfl
        refine hK.out _ _ ?_
        clear hK K
        refine done_ (by kernel_rfl) ?_

        go_wp2
        have E : proc g s (sumsq l0) = ({ state := 1, blocks := s.blocks + 1, run := 0, start := s.blocks - g.rise + 1 - g.lead, free := s.free }, none) := by
          unfold proc
          rw [if_pos HS.out, ← HL.out, ← HR.out, if_pos HE.out, Int.max_eq_left (by have := HM.out; omega)]
        refine bodyPost_ret (results_ct rfl _ _ g4 65 #[.int .i64 0, .int .i64 0] (0, 0) _ rfl (by (with_reducible repeat (first | refine blk_drewN ?_ _ | refine blk_drew ?_ | refine blk_alloc ?_ _)); refine blk_put (cs := #[.int .i64 0, .int .i64 0]) ?_ 1 _ rfl; (with_reducible repeat (first | refine blk_drewN ?_ _ | refine blk_drew ?_ | refine blk_alloc ?_ _)); refine blk_put (cs := #[.int .i64 0, .int .i64 0]) ?_ 0 _ rfl; (with_reducible repeat (first | refine blk_drewN ?_ _ | refine blk_drew ?_ | refine blk_alloc ?_ _)); refine blk_far ?_ NBg4_b.out _; (with_reducible repeat (first | refine blk_drewN ?_ _ | refine blk_drew ?_ | refine blk_alloc ?_ _)); exact BKg4.out) Try.underlying65 rfl (by kernel_rfl)) rfl ?_
        unfold ProcPost
        rw [E]
        refine ⟨rfl, ?_, ?_, ?_⟩
        · show _ = some (Obj.cells #[.int .i64 g.block, .int .i64 g.high, .int .i64 g.low, .int .i64 g.rise, .int .i64 g.fall, .int .i64 g.lead, .int .i64 g.longest, .bool true, .int .i64 1, .slice Ab nb cb, .int .i64 (s.blocks + 1), .int .i64 smp, .int .i64 0, .int .i64 (s.blocks - g.rise + 1 - g.lead), .int .i64 s.free] 71 (0, 0))
          exact (by (with_reducible repeat (first | refine blk_drewN ?_ _ | refine blk_drew ?_ | refine blk_alloc ?_ _)); refine blk_far ?_ NBb_g4.out _; (with_reducible repeat (first | refine blk_drewN ?_ _ | refine blk_drew ?_ | refine blk_alloc ?_ _)); refine blk_far ?_ NBb_g4.out _; (with_reducible repeat (first | refine blk_drewN ?_ _ | refine blk_drew ?_ | refine blk_alloc ?_ _)); refine blk_put (cs := #[.int .i64 g.block, .int .i64 g.high, .int .i64 g.low, .int .i64 g.rise, .int .i64 g.fall, .int .i64 g.lead, .int .i64 g.longest, .bool true, .int .i64 1, .slice Ab nb cb, .int .i64 (s.blocks + 1), .int .i64 smp, .int .i64 0, .int .i64 s.start, .int .i64 s.free]) ?_ 13 _ rfl; (with_reducible repeat (first | refine blk_drewN ?_ _ | refine blk_drew ?_ | refine blk_alloc ?_ _)); exact BKb.out)
        · exact (by repeat (first | (with_reducible first | exact HB.out | apply below_alloc | apply pw_below_drewN | apply below_drew1 | refine below_set ?_ GEb.out | refine below_set ?_ GEg4.out | refine below_set ?_ GEg6.out) | exact HB.out))
        · exact (by repeat (first | exact HK.out | apply KeepBut.set_ | apply keep_drewN | apply keep_drew | apply keep_alloc | refine keep_far ?_ GWg4.out _ | refine keep_far ?_ GWg6.out _))
    · have HE := Aside0.mk hr
      have q1 : (r == g.rise) = false := beq_eq_false_iff_ne.2 hr
      clear hr
      go_wp2
      have E : proc g s (sumsq l0) = ({ s with blocks := s.blocks + 1, run := r }, none) := by
        unfold proc
        rw [if_pos HS.out, ← HL.out, ← HR.out, if_neg HE.out]
      refine bodyPost_ret (results_ct rfl _ _ g4 65 #[.int .i64 0, .int .i64 0] (0, 0) _ rfl (by (with_reducible repeat (first | refine blk_drewN ?_ _ | refine blk_drew ?_ | refine blk_alloc ?_ _)); refine blk_put (cs := #[.int .i64 0, .int .i64 0]) ?_ 1 _ rfl; (with_reducible repeat (first | refine blk_drewN ?_ _ | refine blk_drew ?_ | refine blk_alloc ?_ _)); refine blk_put (cs := #[.int .i64 0, .int .i64 0]) ?_ 0 _ rfl; (with_reducible repeat (first | refine blk_drewN ?_ _ | refine blk_drew ?_ | refine blk_alloc ?_ _)); exact BKg4.out) Try.underlying65 rfl (by kernel_rfl)) rfl ?_
      unfold ProcPost
      rw [E]
      refine ⟨rfl, ?_, ?_, ?_⟩
      · show _ = some (Obj.cells #[.int .i64 g.block, .int .i64 g.high, .int .i64 g.low, .int .i64 g.rise, .int .i64 g.fall, .int .i64 g.lead, .int .i64 g.longest, .bool true, .int .i64 s.state, .slice Ab nb cb, .int .i64 (s.blocks + 1), .int .i64 smp, .int .i64 r, .int .i64 s.start, .int .i64 s.free] 71 (0, 0))
        exact (by (with_reducible repeat (first | refine blk_drewN ?_ _ | refine blk_drew ?_ | refine blk_alloc ?_ _)); refine blk_far ?_ NBb_g4.out _; (with_reducible repeat (first | refine blk_drewN ?_ _ | refine blk_drew ?_ | refine blk_alloc ?_ _)); refine blk_far ?_ NBb_g4.out _; (with_reducible repeat (first | refine blk_drewN ?_ _ | refine blk_drew ?_ | refine blk_alloc ?_ _)); exact BKb.out)
      · exact (by repeat (first | (with_reducible first | exact HB.out | apply below_alloc | apply pw_below_drewN | apply below_drew1 | refine below_set ?_ GEb.out | refine below_set ?_ GEg4.out | refine below_set ?_ GEg6.out) | exact HB.out))
      · exact (by repeat (first | exact HK.out | apply KeepBut.set_ | apply keep_drewN | apply keep_drew | apply keep_alloc | refine keep_far ?_ GWg4.out _ | refine keep_far ?_ GWg6.out _))
  · have HS : Aside0 (¬ s.state = 0) := ⟨by omega⟩
    have HS1 := Aside0.mk hst
    have q0 : (s.state == 0) = false := beq_eq_false_iff_ne.2 HS.out
    clear hst
    obtain ⟨r, HR⟩ : ∃ r, Aside0 (r = nextRun s.run quiet) := ⟨_, ⟨rfl⟩⟩
    have hrb := nextRun_bd (goes := quiet) i1
    rw [← HR.out] at hrb
    have r0 := hrb.1
    have r1 := hrb.2
    clear hrb
    go_wp2_with fail
    rw [← HQ.out]
    refine (next95 _ _ _ (by omega) (by omega)).mono ?_
    rintro e w' ⟨rfl, rfl⟩
    rw [← HR.out]
    go_wp2_with fail
    have z0_ := Aside0.mk (show Below w0.heap.size w0 (w'.setCell ⟨b, 12, none⟩ (.int .i64 r)) from (by repeat (first | (with_reducible first | exact HB.out | apply below_alloc | apply pw_below_drewN | apply below_drew1 | refine below_set ?_ GEb.out | refine below_set ?_ GEg4.out | refine below_set ?_ GEg6.out) | exact HB.out)))
    have z1_ := Aside0.mk (show KeepBut w (w'.setCell ⟨b, 12, none⟩ (.int .i64 r)) b none from (by repeat (first | exact HK.out | apply KeepBut.set_ | apply keep_drewN | apply keep_drew | apply keep_alloc | refine keep_far ?_ GWg4.out _ | refine keep_far ?_ GWg6.out _)))
    have z2_ := Aside0.mk (show (w'.setCell ⟨b, 12, none⟩ (.int .i64 r)).heap[b]? = some (.cells #[.int .i64 g.block, .int .i64 g.high, .int .i64 g.low, .int .i64 g.rise, .int .i64 g.fall, .int .i64 g.lead, .int .i64 g.longest, .bool true, .int .i64 s.state, .slice Ab nb cb, .int .i64 (s.blocks + 1), .int .i64 smp, .int .i64 r, .int .i64 s.start, .int .i64 s.free] 71 (0, 0)) from (by (with_reducible repeat (first | refine blk_drewN ?_ _ | refine blk_drew ?_ | refine blk_alloc ?_ _)); refine blk_put (cs := #[.int .i64 g.block, .int .i64 g.high, .int .i64 g.low, .int .i64 g.rise, .int .i64 g.fall, .int .i64 g.lead, .int .i64 g.longest, .bool true, .int .i64 s.state, .slice Ab nb cb, .int .i64 (s.blocks + 1), .int .i64 smp, .int .i64 s.run, .int .i64 s.start, .int .i64 s.free]) ?_ 12 _ rfl; (with_reducible repeat (first | refine blk_drewN ?_ _ | refine blk_drew ?_ | refine blk_alloc ?_ _)); exact BKb.out))
    have z3_ := Aside0.mk (show (w'.setCell ⟨b, 12, none⟩ (.int .i64 r)).heap[g4]? = some (.cells #[.int .i64 0, .int .i64 0] 65 (0, 0)) from (by (with_reducible repeat (first | refine blk_drewN ?_ _ | refine blk_drew ?_ | refine blk_alloc ?_ _)); refine blk_far ?_ NBg4_b.out _; (with_reducible repeat (first | refine blk_drewN ?_ _ | refine blk_drew ?_ | refine blk_alloc ?_ _)); exact BKg4.out))
    have z4_ := Aside0.mk (show (w'.setCell ⟨b, 12, none⟩ (.int .i64 r)).heap[g6]? = some (.cells #[.int .i64 g.block, .int .i64 g.high, .int .i64 g.low, .int .i64 g.rise, .int .i64 g.fall, .int .i64 g.lead, .int .i64 g.longest] 41 (0, 0)) from (by (with_reducible repeat (first | refine blk_drewN ?_ _ | refine blk_drew ?_ | refine blk_alloc ?_ _)); refine blk_far ?_ NBg6_b.out _; (with_reducible repeat (first | refine blk_drewN ?_ _ | refine blk_drew ?_ | refine blk_alloc ?_ _)); exact BKg6.out))
    clear HB HK BKb BKg4 BKg6
    have HB := z0_
    have HK := z1_
    have BKb := z2_
    have BKg4 := z3_
    have BKg6 := z4_
    clear z0_ z1_ z2_ z3_ z4_
    generalize w'.setCell ⟨b, 12, none⟩ (.int .i64 r) = w9 at HB HK BKb BKg4 BKg6 ⊢
    have hc91 : w9.cell? ⟨b, 0, none⟩ = some (.int .i64 g.block) := (blk_cell BKb.out 0).trans rfl
    have hf91 := blk_frozen BKb.out 0
    have hc92 : w9.cell? ⟨b, 1, none⟩ = some (.int .i64 g.high) := (blk_cell BKb.out 1).trans rfl
    have hf92 := blk_frozen BKb.out 1
    have hc93 : w9.cell? ⟨b, 2, none⟩ = some (.int .i64 g.low) := (blk_cell BKb.out 2).trans rfl
    have hf93 := blk_frozen BKb.out 2
    have hc94 : w9.cell? ⟨b, 3, none⟩ = some (.int .i64 g.rise) := (blk_cell BKb.out 3).trans rfl
    have hf94 := blk_frozen BKb.out 3
    have hc95 : w9.cell? ⟨b, 4, none⟩ = some (.int .i64 g.fall) := (blk_cell BKb.out 4).trans rfl
    have hf95 := blk_frozen BKb.out 4
    have hc96 : w9.cell? ⟨b, 5, none⟩ = some (.int .i64 g.lead) := (blk_cell BKb.out 5).trans rfl
    have hf96 := blk_frozen BKb.out 5
    have hc97 : w9.cell? ⟨b, 6, none⟩ = some (.int .i64 g.longest) := (blk_cell BKb.out 6).trans rfl
    have hf97 := blk_frozen BKb.out 6
    have hc98 : w9.cell? ⟨b, 7, none⟩ = some (.bool true) := (blk_cell BKb.out 7).trans rfl
    have hf98 := blk_frozen BKb.out 7
    have hc99 : w9.cell? ⟨b, 8, none⟩ = some (.int .i64 s.state) := (blk_cell BKb.out 8).trans rfl
    have hf99 := blk_frozen BKb.out 8
    have hc100 : w9.cell? ⟨b, 9, none⟩ = some (.slice Ab nb cb) := (blk_cell BKb.out 9).trans rfl
    have hf100 := blk_frozen BKb.out 9
    have hc101 : w9.cell? ⟨b, 10, none⟩ = some (.int .i64 (s.blocks + 1)) := (blk_cell BKb.out 10).trans rfl
    have hf101 := blk_frozen BKb.out 10
    have hc102 : w9.cell? ⟨b, 11, none⟩ = some (.int .i64 smp) := (blk_cell BKb.out 11).trans rfl
    have hf102 := blk_frozen BKb.out 11
    have hc103 : w9.cell? ⟨b, 12, none⟩ = some (.int .i64 r) := (blk_cell BKb.out 12).trans rfl
    have hf103 := blk_frozen BKb.out 12
    have hc104 : w9.cell? ⟨b, 13, none⟩ = some (.int .i64 s.start) := (blk_cell BKb.out 13).trans rfl
    have hf104 := blk_frozen BKb.out 13
    have hc105 : w9.cell? ⟨b, 14, none⟩ = some (.int .i64 s.free) := (blk_cell BKb.out 14).trans rfl
    have hf105 := blk_frozen BKb.out 14
    have hc106 : w9.cell? ⟨g4, 0, none⟩ = some (.int .i64 0) := (blk_cell BKg4.out 0).trans rfl
    have hf106 := blk_frozen BKg4.out 0
    have hc107 : w9.cell? ⟨g4, 1, none⟩ = some (.int .i64 0) := (blk_cell BKg4.out 1).trans rfl
    have hf107 := blk_frozen BKg4.out 1
    have hc108 : w9.cell? ⟨g6, 0, none⟩ = some (.int .i64 g.block) := (blk_cell BKg6.out 0).trans rfl
    have hf108 := blk_frozen BKg6.out 0
    have hc109 : w9.cell? ⟨g6, 1, none⟩ = some (.int .i64 g.high) := (blk_cell BKg6.out 1).trans rfl
    have hf109 := blk_frozen BKg6.out 1
    have hc110 : w9.cell? ⟨g6, 2, none⟩ = some (.int .i64 g.low) := (blk_cell BKg6.out 2).trans rfl
    have hf110 := blk_frozen BKg6.out 2
    have hc111 : w9.cell? ⟨g6, 3, none⟩ = some (.int .i64 g.rise) := (blk_cell BKg6.out 3).trans rfl
    have hf111 := blk_frozen BKg6.out 3
    have hc112 : w9.cell? ⟨g6, 4, none⟩ = some (.int .i64 g.fall) := (blk_cell BKg6.out 4).trans rfl
    have hf112 := blk_frozen BKg6.out 4
    have hc113 : w9.cell? ⟨g6, 5, none⟩ = some (.int .i64 g.lead) := (blk_cell BKg6.out 5).trans rfl
    have hf113 := blk_frozen BKg6.out 5
    have hc114 : w9.cell? ⟨g6, 6, none⟩ = some (.int .i64 g.longest) := (blk_cell BKg6.out 6).trans rfl
    have hf114 := blk_frozen BKg6.out 6
    go_quiet (fail)
    have z0_ := Aside0.mk (show Below w0.heap.size w0 (w9.drewN nq) from (by repeat (first | (with_reducible first | exact HB.out | apply below_alloc | apply pw_below_drewN | apply below_drew1 | refine below_set ?_ GEb.out | refine below_set ?_ GEg4.out | refine below_set ?_ GEg6.out) | exact HB.out)))
    have z1_ := Aside0.mk (show KeepBut w (w9.drewN nq) b none from (by repeat (first | exact HK.out | apply KeepBut.set_ | apply keep_drewN | apply keep_drew | apply keep_alloc | refine keep_far ?_ GWg4.out _ | refine keep_far ?_ GWg6.out _)))
    have z2_ := Aside0.mk (show (w9.drewN nq).heap[b]? = some (.cells #[.int .i64 g.block, .int .i64 g.high, .int .i64 g.low, .int .i64 g.rise, .int .i64 g.fall, .int .i64 g.lead, .int .i64 g.longest, .bool true, .int .i64 s.state, .slice Ab nb cb, .int .i64 (s.blocks + 1), .int .i64 smp, .int .i64 r, .int .i64 s.start, .int .i64 s.free] 71 (0, 0)) from (by (with_reducible repeat (first | refine blk_drewN ?_ _ | refine blk_drew ?_ | refine blk_alloc ?_ _)); exact BKb.out))
    have z3_ := Aside0.mk (show (w9.drewN nq).heap[g4]? = some (.cells #[.int .i64 0, .int .i64 0] 65 (0, 0)) from (by (with_reducible repeat (first | refine blk_drewN ?_ _ | refine blk_drew ?_ | refine blk_alloc ?_ _)); exact BKg4.out))
    have z4_ := Aside0.mk (show (w9.drewN nq).heap[g6]? = some (.cells #[.int .i64 g.block, .int .i64 g.high, .int .i64 g.low, .int .i64 g.rise, .int .i64 g.fall, .int .i64 g.lead, .int .i64 g.longest] 41 (0, 0)) from (by (with_reducible repeat (first | refine blk_drewN ?_ _ | refine blk_drew ?_ | refine blk_alloc ?_ _)); exact BKg6.out))
    clear HB HK BKb BKg4 BKg6
    have HB := z0_
    have HK := z1_
    have BKb := z2_
    have BKg4 := z3_
    have BKg6 := z4_
    clear z0_ z1_ z2_ z3_ z4_
    generalize w9.drewN nq = w10 at HB HK BKb BKg4 BKg6 ⊢
    have hc115 : w10.cell? ⟨b, 0, none⟩ = some (.int .i64 g.block) := (blk_cell BKb.out 0).trans rfl
    have hf115 := blk_frozen BKb.out 0
    have hc116 : w10.cell? ⟨b, 1, none⟩ = some (.int .i64 g.high) := (blk_cell BKb.out 1).trans rfl
    have hf116 := blk_frozen BKb.out 1
    have hc117 : w10.cell? ⟨b, 2, none⟩ = some (.int .i64 g.low) := (blk_cell BKb.out 2).trans rfl
    have hf117 := blk_frozen BKb.out 2
    have hc118 : w10.cell? ⟨b, 3, none⟩ = some (.int .i64 g.rise) := (blk_cell BKb.out 3).trans rfl
    have hf118 := blk_frozen BKb.out 3
    have hc119 : w10.cell? ⟨b, 4, none⟩ = some (.int .i64 g.fall) := (blk_cell BKb.out 4).trans rfl
    have hf119 := blk_frozen BKb.out 4
    have hc120 : w10.cell? ⟨b, 5, none⟩ = some (.int .i64 g.lead) := (blk_cell BKb.out 5).trans rfl
    have hf120 := blk_frozen BKb.out 5
    have hc121 : w10.cell? ⟨b, 6, none⟩ = some (.int .i64 g.longest) := (blk_cell BKb.out 6).trans rfl
    have hf121 := blk_frozen BKb.out 6
    have hc122 : w10.cell? ⟨b, 7, none⟩ = some (.bool true) := (blk_cell BKb.out 7).trans rfl
    have hf122 := blk_frozen BKb.out 7
    have hc123 : w10.cell? ⟨b, 8, none⟩ = some (.int .i64 s.state) := (blk_cell BKb.out 8).trans rfl
    have hf123 := blk_frozen BKb.out 8
    have hc124 : w10.cell? ⟨b, 9, none⟩ = some (.slice Ab nb cb) := (blk_cell BKb.out 9).trans rfl
    have hf124 := blk_frozen BKb.out 9
    have hc125 : w10.cell? ⟨b, 10, none⟩ = some (.int .i64 (s.blocks + 1)) := (blk_cell BKb.out 10).trans rfl
    have hf125 := blk_frozen BKb.out 10
    have hc126 : w10.cell? ⟨b, 11, none⟩ = some (.int .i64 smp) := (blk_cell BKb.out 11).trans rfl
    have hf126 := blk_frozen BKb.out 11
    have hc127 : w10.cell? ⟨b, 12, none⟩ = some (.int .i64 r) := (blk_cell BKb.out 12).trans rfl
    have hf127 := blk_frozen BKb.out 12
    have hc128 : w10.cell? ⟨b, 13, none⟩ = some (.int .i64 s.start) := (blk_cell BKb.out 13).trans rfl
    have hf128 := blk_frozen BKb.out 13
    have hc129 : w10.cell? ⟨b, 14, none⟩ = some (.int .i64 s.free) := (blk_cell BKb.out 14).trans rfl
    have hf129 := blk_frozen BKb.out 14
    have hc130 : w10.cell? ⟨g4, 0, none⟩ = some (.int .i64 0) := (blk_cell BKg4.out 0).trans rfl
    have hf130 := blk_frozen BKg4.out 0
    have hc131 : w10.cell? ⟨g4, 1, none⟩ = some (.int .i64 0) := (blk_cell BKg4.out 1).trans rfl
    have hf131 := blk_frozen BKg4.out 1
    have hc132 : w10.cell? ⟨g6, 0, none⟩ = some (.int .i64 g.block) := (blk_cell BKg6.out 0).trans rfl
    have hf132 := blk_frozen BKg6.out 0
    have hc133 : w10.cell? ⟨g6, 1, none⟩ = some (.int .i64 g.high) := (blk_cell BKg6.out 1).trans rfl
    have hf133 := blk_frozen BKg6.out 1
    have hc134 : w10.cell? ⟨g6, 2, none⟩ = some (.int .i64 g.low) := (blk_cell BKg6.out 2).trans rfl
    have hf134 := blk_frozen BKg6.out 2
    have hc135 : w10.cell? ⟨g6, 3, none⟩ = some (.int .i64 g.rise) := (blk_cell BKg6.out 3).trans rfl
    have hf135 := blk_frozen BKg6.out 3
    have hc136 : w10.cell? ⟨g6, 4, none⟩ = some (.int .i64 g.fall) := (blk_cell BKg6.out 4).trans rfl
    have hf136 := blk_frozen BKg6.out 4
    have hc137 : w10.cell? ⟨g6, 5, none⟩ = some (.int .i64 g.lead) := (blk_cell BKg6.out 5).trans rfl
    have hf137 := blk_frozen BKg6.out 5
    have hc138 : w10.cell? ⟨g6, 6, none⟩ = some (.int .i64 g.longest) := (blk_cell BKg6.out 6).trans rfl
    have hf138 := blk_frozen BKg6.out 6
    by_cases hr : r = g.fall
    · have HE := Aside0.mk hr
      have q1 : (r == g.fall) = true := beq_iff_eq.2 hr
      have hfl : g.fall ≤ s.blocks + 1 := by omega
      clear hr
      go_wp2_with fail
      have z0_ := Aside0.mk (show Below w0.heap.size w0 (((w10.setCell ⟨b, 14, none⟩ (.int .i64 (s.blocks - g.fall + 1))).setCell ⟨b, 8, none⟩ (.int .i64 0)).setCell ⟨b, 12, none⟩ (.int .i64 0)) from (by repeat (first | (with_reducible first | exact HB.out | apply below_alloc | apply pw_below_drewN | apply below_drew1 | refine below_set ?_ GEb.out | refine below_set ?_ GEg4.out | refine below_set ?_ GEg6.out) | exact HB.out)))
      have z1_ := Aside0.mk (show KeepBut w (((w10.setCell ⟨b, 14, none⟩ (.int .i64 (s.blocks - g.fall + 1))).setCell ⟨b, 8, none⟩ (.int .i64 0)).setCell ⟨b, 12, none⟩ (.int .i64 0)) b none from (by repeat (first | exact HK.out | apply KeepBut.set_ | apply keep_drewN | apply keep_drew | apply keep_alloc | refine keep_far ?_ GWg4.out _ | refine keep_far ?_ GWg6.out _)))
      have z2_ := Aside0.mk (show (((w10.setCell ⟨b, 14, none⟩ (.int .i64 (s.blocks - g.fall + 1))).setCell ⟨b, 8, none⟩ (.int .i64 0)).setCell ⟨b, 12, none⟩ (.int .i64 0)).heap[b]? = some (.cells #[.int .i64 g.block, .int .i64 g.high, .int .i64 g.low, .int .i64 g.rise, .int .i64 g.fall, .int .i64 g.lead, .int .i64 g.longest, .bool true, .int .i64 0, .slice Ab nb cb, .int .i64 (s.blocks + 1), .int .i64 smp, .int .i64 0, .int .i64 s.start, .int .i64 (s.blocks - g.fall + 1)] 71 (0, 0)) from (by (with_reducible repeat (first | refine blk_drewN ?_ _ | refine blk_drew ?_ | refine blk_alloc ?_ _)); refine blk_put (cs := #[.int .i64 g.block, .int .i64 g.high, .int .i64 g.low, .int .i64 g.rise, .int .i64 g.fall, .int .i64 g.lead, .int .i64 g.longest, .bool true, .int .i64 0, .slice Ab nb cb, .int .i64 (s.blocks + 1), .int .i64 smp, .int .i64 r, .int .i64 s.start, .int .i64 (s.blocks - g.fall + 1)]) ?_ 12 _ rfl; (with_reducible repeat (first | refine blk_drewN ?_ _ | refine blk_drew ?_ | refine blk_alloc ?_ _)); refine blk_put (cs := #[.int .i64 g.block, .int .i64 g.high, .int .i64 g.low, .int .i64 g.rise, .int .i64 g.fall, .int .i64 g.lead, .int .i64 g.longest, .bool true, .int .i64 s.state, .slice Ab nb cb, .int .i64 (s.blocks + 1), .int .i64 smp, .int .i64 r, .int .i64 s.start, .int .i64 (s.blocks - g.fall + 1)]) ?_ 8 _ rfl; (with_reducible repeat (first | refine blk_drewN ?_ _ | refine blk_drew ?_ | refine blk_alloc ?_ _)); refine blk_put (cs := #[.int .i64 g.block, .int .i64 g.high, .int .i64 g.low, .int .i64 g.rise, .int .i64 g.fall, .int .i64 g.lead, .int .i64 g.longest, .bool true, .int .i64 s.state, .slice Ab nb cb, .int .i64 (s.blocks + 1), .int .i64 smp, .int .i64 r, .int .i64 s.start, .int .i64 s.free]) ?_ 14 _ rfl; (with_reducible repeat (first | refine blk_drewN ?_ _ | refine blk_drew ?_ | refine blk_alloc ?_ _)); exact BKb.out))
      have z3_ := Aside0.mk (show (((w10.setCell ⟨b, 14, none⟩ (.int .i64 (s.blocks - g.fall + 1))).setCell ⟨b, 8, none⟩ (.int .i64 0)).setCell ⟨b, 12, none⟩ (.int .i64 0)).heap[g4]? = some (.cells #[.int .i64 0, .int .i64 0] 65 (0, 0)) from (by (with_reducible repeat (first | refine blk_drewN ?_ _ | refine blk_drew ?_ | refine blk_alloc ?_ _)); refine blk_far ?_ NBg4_b.out _; (with_reducible repeat (first | refine blk_drewN ?_ _ | refine blk_drew ?_ | refine blk_alloc ?_ _)); refine blk_far ?_ NBg4_b.out _; (with_reducible repeat (first | refine blk_drewN ?_ _ | refine blk_drew ?_ | refine blk_alloc ?_ _)); refine blk_far ?_ NBg4_b.out _; (with_reducible repeat (first | refine blk_drewN ?_ _ | refine blk_drew ?_ | refine blk_alloc ?_ _)); exact BKg4.out))
      have z4_ := Aside0.mk (show (((w10.setCell ⟨b, 14, none⟩ (.int .i64 (s.blocks - g.fall + 1))).setCell ⟨b, 8, none⟩ (.int .i64 0)).setCell ⟨b, 12, none⟩ (.int .i64 0)).heap[g6]? = some (.cells #[.int .i64 g.block, .int .i64 g.high, .int .i64 g.low, .int .i64 g.rise, .int .i64 g.fall, .int .i64 g.lead, .int .i64 g.longest] 41 (0, 0)) from (by (with_reducible repeat (first | refine blk_drewN ?_ _ | refine blk_drew ?_ | refine blk_alloc ?_ _)); refine blk_far ?_ NBg6_b.out _; (with_reducible repeat (first | refine blk_drewN ?_ _ | refine blk_drew ?_ | refine blk_alloc ?_ _)); refine blk_far ?_ NBg6_b.out _; (with_reducible repeat (first | refine blk_drewN ?_ _ | refine blk_drew ?_ | refine blk_alloc ?_ _)); refine blk_far ?_ NBg6_b.out _; (with_reducible repeat (first | refine blk_drewN ?_ _ | refine blk_drew ?_ | refine blk_alloc ?_ _)); exact BKg6.out))
      clear HB HK BKb BKg4 BKg6
      have HB := z0_
      have HK := z1_
      have BKb := z2_
      have BKg4 := z3_
      have BKg6 := z4_
      clear z0_ z1_ z2_ z3_ z4_
      generalize ((w10.setCell ⟨b, 14, none⟩ (.int .i64 (s.blocks - g.fall + 1))).setCell ⟨b, 8, none⟩ (.int .i64 0)).setCell ⟨b, 12, none⟩ (.int .i64 0) = w13 at HB HK BKb BKg4 BKg6 ⊢
      have hc139 : w13.cell? ⟨b, 0, none⟩ = some (.int .i64 g.block) := (blk_cell BKb.out 0).trans rfl
      have hf139 := blk_frozen BKb.out 0
      have hc140 : w13.cell? ⟨b, 1, none⟩ = some (.int .i64 g.high) := (blk_cell BKb.out 1).trans rfl
      have hf140 := blk_frozen BKb.out 1
      have hc141 : w13.cell? ⟨b, 2, none⟩ = some (.int .i64 g.low) := (blk_cell BKb.out 2).trans rfl
      have hf141 := blk_frozen BKb.out 2
      have hc142 : w13.cell? ⟨b, 3, none⟩ = some (.int .i64 g.rise) := (blk_cell BKb.out 3).trans rfl
      have hf142 := blk_frozen BKb.out 3
      have hc143 : w13.cell? ⟨b, 4, none⟩ = some (.int .i64 g.fall) := (blk_cell BKb.out 4).trans rfl
      have hf143 := blk_frozen BKb.out 4
      have hc144 : w13.cell? ⟨b, 5, none⟩ = some (.int .i64 g.lead) := (blk_cell BKb.out 5).trans rfl
      have hf144 := blk_frozen BKb.out 5
      have hc145 : w13.cell? ⟨b, 6, none⟩ = some (.int .i64 g.longest) := (blk_cell BKb.out 6).trans rfl
      have hf145 := blk_frozen BKb.out 6
      have hc146 : w13.cell? ⟨b, 7, none⟩ = some (.bool true) := (blk_cell BKb.out 7).trans rfl
      have hf146 := blk_frozen BKb.out 7
      have hc147 : w13.cell? ⟨b, 8, none⟩ = some (.int .i64 0) := (blk_cell BKb.out 8).trans rfl
      have hf147 := blk_frozen BKb.out 8
      have hc148 : w13.cell? ⟨b, 9, none⟩ = some (.slice Ab nb cb) := (blk_cell BKb.out 9).trans rfl
      have hf148 := blk_frozen BKb.out 9
      have hc149 : w13.cell? ⟨b, 10, none⟩ = some (.int .i64 (s.blocks + 1)) := (blk_cell BKb.out 10).trans rfl
      have hf149 := blk_frozen BKb.out 10
      have hc150 : w13.cell? ⟨b, 11, none⟩ = some (.int .i64 smp) := (blk_cell BKb.out 11).trans rfl
      have hf150 := blk_frozen BKb.out 11
      have hc151 : w13.cell? ⟨b, 12, none⟩ = some (.int .i64 0) := (blk_cell BKb.out 12).trans rfl
      have hf151 := blk_frozen BKb.out 12
      have hc152 : w13.cell? ⟨b, 13, none⟩ = some (.int .i64 s.start) := (blk_cell BKb.out 13).trans rfl
      have hf152 := blk_frozen BKb.out 13
      have hc153 : w13.cell? ⟨b, 14, none⟩ = some (.int .i64 (s.blocks - g.fall + 1)) := (blk_cell BKb.out 14).trans rfl
      have hf153 := blk_frozen BKb.out 14
      have hc154 : w13.cell? ⟨g4, 0, none⟩ = some (.int .i64 0) := (blk_cell BKg4.out 0).trans rfl
      have hf154 := blk_frozen BKg4.out 0
      have hc155 : w13.cell? ⟨g4, 1, none⟩ = some (.int .i64 0) := (blk_cell BKg4.out 1).trans rfl
      have hf155 := blk_frozen BKg4.out 1
      have hc156 : w13.cell? ⟨g6, 0, none⟩ = some (.int .i64 g.block) := (blk_cell BKg6.out 0).trans rfl
      have hf156 := blk_frozen BKg6.out 0
      have hc157 : w13.cell? ⟨g6, 1, none⟩ = some (.int .i64 g.high) := (blk_cell BKg6.out 1).trans rfl
      have hf157 := blk_frozen BKg6.out 1
      have hc158 : w13.cell? ⟨g6, 2, none⟩ = some (.int .i64 g.low) := (blk_cell BKg6.out 2).trans rfl
      have hf158 := blk_frozen BKg6.out 2
      have hc159 : w13.cell? ⟨g6, 3, none⟩ = some (.int .i64 g.rise) := (blk_cell BKg6.out 3).trans rfl
      have hf159 := blk_frozen BKg6.out 3
      have hc160 : w13.cell? ⟨g6, 4, none⟩ = some (.int .i64 g.fall) := (blk_cell BKg6.out 4).trans rfl
      have hf160 := blk_frozen BKg6.out 4
      have hc161 : w13.cell? ⟨g6, 5, none⟩ = some (.int .i64 g.lead) := (blk_cell BKg6.out 5).trans rfl
      have hf161 := blk_frozen BKg6.out 5
      have hc162 : w13.cell? ⟨g6, 6, none⟩ = some (.int .i64 g.longest) := (blk_cell BKg6.out 6).trans rfl
      have hf162 := blk_frozen BKg6.out 6
      have pe := mul_in (show 0 ≤ s.blocks - g.fall + 1 by omega) (show s.blocks - g.fall + 1 ≤ 4294967297 by omega) (show 0 ≤ g.block by omega) gb2
      have pe1 := pe.1
      have pe2 := pe.2
      clear pe
      have pf1 : IntKind.i64.wrap (s.start * g.block) = s.start * g.block := IntWalk.i64_in _ (by omega)
      have pf2 : IntKind.i64.wrap ((s.blocks - g.fall + 1) * g.block) = (s.blocks - g.fall + 1) * g.block := IntWalk.i64_in _ (by omega)
      have BKb := Aside0.mk (blk_drew BKb.out)
      have BKg4 := Aside0.mk (blk_drew BKg4.out)
      have BKg6 := Aside0.mk (blk_drew BKg6.out)
      have HB := Aside0.mk (below_drew1 HB.out)
      have HK := Aside0.mk (keep_drew HK.out)
      have hp0 : w13.drew.cell? ⟨b, 13, none⟩ = some (.int .i64 s.start) := (blk_cell BKb.out 13).trans rfl
      have hp1 : w13.drew.cell? ⟨g6, 0, none⟩ = some (.int .i64 g.block) := (blk_cell BKg6.out 0).trans rfl
      have hp2 : w13.drew.cell? ⟨b, 14, none⟩ = some (.int .i64 (s.blocks - g.fall + 1)) := (blk_cell BKb.out 14).trans rfl
      refine start_ (n := 17) (S := fun w' => w'.cell? ⟨b, 13, none⟩ = some (.int .i64 s.start) ∧ w'.cell? ⟨g6, 0, none⟩ = some (.int .i64 g.block) ∧ w'.cell? ⟨b, 14, none⟩ = some (.int .i64 (s.blocks - g.fall + 1))) (ds := [15]) #[false, false, false, false, false, false, false, false, false, false, false, false, false, false, false, false, false] (by kernel_rfl) rfl rfl ⟨hp0, hp1, hp2⟩ (fun hHeld => ?_)
      generalize w13.drew = w14 at BKb BKg4 BKg6 HB HK hHeld ⊢
      have hc163 : w14.cell? ⟨g4, 0, none⟩ = some (.int .i64 0) := (blk_cell BKg4.out 0).trans rfl
      have hf163 := blk_frozen BKg4.out 0
      have hc164 : w14.cell? ⟨g4, 1, none⟩ = some (.int .i64 0) := (blk_cell BKg4.out 1).trans rfl
      have hf164 := blk_frozen BKg4.out 1
      refine pure_ (i := 0) (N := some 134) (v := ?_) (a' := ?_) #[true, false, false, false, false, false, false, false, false, false, false, false, false, false, false, false, false] rfl rfl (by kernel_rfl) (fun _ _ _ h => h) (Or.inl ⟨by rfl, ?_⟩) ?_ ?_
      rotate_left
      · intro w'
        go_simp
        with_reducible rfl
      rotate_left
      · simp only [Act.put, List.setIfInBounds_toArray, List.set_cons_zero, List.set_cons_succ, i64_w, i32_w]
        rfl
      refine pure_ (i := 1) (N := some 135) (v := ?_) (a' := ?_) #[true, true, false, false, false, false, false, false, false, false, false, false, false, false, false, false, false] rfl rfl (by kernel_rfl) (fun _ _ _ h => h) (Or.inl ⟨by rfl, ?_⟩) ?_ ?_
      rotate_left
      · intro w'
        go_simp
        with_reducible rfl
      rotate_left
      · simp only [Act.put, List.setIfInBounds_toArray, List.set_cons_zero, List.set_cons_succ, i64_w, i32_w]
        rfl
      refine pure_ (i := 2) (N := some 136) (v := ?_) (a' := ?_) #[true, true, true, false, false, false, false, false, false, false, false, false, false, false, false, false, false] rfl rfl (by kernel_rfl) (fun _ _ _ h => h) (Or.inl ⟨by rfl, ?_⟩) ?_ ?_
      rotate_left
      · intro w'
        go_simp
        with_reducible rfl
      rotate_left
      · simp only [Act.put, List.setIfInBounds_toArray, List.set_cons_zero, List.set_cons_succ, i64_w, i32_w]
        rfl
      refine pure_ (i := 4) (N := some 138) (v := ?_) (a' := ?_) #[true, true, true, false, true, false, false, false, false, false, false, false, false, false, false, false, false] rfl rfl (by kernel_rfl) (fun _ _ _ h => h) (Or.inl ⟨by rfl, ?_⟩) ?_ ?_
      rotate_left
      · intro w'
        go_simp
        with_reducible rfl
      rotate_left
      · simp only [Act.put, List.setIfInBounds_toArray, List.set_cons_zero, List.set_cons_succ, i64_w, i32_w]
        rfl
      refine pure_ (i := 7) (N := some 141) (v := ?_) (a' := ?_) #[true, true, true, false, true, false, false, true, false, false, false, false, false, false, false, false, false] rfl rfl (by kernel_rfl) (fun _ _ _ h => h) (Or.inl ⟨by rfl, ?_⟩) ?_ ?_
      rotate_left
      · intro w'
        go_simp
        with_reducible rfl
      rotate_left
      · simp only [Act.put, List.setIfInBounds_toArray, List.set_cons_zero, List.set_cons_succ, i64_w, i32_w]
        rfl
      refine pure_ (i := 8) (N := some 142) (v := ?_) (a' := ?_) #[true, true, true, false, true, false, false, true, true, false, false, false, false, false, false, false, false] rfl rfl (by kernel_rfl) (fun _ _ _ h => h) (Or.inl ⟨by rfl, ?_⟩) ?_ ?_
      rotate_left
      · intro w'
        go_simp
        with_reducible rfl
      rotate_left
      · simp only [Act.put, List.setIfInBounds_toArray, List.set_cons_zero, List.set_cons_succ, i64_w, i32_w]
        rfl
      refine pure_ (i := 9) (N := some 143) (v := ?_) (a' := ?_) #[true, true, true, false, true, false, false, true, true, true, false, false, false, false, false, false, false] rfl rfl (by kernel_rfl) (fun _ _ _ h => h) (Or.inl ⟨by rfl, ?_⟩) ?_ ?_
      rotate_left
      · intro w'
        go_simp
        with_reducible rfl
      rotate_left
      · simp only [Act.put, List.setIfInBounds_toArray, List.set_cons_zero, List.set_cons_succ, i64_w, i32_w]
        rfl
      refine pure_ (i := 11) (N := some 145) (v := ?_) (a' := ?_) #[true, true, true, false, true, false, false, true, true, true, false, true, false, false, false, false, false] rfl rfl (by kernel_rfl) (fun _ _ _ h => h) (Or.inl ⟨by rfl, ?_⟩) ?_ ?_
      rotate_left
      · intro w'
        go_simp
        with_reducible rfl
      rotate_left
      · simp only [Act.put, List.setIfInBounds_toArray, List.set_cons_zero, List.set_cons_succ, i64_w, i32_w]
        rfl
      refine take_ (i := 3) (N := some 137) (v := ?_) (a' := ?_) #[true, true, true, true, true, false, false, true, true, true, false, true, false, false, false, false, false] rfl rfl (by kernel_rfl) (fun _ _ _ h => h) (Or.inl ⟨by rfl, ?_⟩) hHeld ?_ ?_
      rotate_left
      · rintro w' ⟨s0, s1, s2⟩
        go_simp
        with_reducible rfl
      rotate_left
      · simp only [Act.put, List.setIfInBounds_toArray, List.set_cons_zero, List.set_cons_succ, i64_w, i32_w]
        rfl
      refine take_ (i := 5) (N := some 139) (v := ?_) (a' := ?_) #[true, true, true, true, true, true, false, true, true, true, false, true, false, false, false, false, false] rfl rfl (by kernel_rfl) (fun _ _ _ h => h) (Or.inl ⟨by rfl, ?_⟩) hHeld ?_ ?_
      rotate_left
      · rintro w' ⟨s0, s1, s2⟩
        go_simp
        with_reducible rfl
      rotate_left
      · simp only [Act.put, List.setIfInBounds_toArray, List.set_cons_zero, List.set_cons_succ, i64_w, i32_w]
        rfl
      refine pure_ (i := 6) (N := some 140) (v := ?_) (a' := ?_) #[true, true, true, true, true, true, true, true, true, true, false, true, false, false, false, false, false] rfl rfl (by kernel_rfl) (fun _ _ _ h => h) (Or.inl ⟨by rfl, ?_⟩) ?_ ?_
      rotate_left
      · intro w'
        go_simp
        with_reducible rfl
      rotate_left
      · simp only [Act.put, List.setIfInBounds_toArray, List.set_cons_zero, List.set_cons_succ, i64_w, i32_w]
        rfl
      refine take_ (i := 10) (N := some 144) (v := ?_) (a' := ?_) #[true, true, true, true, true, true, true, true, true, true, true, true, false, false, false, false, false] rfl rfl (by kernel_rfl) (fun _ _ _ h => h) (Or.inl ⟨by rfl, ?_⟩) hHeld ?_ ?_
      rotate_left
      · rintro w' ⟨s0, s1, s2⟩
        go_simp
        with_reducible rfl
      rotate_left
      · simp only [Act.put, List.setIfInBounds_toArray, List.set_cons_zero, List.set_cons_succ, i64_w, i32_w]
        rfl
      refine take_ (i := 12) (N := some 146) (v := ?_) (a' := ?_) #[true, true, true, true, true, true, true, true, true, true, true, true, true, false, false, false, false] rfl rfl (by kernel_rfl) (fun _ _ _ h => h) (Or.inl ⟨by rfl, ?_⟩) hHeld ?_ ?_
      rotate_left
      · rintro w' ⟨s0, s1, s2⟩
        go_simp
        with_reducible rfl
      rotate_left
      · simp only [Act.put, List.setIfInBounds_toArray, List.set_cons_zero, List.set_cons_succ, i64_w, i32_w]
        rfl
      refine pure_ (i := 13) (N := some 147) (v := ?_) (a' := ?_) #[true, true, true, true, true, true, true, true, true, true, true, true, true, true, false, false, false] rfl rfl (by kernel_rfl) (fun _ _ _ h => h) (Or.inl ⟨by rfl, ?_⟩) ?_ ?_
      rotate_left
      · intro w'
        go_simp
        with_reducible rfl
      rotate_left
      · simp only [Act.put, List.setIfInBounds_toArray, List.set_cons_zero, List.set_cons_succ, i64_w, i32_w]
        rfl
      refine pure_ (i := 14) (N := some 148) (v := ?_) (a' := ?_) #[true, true, true, true, true, true, true, true, true, true, true, true, true, true, true, false, false] rfl rfl (by kernel_rfl) (fun _ _ _ h => h) (Or.inl ⟨by rfl, ?_⟩) ?_ ?_
      rotate_left
      · intro w'
        go_simp
        with_reducible rfl
      rotate_left
      · simp only [Act.put, List.setIfInBounds_toArray, List.set_cons_zero, List.set_cons_succ, i64_w, i32_w]
        rfl
      refine last_ (i := 15) (N := none) #[true, true, true, true, true, true, true, true, true, true, true, true, true, true, true, true, false] rfl rfl (by kernel_rfl) (by decide) (fun K hK => ?_)
      refine skip_ (w1 := ?_) (by rfl) rfl ?_ ?_
      rotate_left
      · go_simp
        rfl
      refine hK.out _ _ ?_
      clear hK K
      refine pure_ (i := 16) (N := some 5) (v := ?_) (a' := ?_) #[true, true, true, true, true, true, true, true, true, true, true, true, true, true, true, true, true] rfl rfl (by kernel_rfl) (fun _ _ _ h => h) (Or.inl ⟨by rfl, ?_⟩) ?_ ?_
      rotate_left
      · intro w'
        go_simp
        with_reducible rfl
      rotate_left
      · simp only [Act.put, List.setIfInBounds_toArray, List.set_cons_zero, List.set_cons_succ, i64_w, i32_w]
        rfl
      refine done_ (by kernel_rfl) ?_

      go_wp2
      have E : proc g s (sumsq l0) = ({ state := 0, blocks := s.blocks + 1, run := 0, start := s.start, free := s.blocks - g.fall + 1 }, some ⟨s.start * g.block, (s.blocks - g.fall + 1) * g.block⟩) := by
        unfold proc
        rw [if_neg HS.out, ← HQ.out, ← HR.out, if_pos HE.out]
      refine bodyPost_ret (results_ct rfl _ _ g4 65 #[.int .i64 (s.start * g.block), .int .i64 ((s.blocks - g.fall + 1) * g.block)] (0, 0) _ rfl (by (with_reducible repeat (first | refine blk_drewN ?_ _ | refine blk_drew ?_ | refine blk_alloc ?_ _)); refine blk_put (cs := #[.int .i64 (s.start * g.block), .int .i64 0]) ?_ 1 _ rfl; (with_reducible repeat (first | refine blk_drewN ?_ _ | refine blk_drew ?_ | refine blk_alloc ?_ _)); refine blk_put (cs := #[.int .i64 0, .int .i64 0]) ?_ 0 _ rfl; (with_reducible repeat (first | refine blk_drewN ?_ _ | refine blk_drew ?_ | refine blk_alloc ?_ _)); exact BKg4.out) Try.underlying65 rfl (by kernel_rfl)) rfl ?_
      unfold ProcPost
      rw [E]
      refine ⟨rfl, ?_, ?_, ?_⟩
      · show _ = some (Obj.cells #[.int .i64 g.block, .int .i64 g.high, .int .i64 g.low, .int .i64 g.rise, .int .i64 g.fall, .int .i64 g.lead, .int .i64 g.longest, .bool true, .int .i64 0, .slice Ab nb cb, .int .i64 (s.blocks + 1), .int .i64 smp, .int .i64 0, .int .i64 s.start, .int .i64 (s.blocks - g.fall + 1)] 71 (0, 0))
        exact (by (with_reducible repeat (first | refine blk_drewN ?_ _ | refine blk_drew ?_ | refine blk_alloc ?_ _)); refine blk_far ?_ NBb_g4.out _; (with_reducible repeat (first | refine blk_drewN ?_ _ | refine blk_drew ?_ | refine blk_alloc ?_ _)); refine blk_far ?_ NBb_g4.out _; (with_reducible repeat (first | refine blk_drewN ?_ _ | refine blk_drew ?_ | refine blk_alloc ?_ _)); exact BKb.out)
      · exact (by repeat (first | (with_reducible first | exact HB.out | apply below_alloc | apply pw_below_drewN | apply below_drew1 | refine below_set ?_ GEb.out | refine below_set ?_ GEg4.out | refine below_set ?_ GEg6.out) | exact HB.out))
      · exact (by repeat (first | exact HK.out | apply KeepBut.set_ | apply keep_drewN | apply keep_drew | apply keep_alloc | refine keep_far ?_ GWg4.out _ | refine keep_far ?_ GWg6.out _))
    · have HE := Aside0.mk hr
      have q1 : (r == g.fall) = false := beq_eq_false_iff_ne.2 hr
      clear hr
      have pa : IntKind.i64.wrap (s.blocks - s.start) = s.blocks - s.start := IntWalk.i64_in _ (by omega)
      have pb : IntKind.i64.wrap (s.blocks - s.start + 1) = s.blocks - s.start + 1 := IntWalk.i64_in _ (by omega)
      go_wp2_with fail
      go_quiet (fail)
      clear pa pb
      have z0_ := Aside0.mk (show Below w0.heap.size w0 (w10.drewN nq) from (by repeat (first | (with_reducible first | exact HB.out | apply below_alloc | apply pw_below_drewN | apply below_drew1 | refine below_set ?_ GEb.out | refine below_set ?_ GEg4.out | refine below_set ?_ GEg6.out) | exact HB.out)))
      have z1_ := Aside0.mk (show KeepBut w (w10.drewN nq) b none from (by repeat (first | exact HK.out | apply KeepBut.set_ | apply keep_drewN | apply keep_drew | apply keep_alloc | refine keep_far ?_ GWg4.out _ | refine keep_far ?_ GWg6.out _)))
      have z2_ := Aside0.mk (show (w10.drewN nq).heap[b]? = some (.cells #[.int .i64 g.block, .int .i64 g.high, .int .i64 g.low, .int .i64 g.rise, .int .i64 g.fall, .int .i64 g.lead, .int .i64 g.longest, .bool true, .int .i64 s.state, .slice Ab nb cb, .int .i64 (s.blocks + 1), .int .i64 smp, .int .i64 r, .int .i64 s.start, .int .i64 s.free] 71 (0, 0)) from (by (with_reducible repeat (first | refine blk_drewN ?_ _ | refine blk_drew ?_ | refine blk_alloc ?_ _)); exact BKb.out))
      have z3_ := Aside0.mk (show (w10.drewN nq).heap[g4]? = some (.cells #[.int .i64 0, .int .i64 0] 65 (0, 0)) from (by (with_reducible repeat (first | refine blk_drewN ?_ _ | refine blk_drew ?_ | refine blk_alloc ?_ _)); exact BKg4.out))
      have z4_ := Aside0.mk (show (w10.drewN nq).heap[g6]? = some (.cells #[.int .i64 g.block, .int .i64 g.high, .int .i64 g.low, .int .i64 g.rise, .int .i64 g.fall, .int .i64 g.lead, .int .i64 g.longest] 41 (0, 0)) from (by (with_reducible repeat (first | refine blk_drewN ?_ _ | refine blk_drew ?_ | refine blk_alloc ?_ _)); exact BKg6.out))
      clear HB HK BKb BKg4 BKg6
      have HB := z0_
      have HK := z1_
      have BKb := z2_
      have BKg4 := z3_
      have BKg6 := z4_
      clear z0_ z1_ z2_ z3_ z4_
      generalize w10.drewN nq = w15 at HB HK BKb BKg4 BKg6 ⊢
      have hc139 : w15.cell? ⟨b, 0, none⟩ = some (.int .i64 g.block) := (blk_cell BKb.out 0).trans rfl
      have hf139 := blk_frozen BKb.out 0
      have hc140 : w15.cell? ⟨b, 1, none⟩ = some (.int .i64 g.high) := (blk_cell BKb.out 1).trans rfl
      have hf140 := blk_frozen BKb.out 1
      have hc141 : w15.cell? ⟨b, 2, none⟩ = some (.int .i64 g.low) := (blk_cell BKb.out 2).trans rfl
      have hf141 := blk_frozen BKb.out 2
      have hc142 : w15.cell? ⟨b, 3, none⟩ = some (.int .i64 g.rise) := (blk_cell BKb.out 3).trans rfl
      have hf142 := blk_frozen BKb.out 3
      have hc143 : w15.cell? ⟨b, 4, none⟩ = some (.int .i64 g.fall) := (blk_cell BKb.out 4).trans rfl
      have hf143 := blk_frozen BKb.out 4
      have hc144 : w15.cell? ⟨b, 5, none⟩ = some (.int .i64 g.lead) := (blk_cell BKb.out 5).trans rfl
      have hf144 := blk_frozen BKb.out 5
      have hc145 : w15.cell? ⟨b, 6, none⟩ = some (.int .i64 g.longest) := (blk_cell BKb.out 6).trans rfl
      have hf145 := blk_frozen BKb.out 6
      have hc146 : w15.cell? ⟨b, 7, none⟩ = some (.bool true) := (blk_cell BKb.out 7).trans rfl
      have hf146 := blk_frozen BKb.out 7
      have hc147 : w15.cell? ⟨b, 8, none⟩ = some (.int .i64 s.state) := (blk_cell BKb.out 8).trans rfl
      have hf147 := blk_frozen BKb.out 8
      have hc148 : w15.cell? ⟨b, 9, none⟩ = some (.slice Ab nb cb) := (blk_cell BKb.out 9).trans rfl
      have hf148 := blk_frozen BKb.out 9
      have hc149 : w15.cell? ⟨b, 10, none⟩ = some (.int .i64 (s.blocks + 1)) := (blk_cell BKb.out 10).trans rfl
      have hf149 := blk_frozen BKb.out 10
      have hc150 : w15.cell? ⟨b, 11, none⟩ = some (.int .i64 smp) := (blk_cell BKb.out 11).trans rfl
      have hf150 := blk_frozen BKb.out 11
      have hc151 : w15.cell? ⟨b, 12, none⟩ = some (.int .i64 r) := (blk_cell BKb.out 12).trans rfl
      have hf151 := blk_frozen BKb.out 12
      have hc152 : w15.cell? ⟨b, 13, none⟩ = some (.int .i64 s.start) := (blk_cell BKb.out 13).trans rfl
      have hf152 := blk_frozen BKb.out 13
      have hc153 : w15.cell? ⟨b, 14, none⟩ = some (.int .i64 s.free) := (blk_cell BKb.out 14).trans rfl
      have hf153 := blk_frozen BKb.out 14
      have hc154 : w15.cell? ⟨g4, 0, none⟩ = some (.int .i64 0) := (blk_cell BKg4.out 0).trans rfl
      have hf154 := blk_frozen BKg4.out 0
      have hc155 : w15.cell? ⟨g4, 1, none⟩ = some (.int .i64 0) := (blk_cell BKg4.out 1).trans rfl
      have hf155 := blk_frozen BKg4.out 1
      have hc156 : w15.cell? ⟨g6, 0, none⟩ = some (.int .i64 g.block) := (blk_cell BKg6.out 0).trans rfl
      have hf156 := blk_frozen BKg6.out 0
      have hc157 : w15.cell? ⟨g6, 1, none⟩ = some (.int .i64 g.high) := (blk_cell BKg6.out 1).trans rfl
      have hf157 := blk_frozen BKg6.out 1
      have hc158 : w15.cell? ⟨g6, 2, none⟩ = some (.int .i64 g.low) := (blk_cell BKg6.out 2).trans rfl
      have hf158 := blk_frozen BKg6.out 2
      have hc159 : w15.cell? ⟨g6, 3, none⟩ = some (.int .i64 g.rise) := (blk_cell BKg6.out 3).trans rfl
      have hf159 := blk_frozen BKg6.out 3
      have hc160 : w15.cell? ⟨g6, 4, none⟩ = some (.int .i64 g.fall) := (blk_cell BKg6.out 4).trans rfl
      have hf160 := blk_frozen BKg6.out 4
      have hc161 : w15.cell? ⟨g6, 5, none⟩ = some (.int .i64 g.lead) := (blk_cell BKg6.out 5).trans rfl
      have hf161 := blk_frozen BKg6.out 5
      have hc162 : w15.cell? ⟨g6, 6, none⟩ = some (.int .i64 g.longest) := (blk_cell BKg6.out 6).trans rfl
      have hf162 := blk_frozen BKg6.out 6
      by_cases hn : s.blocks - s.start + 1 = g.longest
      · have HN := Aside0.mk hn
        have q2 : (s.blocks - s.start + 1 == g.longest) = true := beq_iff_eq.2 hn
        clear hn
        go_wp2_with fail
        have z0_ := Aside0.mk (show Below w0.heap.size w0 (((w15.setCell ⟨b, 14, none⟩ (.int .i64 (s.blocks + 1))).setCell ⟨b, 8, none⟩ (.int .i64 0)).setCell ⟨b, 12, none⟩ (.int .i64 0)) from (by repeat (first | (with_reducible first | exact HB.out | apply below_alloc | apply pw_below_drewN | apply below_drew1 | refine below_set ?_ GEb.out | refine below_set ?_ GEg4.out | refine below_set ?_ GEg6.out) | exact HB.out)))
        have z1_ := Aside0.mk (show KeepBut w (((w15.setCell ⟨b, 14, none⟩ (.int .i64 (s.blocks + 1))).setCell ⟨b, 8, none⟩ (.int .i64 0)).setCell ⟨b, 12, none⟩ (.int .i64 0)) b none from (by repeat (first | exact HK.out | apply KeepBut.set_ | apply keep_drewN | apply keep_drew | apply keep_alloc | refine keep_far ?_ GWg4.out _ | refine keep_far ?_ GWg6.out _)))
        have z2_ := Aside0.mk (show (((w15.setCell ⟨b, 14, none⟩ (.int .i64 (s.blocks + 1))).setCell ⟨b, 8, none⟩ (.int .i64 0)).setCell ⟨b, 12, none⟩ (.int .i64 0)).heap[b]? = some (.cells #[.int .i64 g.block, .int .i64 g.high, .int .i64 g.low, .int .i64 g.rise, .int .i64 g.fall, .int .i64 g.lead, .int .i64 g.longest, .bool true, .int .i64 0, .slice Ab nb cb, .int .i64 (s.blocks + 1), .int .i64 smp, .int .i64 0, .int .i64 s.start, .int .i64 (s.blocks + 1)] 71 (0, 0)) from (by (with_reducible repeat (first | refine blk_drewN ?_ _ | refine blk_drew ?_ | refine blk_alloc ?_ _)); refine blk_put (cs := #[.int .i64 g.block, .int .i64 g.high, .int .i64 g.low, .int .i64 g.rise, .int .i64 g.fall, .int .i64 g.lead, .int .i64 g.longest, .bool true, .int .i64 0, .slice Ab nb cb, .int .i64 (s.blocks + 1), .int .i64 smp, .int .i64 r, .int .i64 s.start, .int .i64 (s.blocks + 1)]) ?_ 12 _ rfl; (with_reducible repeat (first | refine blk_drewN ?_ _ | refine blk_drew ?_ | refine blk_alloc ?_ _)); refine blk_put (cs := #[.int .i64 g.block, .int .i64 g.high, .int .i64 g.low, .int .i64 g.rise, .int .i64 g.fall, .int .i64 g.lead, .int .i64 g.longest, .bool true, .int .i64 s.state, .slice Ab nb cb, .int .i64 (s.blocks + 1), .int .i64 smp, .int .i64 r, .int .i64 s.start, .int .i64 (s.blocks + 1)]) ?_ 8 _ rfl; (with_reducible repeat (first | refine blk_drewN ?_ _ | refine blk_drew ?_ | refine blk_alloc ?_ _)); refine blk_put (cs := #[.int .i64 g.block, .int .i64 g.high, .int .i64 g.low, .int .i64 g.rise, .int .i64 g.fall, .int .i64 g.lead, .int .i64 g.longest, .bool true, .int .i64 s.state, .slice Ab nb cb, .int .i64 (s.blocks + 1), .int .i64 smp, .int .i64 r, .int .i64 s.start, .int .i64 s.free]) ?_ 14 _ rfl; (with_reducible repeat (first | refine blk_drewN ?_ _ | refine blk_drew ?_ | refine blk_alloc ?_ _)); exact BKb.out))
        have z3_ := Aside0.mk (show (((w15.setCell ⟨b, 14, none⟩ (.int .i64 (s.blocks + 1))).setCell ⟨b, 8, none⟩ (.int .i64 0)).setCell ⟨b, 12, none⟩ (.int .i64 0)).heap[g4]? = some (.cells #[.int .i64 0, .int .i64 0] 65 (0, 0)) from (by (with_reducible repeat (first | refine blk_drewN ?_ _ | refine blk_drew ?_ | refine blk_alloc ?_ _)); refine blk_far ?_ NBg4_b.out _; (with_reducible repeat (first | refine blk_drewN ?_ _ | refine blk_drew ?_ | refine blk_alloc ?_ _)); refine blk_far ?_ NBg4_b.out _; (with_reducible repeat (first | refine blk_drewN ?_ _ | refine blk_drew ?_ | refine blk_alloc ?_ _)); refine blk_far ?_ NBg4_b.out _; (with_reducible repeat (first | refine blk_drewN ?_ _ | refine blk_drew ?_ | refine blk_alloc ?_ _)); exact BKg4.out))
        have z4_ := Aside0.mk (show (((w15.setCell ⟨b, 14, none⟩ (.int .i64 (s.blocks + 1))).setCell ⟨b, 8, none⟩ (.int .i64 0)).setCell ⟨b, 12, none⟩ (.int .i64 0)).heap[g6]? = some (.cells #[.int .i64 g.block, .int .i64 g.high, .int .i64 g.low, .int .i64 g.rise, .int .i64 g.fall, .int .i64 g.lead, .int .i64 g.longest] 41 (0, 0)) from (by (with_reducible repeat (first | refine blk_drewN ?_ _ | refine blk_drew ?_ | refine blk_alloc ?_ _)); refine blk_far ?_ NBg6_b.out _; (with_reducible repeat (first | refine blk_drewN ?_ _ | refine blk_drew ?_ | refine blk_alloc ?_ _)); refine blk_far ?_ NBg6_b.out _; (with_reducible repeat (first | refine blk_drewN ?_ _ | refine blk_drew ?_ | refine blk_alloc ?_ _)); refine blk_far ?_ NBg6_b.out _; (with_reducible repeat (first | refine blk_drewN ?_ _ | refine blk_drew ?_ | refine blk_alloc ?_ _)); exact BKg6.out))
        clear HB HK BKb BKg4 BKg6
        have HB := z0_
        have HK := z1_
        have BKb := z2_
        have BKg4 := z3_
        have BKg6 := z4_
        clear z0_ z1_ z2_ z3_ z4_
        generalize ((w15.setCell ⟨b, 14, none⟩ (.int .i64 (s.blocks + 1))).setCell ⟨b, 8, none⟩ (.int .i64 0)).setCell ⟨b, 12, none⟩ (.int .i64 0) = w13 at HB HK BKb BKg4 BKg6 ⊢
        have hc163 : w13.cell? ⟨b, 0, none⟩ = some (.int .i64 g.block) := (blk_cell BKb.out 0).trans rfl
        have hf163 := blk_frozen BKb.out 0
        have hc164 : w13.cell? ⟨b, 1, none⟩ = some (.int .i64 g.high) := (blk_cell BKb.out 1).trans rfl
        have hf164 := blk_frozen BKb.out 1
        have hc165 : w13.cell? ⟨b, 2, none⟩ = some (.int .i64 g.low) := (blk_cell BKb.out 2).trans rfl
        have hf165 := blk_frozen BKb.out 2
        have hc166 : w13.cell? ⟨b, 3, none⟩ = some (.int .i64 g.rise) := (blk_cell BKb.out 3).trans rfl
        have hf166 := blk_frozen BKb.out 3
        have hc167 : w13.cell? ⟨b, 4, none⟩ = some (.int .i64 g.fall) := (blk_cell BKb.out 4).trans rfl
        have hf167 := blk_frozen BKb.out 4
        have hc168 : w13.cell? ⟨b, 5, none⟩ = some (.int .i64 g.lead) := (blk_cell BKb.out 5).trans rfl
        have hf168 := blk_frozen BKb.out 5
        have hc169 : w13.cell? ⟨b, 6, none⟩ = some (.int .i64 g.longest) := (blk_cell BKb.out 6).trans rfl
        have hf169 := blk_frozen BKb.out 6
        have hc170 : w13.cell? ⟨b, 7, none⟩ = some (.bool true) := (blk_cell BKb.out 7).trans rfl
        have hf170 := blk_frozen BKb.out 7
        have hc171 : w13.cell? ⟨b, 8, none⟩ = some (.int .i64 0) := (blk_cell BKb.out 8).trans rfl
        have hf171 := blk_frozen BKb.out 8
        have hc172 : w13.cell? ⟨b, 9, none⟩ = some (.slice Ab nb cb) := (blk_cell BKb.out 9).trans rfl
        have hf172 := blk_frozen BKb.out 9
        have hc173 : w13.cell? ⟨b, 10, none⟩ = some (.int .i64 (s.blocks + 1)) := (blk_cell BKb.out 10).trans rfl
        have hf173 := blk_frozen BKb.out 10
        have hc174 : w13.cell? ⟨b, 11, none⟩ = some (.int .i64 smp) := (blk_cell BKb.out 11).trans rfl
        have hf174 := blk_frozen BKb.out 11
        have hc175 : w13.cell? ⟨b, 12, none⟩ = some (.int .i64 0) := (blk_cell BKb.out 12).trans rfl
        have hf175 := blk_frozen BKb.out 12
        have hc176 : w13.cell? ⟨b, 13, none⟩ = some (.int .i64 s.start) := (blk_cell BKb.out 13).trans rfl
        have hf176 := blk_frozen BKb.out 13
        have hc177 : w13.cell? ⟨b, 14, none⟩ = some (.int .i64 (s.blocks + 1)) := (blk_cell BKb.out 14).trans rfl
        have hf177 := blk_frozen BKb.out 14
        have hc178 : w13.cell? ⟨g4, 0, none⟩ = some (.int .i64 0) := (blk_cell BKg4.out 0).trans rfl
        have hf178 := blk_frozen BKg4.out 0
        have hc179 : w13.cell? ⟨g4, 1, none⟩ = some (.int .i64 0) := (blk_cell BKg4.out 1).trans rfl
        have hf179 := blk_frozen BKg4.out 1
        have hc180 : w13.cell? ⟨g6, 0, none⟩ = some (.int .i64 g.block) := (blk_cell BKg6.out 0).trans rfl
        have hf180 := blk_frozen BKg6.out 0
        have hc181 : w13.cell? ⟨g6, 1, none⟩ = some (.int .i64 g.high) := (blk_cell BKg6.out 1).trans rfl
        have hf181 := blk_frozen BKg6.out 1
        have hc182 : w13.cell? ⟨g6, 2, none⟩ = some (.int .i64 g.low) := (blk_cell BKg6.out 2).trans rfl
        have hf182 := blk_frozen BKg6.out 2
        have hc183 : w13.cell? ⟨g6, 3, none⟩ = some (.int .i64 g.rise) := (blk_cell BKg6.out 3).trans rfl
        have hf183 := blk_frozen BKg6.out 3
        have hc184 : w13.cell? ⟨g6, 4, none⟩ = some (.int .i64 g.fall) := (blk_cell BKg6.out 4).trans rfl
        have hf184 := blk_frozen BKg6.out 4
        have hc185 : w13.cell? ⟨g6, 5, none⟩ = some (.int .i64 g.lead) := (blk_cell BKg6.out 5).trans rfl
        have hf185 := blk_frozen BKg6.out 5
        have hc186 : w13.cell? ⟨g6, 6, none⟩ = some (.int .i64 g.longest) := (blk_cell BKg6.out 6).trans rfl
        have hf186 := blk_frozen BKg6.out 6
        have pe := mul_in (show 0 ≤ s.blocks + 1 by omega) (show s.blocks + 1 ≤ 4294967297 by omega) (show 0 ≤ g.block by omega) gb2
        have pe1 := pe.1
        have pe2 := pe.2
        clear pe
        have pf1 : IntKind.i64.wrap (s.start * g.block) = s.start * g.block := IntWalk.i64_in _ (by omega)
        have pf2 : IntKind.i64.wrap ((s.blocks + 1) * g.block) = (s.blocks + 1) * g.block := IntWalk.i64_in _ (by omega)
        have BKb := Aside0.mk (blk_drew BKb.out)
        have BKg4 := Aside0.mk (blk_drew BKg4.out)
        have BKg6 := Aside0.mk (blk_drew BKg6.out)
        have HB := Aside0.mk (below_drew1 HB.out)
        have HK := Aside0.mk (keep_drew HK.out)
        have hp0 : w13.drew.cell? ⟨b, 13, none⟩ = some (.int .i64 s.start) := (blk_cell BKb.out 13).trans rfl
        have hp1 : w13.drew.cell? ⟨g6, 0, none⟩ = some (.int .i64 g.block) := (blk_cell BKg6.out 0).trans rfl
        have hp2 : w13.drew.cell? ⟨b, 14, none⟩ = some (.int .i64 (s.blocks + 1)) := (blk_cell BKb.out 14).trans rfl
        refine start_ (n := 17) (S := fun w' => w'.cell? ⟨b, 13, none⟩ = some (.int .i64 s.start) ∧ w'.cell? ⟨g6, 0, none⟩ = some (.int .i64 g.block) ∧ w'.cell? ⟨b, 14, none⟩ = some (.int .i64 (s.blocks + 1))) (ds := [15]) #[false, false, false, false, false, false, false, false, false, false, false, false, false, false, false, false, false] (by kernel_rfl) rfl rfl ⟨hp0, hp1, hp2⟩ (fun hHeld => ?_)
        generalize w13.drew = w14 at BKb BKg4 BKg6 HB HK hHeld ⊢
        have hc187 : w14.cell? ⟨g4, 0, none⟩ = some (.int .i64 0) := (blk_cell BKg4.out 0).trans rfl
        have hf187 := blk_frozen BKg4.out 0
        have hc188 : w14.cell? ⟨g4, 1, none⟩ = some (.int .i64 0) := (blk_cell BKg4.out 1).trans rfl
        have hf188 := blk_frozen BKg4.out 1
        refine pure_ (i := 0) (N := some 134) (v := ?_) (a' := ?_) #[true, false, false, false, false, false, false, false, false, false, false, false, false, false, false, false, false] rfl rfl (by kernel_rfl) (fun _ _ _ h => h) (Or.inl ⟨by rfl, ?_⟩) ?_ ?_
        rotate_left
        · intro w'
          go_simp
          with_reducible rfl
        rotate_left
        · simp only [Act.put, List.setIfInBounds_toArray, List.set_cons_zero, List.set_cons_succ, i64_w, i32_w]
          rfl
        refine pure_ (i := 1) (N := some 135) (v := ?_) (a' := ?_) #[true, true, false, false, false, false, false, false, false, false, false, false, false, false, false, false, false] rfl rfl (by kernel_rfl) (fun _ _ _ h => h) (Or.inl ⟨by rfl, ?_⟩) ?_ ?_
        rotate_left
        · intro w'
          go_simp
          with_reducible rfl
        rotate_left
        · simp only [Act.put, List.setIfInBounds_toArray, List.set_cons_zero, List.set_cons_succ, i64_w, i32_w]
          rfl
        refine pure_ (i := 2) (N := some 136) (v := ?_) (a' := ?_) #[true, true, true, false, false, false, false, false, false, false, false, false, false, false, false, false, false] rfl rfl (by kernel_rfl) (fun _ _ _ h => h) (Or.inl ⟨by rfl, ?_⟩) ?_ ?_
        rotate_left
        · intro w'
          go_simp
          with_reducible rfl
        rotate_left
        · simp only [Act.put, List.setIfInBounds_toArray, List.set_cons_zero, List.set_cons_succ, i64_w, i32_w]
          rfl
        refine pure_ (i := 4) (N := some 138) (v := ?_) (a' := ?_) #[true, true, true, false, true, false, false, false, false, false, false, false, false, false, false, false, false] rfl rfl (by kernel_rfl) (fun _ _ _ h => h) (Or.inl ⟨by rfl, ?_⟩) ?_ ?_
        rotate_left
        · intro w'
          go_simp
          with_reducible rfl
        rotate_left
        · simp only [Act.put, List.setIfInBounds_toArray, List.set_cons_zero, List.set_cons_succ, i64_w, i32_w]
          rfl
        refine pure_ (i := 7) (N := some 141) (v := ?_) (a' := ?_) #[true, true, true, false, true, false, false, true, false, false, false, false, false, false, false, false, false] rfl rfl (by kernel_rfl) (fun _ _ _ h => h) (Or.inl ⟨by rfl, ?_⟩) ?_ ?_
        rotate_left
        · intro w'
          go_simp
          with_reducible rfl
        rotate_left
        · simp only [Act.put, List.setIfInBounds_toArray, List.set_cons_zero, List.set_cons_succ, i64_w, i32_w]
          rfl
        refine pure_ (i := 8) (N := some 142) (v := ?_) (a' := ?_) #[true, true, true, false, true, false, false, true, true, false, false, false, false, false, false, false, false] rfl rfl (by kernel_rfl) (fun _ _ _ h => h) (Or.inl ⟨by rfl, ?_⟩) ?_ ?_
        rotate_left
        · intro w'
          go_simp
          with_reducible rfl
        rotate_left
        · simp only [Act.put, List.setIfInBounds_toArray, List.set_cons_zero, List.set_cons_succ, i64_w, i32_w]
          rfl
        refine pure_ (i := 9) (N := some 143) (v := ?_) (a' := ?_) #[true, true, true, false, true, false, false, true, true, true, false, false, false, false, false, false, false] rfl rfl (by kernel_rfl) (fun _ _ _ h => h) (Or.inl ⟨by rfl, ?_⟩) ?_ ?_
        rotate_left
        · intro w'
          go_simp
          with_reducible rfl
        rotate_left
        · simp only [Act.put, List.setIfInBounds_toArray, List.set_cons_zero, List.set_cons_succ, i64_w, i32_w]
          rfl
        refine pure_ (i := 11) (N := some 145) (v := ?_) (a' := ?_) #[true, true, true, false, true, false, false, true, true, true, false, true, false, false, false, false, false] rfl rfl (by kernel_rfl) (fun _ _ _ h => h) (Or.inl ⟨by rfl, ?_⟩) ?_ ?_
        rotate_left
        · intro w'
          go_simp
          with_reducible rfl
        rotate_left
        · simp only [Act.put, List.setIfInBounds_toArray, List.set_cons_zero, List.set_cons_succ, i64_w, i32_w]
          rfl
        refine take_ (i := 3) (N := some 137) (v := ?_) (a' := ?_) #[true, true, true, true, true, false, false, true, true, true, false, true, false, false, false, false, false] rfl rfl (by kernel_rfl) (fun _ _ _ h => h) (Or.inl ⟨by rfl, ?_⟩) hHeld ?_ ?_
        rotate_left
        · rintro w' ⟨s0, s1, s2⟩
          go_simp
          with_reducible rfl
        rotate_left
        · simp only [Act.put, List.setIfInBounds_toArray, List.set_cons_zero, List.set_cons_succ, i64_w, i32_w]
          rfl
        refine take_ (i := 5) (N := some 139) (v := ?_) (a' := ?_) #[true, true, true, true, true, true, false, true, true, true, false, true, false, false, false, false, false] rfl rfl (by kernel_rfl) (fun _ _ _ h => h) (Or.inl ⟨by rfl, ?_⟩) hHeld ?_ ?_
        rotate_left
        · rintro w' ⟨s0, s1, s2⟩
          go_simp
          with_reducible rfl
        rotate_left
        · simp only [Act.put, List.setIfInBounds_toArray, List.set_cons_zero, List.set_cons_succ, i64_w, i32_w]
          rfl
        refine pure_ (i := 6) (N := some 140) (v := ?_) (a' := ?_) #[true, true, true, true, true, true, true, true, true, true, false, true, false, false, false, false, false] rfl rfl (by kernel_rfl) (fun _ _ _ h => h) (Or.inl ⟨by rfl, ?_⟩) ?_ ?_
        rotate_left
        · intro w'
          go_simp
          with_reducible rfl
        rotate_left
        · simp only [Act.put, List.setIfInBounds_toArray, List.set_cons_zero, List.set_cons_succ, i64_w, i32_w]
          rfl
        refine take_ (i := 10) (N := some 144) (v := ?_) (a' := ?_) #[true, true, true, true, true, true, true, true, true, true, true, true, false, false, false, false, false] rfl rfl (by kernel_rfl) (fun _ _ _ h => h) (Or.inl ⟨by rfl, ?_⟩) hHeld ?_ ?_
        rotate_left
        · rintro w' ⟨s0, s1, s2⟩
          go_simp
          with_reducible rfl
        rotate_left
        · simp only [Act.put, List.setIfInBounds_toArray, List.set_cons_zero, List.set_cons_succ, i64_w, i32_w]
          rfl
        refine take_ (i := 12) (N := some 146) (v := ?_) (a' := ?_) #[true, true, true, true, true, true, true, true, true, true, true, true, true, false, false, false, false] rfl rfl (by kernel_rfl) (fun _ _ _ h => h) (Or.inl ⟨by rfl, ?_⟩) hHeld ?_ ?_
        rotate_left
        · rintro w' ⟨s0, s1, s2⟩
          go_simp
          with_reducible rfl
        rotate_left
        · simp only [Act.put, List.setIfInBounds_toArray, List.set_cons_zero, List.set_cons_succ, i64_w, i32_w]
          rfl
        refine pure_ (i := 13) (N := some 147) (v := ?_) (a' := ?_) #[true, true, true, true, true, true, true, true, true, true, true, true, true, true, false, false, false] rfl rfl (by kernel_rfl) (fun _ _ _ h => h) (Or.inl ⟨by rfl, ?_⟩) ?_ ?_
        rotate_left
        · intro w'
          go_simp
          with_reducible rfl
        rotate_left
        · simp only [Act.put, List.setIfInBounds_toArray, List.set_cons_zero, List.set_cons_succ, i64_w, i32_w]
          rfl
        refine pure_ (i := 14) (N := some 148) (v := ?_) (a' := ?_) #[true, true, true, true, true, true, true, true, true, true, true, true, true, true, true, false, false] rfl rfl (by kernel_rfl) (fun _ _ _ h => h) (Or.inl ⟨by rfl, ?_⟩) ?_ ?_
        rotate_left
        · intro w'
          go_simp
          with_reducible rfl
        rotate_left
        · simp only [Act.put, List.setIfInBounds_toArray, List.set_cons_zero, List.set_cons_succ, i64_w, i32_w]
          rfl
        refine last_ (i := 15) (N := none) #[true, true, true, true, true, true, true, true, true, true, true, true, true, true, true, true, false] rfl rfl (by kernel_rfl) (by decide) (fun K hK => ?_)
        refine skip_ (w1 := ?_) (by rfl) rfl ?_ ?_
        rotate_left
        · go_simp
          rfl
        refine hK.out _ _ ?_
        clear hK K
        refine pure_ (i := 16) (N := some 5) (v := ?_) (a' := ?_) #[true, true, true, true, true, true, true, true, true, true, true, true, true, true, true, true, true] rfl rfl (by kernel_rfl) (fun _ _ _ h => h) (Or.inl ⟨by rfl, ?_⟩) ?_ ?_
        rotate_left
        · intro w'
          go_simp
          with_reducible rfl
        rotate_left
        · simp only [Act.put, List.setIfInBounds_toArray, List.set_cons_zero, List.set_cons_succ, i64_w, i32_w]
          rfl
        refine done_ (by kernel_rfl) ?_

        go_wp2
        have E : proc g s (sumsq l0) = ({ state := 0, blocks := s.blocks + 1, run := 0, start := s.start, free := s.blocks + 1 }, some ⟨s.start * g.block, (s.blocks + 1) * g.block⟩) := by
          unfold proc
          rw [if_neg HS.out, ← HQ.out, ← HR.out, if_neg HE.out, if_pos HN.out]
        refine bodyPost_ret (results_ct rfl _ _ g4 65 #[.int .i64 (s.start * g.block), .int .i64 ((s.blocks + 1) * g.block)] (0, 0) _ rfl (by (with_reducible repeat (first | refine blk_drewN ?_ _ | refine blk_drew ?_ | refine blk_alloc ?_ _)); refine blk_put (cs := #[.int .i64 (s.start * g.block), .int .i64 0]) ?_ 1 _ rfl; (with_reducible repeat (first | refine blk_drewN ?_ _ | refine blk_drew ?_ | refine blk_alloc ?_ _)); refine blk_put (cs := #[.int .i64 0, .int .i64 0]) ?_ 0 _ rfl; (with_reducible repeat (first | refine blk_drewN ?_ _ | refine blk_drew ?_ | refine blk_alloc ?_ _)); exact BKg4.out) Try.underlying65 rfl (by kernel_rfl)) rfl ?_
        unfold ProcPost
        rw [E]
        refine ⟨rfl, ?_, ?_, ?_⟩
        · show _ = some (Obj.cells #[.int .i64 g.block, .int .i64 g.high, .int .i64 g.low, .int .i64 g.rise, .int .i64 g.fall, .int .i64 g.lead, .int .i64 g.longest, .bool true, .int .i64 0, .slice Ab nb cb, .int .i64 (s.blocks + 1), .int .i64 smp, .int .i64 0, .int .i64 s.start, .int .i64 (s.blocks + 1)] 71 (0, 0))
          exact (by (with_reducible repeat (first | refine blk_drewN ?_ _ | refine blk_drew ?_ | refine blk_alloc ?_ _)); refine blk_far ?_ NBb_g4.out _; (with_reducible repeat (first | refine blk_drewN ?_ _ | refine blk_drew ?_ | refine blk_alloc ?_ _)); refine blk_far ?_ NBb_g4.out _; (with_reducible repeat (first | refine blk_drewN ?_ _ | refine blk_drew ?_ | refine blk_alloc ?_ _)); exact BKb.out)
        · exact (by repeat (first | (with_reducible first | exact HB.out | apply below_alloc | apply pw_below_drewN | apply below_drew1 | refine below_set ?_ GEb.out | refine below_set ?_ GEg4.out | refine below_set ?_ GEg6.out) | exact HB.out))
        · exact (by repeat (first | exact HK.out | apply KeepBut.set_ | apply keep_drewN | apply keep_drew | apply keep_alloc | refine keep_far ?_ GWg4.out _ | refine keep_far ?_ GWg6.out _))
      · have HN := Aside0.mk hn
        have q2 : (s.blocks - s.start + 1 == g.longest) = false := beq_eq_false_iff_ne.2 hn
        clear hn
        go_wp2
        have E : proc g s (sumsq l0) = ({ s with blocks := s.blocks + 1, run := r }, none) := by
          unfold proc
          rw [if_neg HS.out, ← HQ.out, ← HR.out, if_neg HE.out, if_neg HN.out]
        refine bodyPost_ret (results_ct rfl _ _ g4 65 #[.int .i64 0, .int .i64 0] (0, 0) _ rfl (by (with_reducible repeat (first | refine blk_drewN ?_ _ | refine blk_drew ?_ | refine blk_alloc ?_ _)); refine blk_put (cs := #[.int .i64 0, .int .i64 0]) ?_ 1 _ rfl; (with_reducible repeat (first | refine blk_drewN ?_ _ | refine blk_drew ?_ | refine blk_alloc ?_ _)); refine blk_put (cs := #[.int .i64 0, .int .i64 0]) ?_ 0 _ rfl; (with_reducible repeat (first | refine blk_drewN ?_ _ | refine blk_drew ?_ | refine blk_alloc ?_ _)); exact BKg4.out) Try.underlying65 rfl (by kernel_rfl)) rfl ?_
        unfold ProcPost
        rw [E]
        refine ⟨rfl, ?_, ?_, ?_⟩
        · show _ = some (Obj.cells #[.int .i64 g.block, .int .i64 g.high, .int .i64 g.low, .int .i64 g.rise, .int .i64 g.fall, .int .i64 g.lead, .int .i64 g.longest, .bool true, .int .i64 s.state, .slice Ab nb cb, .int .i64 (s.blocks + 1), .int .i64 smp, .int .i64 r, .int .i64 s.start, .int .i64 s.free] 71 (0, 0))
          exact (by (with_reducible repeat (first | refine blk_drewN ?_ _ | refine blk_drew ?_ | refine blk_alloc ?_ _)); refine blk_far ?_ NBb_g4.out _; (with_reducible repeat (first | refine blk_drewN ?_ _ | refine blk_drew ?_ | refine blk_alloc ?_ _)); refine blk_far ?_ NBb_g4.out _; (with_reducible repeat (first | refine blk_drewN ?_ _ | refine blk_drew ?_ | refine blk_alloc ?_ _)); exact BKb.out)
        · exact (by repeat (first | (with_reducible first | exact HB.out | apply below_alloc | apply pw_below_drewN | apply below_drew1 | refine below_set ?_ GEb.out | refine below_set ?_ GEg4.out | refine below_set ?_ GEg6.out) | exact HB.out))
        · exact (by repeat (first | exact HK.out | apply KeepBut.set_ | apply keep_drewN | apply keep_drew | apply keep_alloc | refine keep_far ?_ GWg4.out _ | refine keep_far ?_ GWg6.out _))
end Go.Proofs.Ytigbfcodnbnicaa.P
