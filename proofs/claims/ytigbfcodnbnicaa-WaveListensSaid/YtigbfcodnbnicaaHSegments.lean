/- Close of a listener that is open: the segment that still lasts, and what the listener then remembers; for gates as defined. -/
import Derived.Test.YtigbfcodnbnicaaHFeed
import Derived.Deep.QuietTactic
import Derived.BigQuiet
set_option linter.unusedVariables false
set_option linter.unusedSimpArgs false
namespace Go.Proofs.Ytigbfcodnbnicaa.P
open Go.RowKit Go.Proofs.YtigbfcodnbnicaaW.PrintWords Go.Proofs.YtigbfcodnbnicaaW.PrintLast Go.Proofs.YtigbfcodnbnicaaW.PrintMore
attribute [local go_sem] max2_int min2_int max_two min_two max_three min_three max_four min_four

theorem one_seg (W : World) (base : Nat) (ok : Nat → Prop) (x : S65) (hb : base ≤ W.heap.size) (hok : ok W.heap.size) : Kd.R k65 65 (W.alloc (.cells #[.int .i64 x.f0, .int .i64 x.f1] 65)) base ok (.slice (some ⟨W.heap.size, 0, none⟩) 1 1) [x] := by
  refine ⟨fun k hk => ?_, [.int .i64 x.f0, .int .i64 x.f1], ?_, ?_⟩
  · simp [Value.ownBlock] at hk; subst hk; exact hok
  · have h2 := World.ownsRow_lit (base := base) (e := 65) (size := 2) W #[.int .i64 x.f0, .int .i64 x.f1] 1 hb (by decide) (by simp)
    have h3 : (W.alloc (.cells #[.int .i64 x.f0, .int .i64 x.f1] 65)).ownsRow base 65 2 (.slice (some ⟨W.heap.size, 0, none⟩) 1 1) 1 [.int .i64 x.f0, .int .i64 x.f1] := by simpa using h2
    exact h3
  · refine ⟨rfl, ?_⟩
    intro j p hj
    cases j with
    | zero =>
      simp at hj
      subst hj
      exact k65_mkM _ _ _ x
    | succ j => simp at hj
def ClosePost (g : Gt) (s : Ls) (smp : Int) (v : Value) (b : Nat) (w0 w : World) (e : Ending) (w' : World) : Prop :=
  ∃ v1 : Value, e = .returned (.tuple #[v1, .int .i64 0]) ∧ Kd.R k65 65 w' w.heap.size (fun _ => True) v1 (if s.state = 1 then [⟨s.start * g.block, smp⟩] else []) ∧
    w'.heap[b]? = some (.cells (lsCells g { s with state := 2 } smp v) 71 (0, 0)) ∧ Below w0.heap.size w0 w' ∧ KeepBut w w' b none
set_option maxHeartbeats 8000000 in
set_option maxRecDepth 100000 in
theorem close_good (g : Gt) (s : Ls) (smp : Int) (v : Value) (b : Nat) (w0 w : World) (hg : gateOK g = true) (hi : Inv s) (hbl : s.blocks ≤ 4294967296)
    (hb : w.heap[b]? = some (.cells (lsCells g s smp v) 71 (0, 0))) (hge : w0.heap.size ≤ b) (hB : Below w0.heap.size w0 w) :
    Calls Try.prog 38 #[.pointer (some ⟨b, 0, none⟩)] w (ClosePost g s smp v b w0 w) := by
  have hst := hi.st
  have i3 := hi.start0
  have i4 := hi.start1
  have HG := Aside0.mk hg
  have BKb : Aside0 (w.heap[b]? = some (.cells #[.int .i64 g.block, .int .i64 g.high, .int .i64 g.low, .int .i64 g.rise, .int .i64 g.fall, .int .i64 g.lead, .int .i64 g.longest, .bool true, .int .i64 s.state, v, .int .i64 s.blocks, .int .i64 smp, .int .i64 s.run, .int .i64 s.start, .int .i64 s.free] 71 (0, 0))) := ⟨hb⟩
  have hfb := blk_frozen BKb.out 8
  have hc7 : w.cell? ⟨b, 7, none⟩ = some (.bool true) := (blk_cell BKb.out 7).trans rfl
  have hc8 : w.cell? ⟨b, 8, none⟩ = some (.int .i64 s.state) := (blk_cell BKb.out 8).trans rfl
  have hu41 := Try.underlying41
  have hu65 := Try.underlying65
  have hu71 := Try.underlying71
  have GEb := Aside0.mk hge
  have HB := Aside0.mk hB
  have q2 : (s.state == 2) = false := beq_eq_false_iff_ne.2 (by omega)
  clear hb hge hB hi hg
  obtain ⟨gb1, gb2, gl1, gl2, gh1, gr1, gr2, gf1, gf2, gd1, gd2, gn1, gn2⟩ := gate_ok HG.out
  have ps := mul_in i3 (show s.start ≤ 4294967296 by omega) (show 0 ≤ g.block by omega) gb2
  have ps1 := ps.1
  have ps2 := ps.2
  clear ps
  have pw : IntKind.i64.wrap (s.start * g.block) = s.start * g.block := IntWalk.i64_in _ (by omega)
  have z1_ : Aside0 ((w.setCell ⟨b, 8, none⟩ (.int .i64 2)).heap[b]? = some (.cells #[.int .i64 g.block, .int .i64 g.high, .int .i64 g.low, .int .i64 g.rise, .int .i64 g.fall, .int .i64 g.lead, .int .i64 g.longest, .bool true, .int .i64 2, v, .int .i64 s.blocks, .int .i64 smp, .int .i64 s.run, .int .i64 s.start, .int .i64 s.free] 71 (0, 0))) := ⟨blk_put BKb.out 8 _ rfl⟩
  have z2_ : Aside0 (Below w0.heap.size w0 (w.setCell ⟨b, 8, none⟩ (.int .i64 2))) := ⟨below_set HB.out GEb.out⟩
  have z3_ : Aside0 (KeepBut w (w.setCell ⟨b, 8, none⟩ (.int .i64 2)) b none) := ⟨KeepBut.set_ (KeepBut.refl _ _ _) _ _⟩
  rcases hst with h0 | h1
  · have HS := Aside0.mk h0
    have q1 : (s.state == 1) = false := beq_eq_false_iff_ne.2 (by omega)
    clear h0
    go_enter Try.func38, Try.ntmps38
    go_wp2_with (go_at_call 75; refine (usable_yes _ _ true hc7).mono ?_; rintro e w' ⟨rfl, hw_⟩; obtain rfl := hw_.symm; clear hw_)
    go_ret2
    exact ⟨_, rfl, by rw [if_neg (by have := HS.out; omega)]; exact Kd.R_nil _ _ _ _ _, z1_.out, z2_.out, z3_.out⟩
  · have HS := Aside0.mk h1
    have q1 : (s.state == 1) = true := beq_iff_eq.2 h1
    clear h1
    go_enter Try.func38, Try.ntmps38
    go_wp2_with (go_at_call 75; refine (usable_yes _ _ true hc7).mono ?_; rintro e w' ⟨rfl, hw_⟩; obtain rfl := hw_.symm; clear hw_)
    clear BKb HB hc7 hc8 hfb
    generalize w.setCell ⟨b, 8, none⟩ (.int .i64 2) = w2 at z1_ z2_ z3_ ⊢
    have BKb := Aside0.mk (blk_drew z1_.out)
    have HB := Aside0.mk (below_drew1 z2_.out)
    have HK := Aside0.mk (keep_drew z3_.out)
    clear z1_ z2_ z3_
    have hp0 : w2.drew.cell? ⟨b, 13, none⟩ = some (.int .i64 s.start) := (blk_cell BKb.out 13).trans rfl
    have hp1 : w2.drew.cell? ⟨b, 0, none⟩ = some (.int .i64 g.block) := (blk_cell BKb.out 0).trans rfl
    have hp2 : w2.drew.cell? ⟨b, 11, none⟩ = some (.int .i64 smp) := (blk_cell BKb.out 11).trans rfl
    refine start_ (n := 18) (S := fun w' => w'.cell? ⟨b, 13, none⟩ = some (.int .i64 s.start) ∧ w'.cell? ⟨b, 0, none⟩ = some (.int .i64 g.block) ∧ w'.cell? ⟨b, 11, none⟩ = some (.int .i64 smp)) (ds := []) #[false, false, false, false, false, false, false, false, false, false, false, false, false, false, false, false, false, false] (by kernel_rfl) rfl rfl ⟨hp0, hp1, hp2⟩ (fun hHeld => ?_)
    generalize w2.drew = w3 at BKb HB HK hHeld ⊢
    refine pure_ (i := 0) (N := some 20) (v := ?_) (a' := ?_) #[true, false, false, false, false, false, false, false, false, false, false, false, false, false, false, false, false, false] rfl rfl (by kernel_rfl) (fun _ _ _ h => h) (Or.inl ⟨by rfl, ?_⟩) ?_ ?_
    rotate_left
    · intro w'
      go_simp
      with_reducible rfl
    rotate_left
    · simp only [Act.put, List.setIfInBounds_toArray, List.set_cons_zero, List.set_cons_succ, i64_w, i32_w]
      rfl
    refine pure_ (i := 1) (N := some 21) (v := ?_) (a' := ?_) #[true, true, false, false, false, false, false, false, false, false, false, false, false, false, false, false, false, false] rfl rfl (by kernel_rfl) (fun _ _ _ h => h) (Or.inl ⟨by rfl, ?_⟩) ?_ ?_
    rotate_left
    · intro w'
      go_simp
      with_reducible rfl
    rotate_left
    · simp only [Act.put, List.setIfInBounds_toArray, List.set_cons_zero, List.set_cons_succ, i64_w, i32_w]
      rfl
    refine pure_ (i := 2) (N := some 22) (v := ?_) (a' := ?_) #[true, true, true, false, false, false, false, false, false, false, false, false, false, false, false, false, false, false] rfl rfl (by kernel_rfl) (fun _ _ _ h => h) (Or.inl ⟨by rfl, ?_⟩) ?_ ?_
    rotate_left
    · intro w'
      go_simp
      with_reducible rfl
    rotate_left
    · simp only [Act.put, List.setIfInBounds_toArray, List.set_cons_zero, List.set_cons_succ, i64_w, i32_w]
      rfl
    refine pure_ (i := 4) (N := some 24) (v := ?_) (a' := ?_) #[true, true, true, false, true, false, false, false, false, false, false, false, false, false, false, false, false, false] rfl rfl (by kernel_rfl) (fun _ _ _ h => h) (Or.inl ⟨by rfl, ?_⟩) ?_ ?_
    rotate_left
    · intro w'
      go_simp
      with_reducible rfl
    rotate_left
    · simp only [Act.put, List.setIfInBounds_toArray, List.set_cons_zero, List.set_cons_succ, i64_w, i32_w]
      rfl
    refine pure_ (i := 5) (N := some 25) (v := ?_) (a' := ?_) #[true, true, true, false, true, true, false, false, false, false, false, false, false, false, false, false, false, false] rfl rfl (by kernel_rfl) (fun _ _ _ h => h) (Or.inl ⟨by rfl, ?_⟩) ?_ ?_
    rotate_left
    · intro w'
      go_simp
      with_reducible rfl
    rotate_left
    · simp only [Act.put, List.setIfInBounds_toArray, List.set_cons_zero, List.set_cons_succ, i64_w, i32_w]
      rfl
    refine pure_ (i := 6) (N := some 26) (v := ?_) (a' := ?_) #[true, true, true, false, true, true, true, false, false, false, false, false, false, false, false, false, false, false] rfl rfl (by kernel_rfl) (fun _ _ _ h => h) (Or.inl ⟨by rfl, ?_⟩) ?_ ?_
    rotate_left
    · intro w'
      go_simp
      with_reducible rfl
    rotate_left
    · simp only [Act.put, List.setIfInBounds_toArray, List.set_cons_zero, List.set_cons_succ, i64_w, i32_w]
      rfl
    refine pure_ (i := 7) (N := some 27) (v := ?_) (a' := ?_) #[true, true, true, false, true, true, true, true, false, false, false, false, false, false, false, false, false, false] rfl rfl (by kernel_rfl) (fun _ _ _ h => h) (Or.inl ⟨by rfl, ?_⟩) ?_ ?_
    rotate_left
    · intro w'
      go_simp
      with_reducible rfl
    rotate_left
    · simp only [Act.put, List.setIfInBounds_toArray, List.set_cons_zero, List.set_cons_succ, i64_w, i32_w]
      rfl
    refine pure_ (i := 10) (N := some 30) (v := ?_) (a' := ?_) #[true, true, true, false, true, true, true, true, false, false, true, false, false, false, false, false, false, false] rfl rfl (by kernel_rfl) (fun _ _ _ h => h) (Or.inl ⟨by rfl, ?_⟩) ?_ ?_
    rotate_left
    · intro w'
      go_simp
      with_reducible rfl
    rotate_left
    · simp only [Act.put, List.setIfInBounds_toArray, List.set_cons_zero, List.set_cons_succ, i64_w, i32_w]
      rfl
    refine pure_ (i := 11) (N := some 31) (v := ?_) (a' := ?_) #[true, true, true, false, true, true, true, true, false, false, true, true, false, false, false, false, false, false] rfl rfl (by kernel_rfl) (fun _ _ _ h => h) (Or.inl ⟨by rfl, ?_⟩) ?_ ?_
    rotate_left
    · intro w'
      go_simp
      with_reducible rfl
    rotate_left
    · simp only [Act.put, List.setIfInBounds_toArray, List.set_cons_zero, List.set_cons_succ, i64_w, i32_w]
      rfl
    refine pure_ (i := 12) (N := some 32) (v := ?_) (a' := ?_) #[true, true, true, false, true, true, true, true, false, false, true, true, true, false, false, false, false, false] rfl rfl (by kernel_rfl) (fun _ _ _ h => h) (Or.inl ⟨by rfl, ?_⟩) ?_ ?_
    rotate_left
    · intro w'
      go_simp
      with_reducible rfl
    rotate_left
    · simp only [Act.put, List.setIfInBounds_toArray, List.set_cons_zero, List.set_cons_succ, i64_w, i32_w]
      rfl
    refine take_ (i := 3) (N := some 23) (v := ?_) (a' := ?_) #[true, true, true, true, true, true, true, true, false, false, true, true, true, false, false, false, false, false] rfl rfl (by kernel_rfl) (fun _ _ _ h => h) (Or.inl ⟨by rfl, ?_⟩) hHeld ?_ ?_
    rotate_left
    · rintro w' ⟨s0, s1, s2⟩
      go_simp
      with_reducible rfl
    rotate_left
    · simp only [Act.put, List.setIfInBounds_toArray, List.set_cons_zero, List.set_cons_succ, i64_w, i32_w]
      rfl
    refine take_ (i := 8) (N := some 28) (v := ?_) (a' := ?_) #[true, true, true, true, true, true, true, true, true, false, true, true, true, false, false, false, false, false] rfl rfl (by kernel_rfl) (fun _ _ _ h => h) (Or.inl ⟨by rfl, ?_⟩) hHeld ?_ ?_
    rotate_left
    · rintro w' ⟨s0, s1, s2⟩
      go_simp
      with_reducible rfl
    rotate_left
    · simp only [Act.put, List.setIfInBounds_toArray, List.set_cons_zero, List.set_cons_succ, i64_w, i32_w]
      rfl
    refine pure_ (i := 9) (N := some 29) (v := ?_) (a' := ?_) #[true, true, true, true, true, true, true, true, true, true, true, true, true, false, false, false, false, false] rfl rfl (by kernel_rfl) (fun _ _ _ h => h) (Or.inl ⟨by rfl, ?_⟩) ?_ ?_
    rotate_left
    · intro w'
      go_simp
      with_reducible rfl
    rotate_left
    · simp only [Act.put, List.setIfInBounds_toArray, List.set_cons_zero, List.set_cons_succ, i64_w, i32_w]
      rfl
    refine take_ (i := 13) (N := some 33) (v := ?_) (a' := ?_) #[true, true, true, true, true, true, true, true, true, true, true, true, true, true, false, false, false, false] rfl rfl (by kernel_rfl) (fun _ _ _ h => h) (Or.inl ⟨by rfl, ?_⟩) hHeld ?_ ?_
    rotate_left
    · rintro w' ⟨s0, s1, s2⟩
      go_simp
      with_reducible rfl
    rotate_left
    · simp only [Act.put, List.setIfInBounds_toArray, List.set_cons_zero, List.set_cons_succ, i64_w, i32_w]
      rfl
    refine pure_ (i := 14) (N := some 34) (v := ?_) (a' := ?_) #[true, true, true, true, true, true, true, true, true, true, true, true, true, true, true, false, false, false] rfl rfl (by kernel_rfl) (fun _ _ _ h => h) (Or.inl ⟨by rfl, ?_⟩) ?_ ?_
    rotate_left
    · intro w'
      go_simp
      with_reducible rfl
    rotate_left
    · simp only [Act.put, List.setIfInBounds_toArray, List.set_cons_zero, List.set_cons_succ, i64_w, i32_w]
      rfl
    refine one_ (i := 15) (N := some 35) #[true, true, true, true, true, true, true, true, true, true, true, true, true, true, true, true, false, false] rfl rfl (by kernel_rfl) (by decide) (fun K hK => ?_)
    refine value_ (w1 := ?_) (v := ?_) (by rfl) rfl ?_ ?_
    rotate_left 2
    · go_simp
      constructor
      · rfl
      · rfl
    refine hK.out _ _ ⟨(blk_cell (blk_alloc BKb.out _) 13).trans rfl, (blk_cell (blk_alloc BKb.out _) 0).trans rfl, (blk_cell (blk_alloc BKb.out _) 11).trans rfl⟩ (fun hHeld => ?_)
    clear hK K
    refine norm_ (a' := ?_) ?_ ?_
    rotate_left
    · show Act.put _ (some 35) _ = _
      simp only [Act.put, List.setIfInBounds_toArray, List.set_cons_zero, List.set_cons_succ, i64_w, i32_w]
      rfl
    refine pure_ (i := 16) (N := some 2) (v := ?_) (a' := ?_) #[true, true, true, true, true, true, true, true, true, true, true, true, true, true, true, true, true, false] rfl rfl (by kernel_rfl) (fun _ _ _ h => h) (Or.inl ⟨by rfl, ?_⟩) ?_ ?_
    rotate_left
    · intro w'
      go_simp
      with_reducible rfl
    rotate_left
    · simp only [Act.put, List.setIfInBounds_toArray, List.set_cons_zero, List.set_cons_succ, i64_w, i32_w]
      rfl
    refine pure_ (i := 17) (N := some 3) (v := ?_) (a' := ?_) #[true, true, true, true, true, true, true, true, true, true, true, true, true, true, true, true, true, true] rfl rfl (by kernel_rfl) (fun _ _ _ h => h) (Or.inl ⟨by rfl, ?_⟩) ?_ ?_
    rotate_left
    · intro w'
      go_simp
      with_reducible rfl
    rotate_left
    · simp only [Act.put, List.setIfInBounds_toArray, List.set_cons_zero, List.set_cons_succ, i64_w, i32_w]
      rfl
    refine done_ (by kernel_rfl) ?_

    go_wp2
    go_ret2
    refine ⟨_, rfl, ?_, blk_alloc BKb.out _, below_alloc HB.out _, keep_alloc HK.out _⟩
    rw [if_pos HS.out]
    exact one_seg w3 _ _ (⟨s.start * g.block, smp⟩ : S65) HK.out.1 trivial
set_option maxHeartbeats 8000000 in
set_option maxRecDepth 100000 in
theorem feed_err (g : Gt) (s : Ls) (smp : Int) (v : Value) (b : Nat) (A0 : Option Addr) (c0 : Nat) (l : List Int) (w : World) (hl : l.length ≤ 200000) (hr : Kd.C (Kd.int .i64) w A0 l.length l) (hv : inR (-32768) 32767 l = false)
    (hb : w.heap[b]? = some (.cells (lsCells g s smp v) 71 (0, 0))) :
    Calls Try.prog 37 #[.pointer (some ⟨b, 0, none⟩), .slice A0 l.length c0] w fun e w' => e = .returned (.tuple #[.slice none 0 0, .int .i64 2]) ∧ w' = w := by
  have HR0 := Aside0.mk hr
  have HV := Aside0.mk hv
  have BKb : Aside0 (w.heap[b]? = some (.cells #[.int .i64 g.block, .int .i64 g.high, .int .i64 g.low, .int .i64 g.rise, .int .i64 g.fall, .int .i64 g.lead, .int .i64 g.longest, .bool true, .int .i64 s.state, v, .int .i64 s.blocks, .int .i64 smp, .int .i64 s.run, .int .i64 s.start, .int .i64 s.free] 71 (0, 0))) := ⟨hb⟩
  have hc7 : w.cell? ⟨b, 7, none⟩ = some (.bool true) := (blk_cell BKb.out 7).trans rfl
  have hu71 := Try.underlying71
  clear hr hv hb
  go_enter Try.func37, Try.ntmps37
  go_wp2_with (first | (go_at_call 75; refine (usable_yes _ _ true hc7).mono ?_; rintro e w' ⟨rfl, hw_⟩; obtain rfl := hw_.symm; clear hw_) | (go_at_call 76; refine (samples_still A0 c0 l _ false HR0.out hl HV.out).mono ?_; rintro e w' ⟨rfl, hw_⟩; obtain rfl := hw_.symm; clear hw_))
  go_ret2
  exact ⟨rfl, rfl⟩
set_option maxHeartbeats 8000000 in
set_option maxRecDepth 100000 in
theorem segments_long (A0 : Option Addr) (c0 : Nat) (l0 : List Int) (g : Gt) (w : World) (hl : 200000 < l0.length) :
    Calls Try.prog 30 #[.slice A0 l0.length c0, .agg #[.int .i64 g.block, .int .i64 g.high, .int .i64 g.low, .int .i64 g.rise, .int .i64 g.fall, .int .i64 g.lead, .int .i64 g.longest]] w fun e w' => ∃ v0_ : Value, e = .returned (.tuple #[v0_, .int .i64 5]) ∧ Kd.R k65 65 w' w.heap.size (fun _ => True) v0_ [] ∧ Below w.heap.size w w' := by
  have hu41 := Try.underlying41
  have hu71 := Try.underlying71
  go_enter Try.func30, Try.ntmps30
  go_wp2
  go_ret2
  exact ⟨_, rfl, Kd.R_nil _ _ _ _ _, below_alloc (Below.refl _ _) _⟩
set_option maxHeartbeats 8000000 in
set_option maxRecDepth 100000 in
theorem segments_gate (A0 : Option Addr) (c0 : Nat) (l0 : List Int) (g : Gt) (w : World) (hl : l0.length ≤ 200000) (hg : gateOK g = false) :
    Calls Try.prog 30 #[.slice A0 l0.length c0, .agg #[.int .i64 g.block, .int .i64 g.high, .int .i64 g.low, .int .i64 g.rise, .int .i64 g.fall, .int .i64 g.lead, .int .i64 g.longest]] w fun e w' => ∃ v0_ : Value, e = .returned (.tuple #[v0_, .int .i64 2]) ∧ Kd.R k65 65 w' w.heap.size (fun _ => True) v0_ [] ∧ Below w.heap.size w w' := by
  have hu41 := Try.underlying41
  have hu71 := Try.underlying71
  have HGo := Aside0.mk hg
  clear hg
  go_enter Try.func30, Try.ntmps30
  go_wp2_with (go_at_call 36; refine (listen_bad g _ HGo.out).mono ?_; rintro e w' ⟨rfl, hb_⟩; have HB := Aside0.mk (below_step (below_alloc (Below.refl w.heap.size w) _) hb_); clear hb_)
  go_ret2
  exact ⟨_, rfl, Kd.R_nil _ _ _ _ _, HB.out⟩
set_option maxHeartbeats 8000000 in
set_option maxRecDepth 100000 in
theorem segments_bad (A0 : Option Addr) (c0 : Nat) (l0 : List Int) (g : Gt) (w : World) (hr0 : Kd.C (Kd.int .i64) w A0 l0.length l0) (hl : l0.length ≤ 200000) (hg : gateOK g = true) (hv : inR (-32768) 32767 l0 = false) :
    Calls Try.prog 30 #[.slice A0 l0.length c0, .agg #[.int .i64 g.block, .int .i64 g.high, .int .i64 g.low, .int .i64 g.rise, .int .i64 g.fall, .int .i64 g.lead, .int .i64 g.longest]] w fun e w' => ∃ v0_ : Value, e = .returned (.tuple #[v0_, .int .i64 2]) ∧ Kd.R k65 65 w' w.heap.size (fun _ => True) v0_ [] ∧ Below w.heap.size w w' := by
  have hu41 := Try.underlying41
  have hu71 := Try.underlying71
  have HGo := Aside0.mk hg
  have HR0 := Aside0.mk hr0
  have HV := Aside0.mk hv
  clear hg hr0 hv
  go_enter Try.func30, Try.ntmps30
  go_wp2_with (first | (go_at_call 36; refine (listen_good g _ HGo.out).mono ?_; rintro e w2 ⟨b, rfl, hb_, hge_, hB_⟩; have BKb := Aside0.mk hb_; have GEb := Aside0.mk (Nat.le_trans (keep_size (keep_alloc (KeepBut.refl w 0 none) _)) hge_); have HB := Aside0.mk (below_step (below_alloc (Below.refl w.heap.size w) _) hB_); have HR2 := Aside0.mk (Kd.C_below HR0.out HB.out); clear hb_ hge_ hB_) | (go_at_call 37; refine (feed_err g ls0 0 (.slice none 0 0) b A0 c0 l0 _ hl HR2.out HV.out BKb.out).mono ?_; rintro e w3 ⟨rfl, hw_⟩; obtain rfl := hw_.symm; clear hw_))
  go_ret2
  exact ⟨_, rfl, Kd.R_nil _ _ _ _ _, HB.out⟩
set_option maxHeartbeats 8000000 in
set_option maxRecDepth 100000 in
theorem segments_good (A0 : Option Addr) (c0 : Nat) (l0 : List Int) (g : Gt) (w : World) (hr0 : Kd.C (Kd.int .i64) w A0 l0.length l0) (hl : l0.length ≤ 200000) (hg : gateOK g = true) (hv : inR (-32768) 32767 l0 = true) :
    Calls Try.prog 30 #[.slice A0 l0.length c0, .agg #[.int .i64 g.block, .int .i64 g.high, .int .i64 g.low, .int .i64 g.rise, .int .i64 g.fall, .int .i64 g.lead, .int .i64 g.longest]] w fun e w' => ∃ v0_ : Value, e = .returned (.tuple #[v0_, .int .i64 0]) ∧ Kd.R k65 65 w' w.heap.size (fun _ => True) v0_ (segsOf g l0) ∧ Below w.heap.size w w' := by
  have hu41 := Try.underlying41
  have hu71 := Try.underlying71
  have HGo := Aside0.mk hg
  have HR0 := Aside0.mk hr0
  have HV := Aside0.mk hv
  have hblk : ∀ q : Nat, q = l0.length / g.block.toNat → (runBlocks g q ls0 l0).1.blocks ≤ 4294967296 := by
    intro q hq
    rw [(run_inv hg q ls0 l0 inv0).2]
    have : q ≤ l0.length := by rw [hq]; exact Nat.div_le_self _ _
    show (0 : Int) + q ≤ _
    omega
  clear hg hr0 hv
  go_enter Try.func30, Try.ntmps30
  go_wp2_with (first | (go_at_call 36; refine (listen_good g _ HGo.out).mono ?_; rintro e w2 ⟨b, rfl, hb_, hge_, hB_⟩; have BKb := Aside0.mk hb_; have GEb := Aside0.mk (Nat.le_trans (keep_size (keep_alloc (KeepBut.refl w 0 none) _)) hge_); have HB := Aside0.mk (below_step (below_alloc (Below.refl w.heap.size w) _) hB_); have HR2 := Aside0.mk (Kd.C_below HR0.out HB.out); clear hb_ hge_ hB_) | (go_at_call 37; refine (feed_good g ls0 0 none 0 b [] A0 c0 l0 l0 (List.nil_append l0).symm w _ HGo.out inv0 (by decide) (Int.le_refl 0) (by omega) HR0.out HV.out hl (by simp) (by simp) BKb.out (Kd.R_nil _ _ _ _ _) GEb.out HB.out).mono ?_; rintro e w3 ⟨v1, vb, rfl, h1_, h2_, h3_, h4_, h5_⟩; have HO1 := Aside0.mk h1_; have BKc := Aside0.mk h2_; have HB3 := Aside0.mk h4_; have HK3 := Aside0.mk h5_; clear h1_ h2_ h3_ h4_ h5_) | (go_at_call 38; refine (close_good g (runBlocks g (l0.length / g.block.toNat) ls0 l0).1 (0 + l0.length) vb b w _ HGo.out (run_inv HGo.out _ _ _ inv0).1 (hblk _ rfl) BKc.out GEb.out HB3.out).mono ?_; rintro e w4 ⟨v2, rfl, h1_, h2_, h3_, h4_⟩; obtain ⟨o2, ho2_⟩ : ∃ o2 : List S65, o2 = (if (runBlocks g (l0.length / g.block.toNat) ls0 l0).1.state = 1 then [(⟨(runBlocks g (l0.length / g.block.toNat) ls0 l0).1.start * g.block, 0 + (l0.length : Int)⟩ : S65)] else []) := ⟨_, rfl⟩; rw [← ho2_] at h1_; have HX := Aside0.mk ho2_; clear ho2_; have HO2 := Aside0.mk h1_; obtain ⟨A2, c2, e2⟩ := Kd.R_slice HO2.out; subst e2; have HB4 := Aside0.mk h3_; have HK4 := Aside0.mk h4_; have HO1 := Aside0.mk (Kd.R_keep (Kd.R_types HO1.out BKc.out (by decide)) HK4.out (fun _ h => h.2)); clear h1_ h2_ h3_ h4_) | ((with_reducible refine gate_builtin (b := .append) (xs := #[.tmp 36, .tmp 37]) rfl ?_); at_builtin; refine Kd.R_append_rows k65 (Rr := k65.K w4) (w0 := w) w.heap.size rfl (.tmp 36) (.tmp 37) 42 65 (.agg #[(.int .i64 0), (.int .i64 0)]) 16 rfl Try.underlying42 info65 rfl (by decide) (by omega) v1 (runBlocks g (l0.length / g.block.toNat) ls0 l0).2 o2 _ _ _ (fun _ => True) (fun _ => False) rfl rfl (Kd.R_mono (Kd.R_lower HO1.out HB.out.size) (fun _ _ => trivial)) ?aR (fun x cs h => by rw [k65_open h]; exact k65_mkM _ _ _ x) (fun _ h => h.elim) (fun _ _ => trivial) HB4.out HB4.out.size ?aL ?_; (case aR => exact (Kd.R_reads' HO2.out).2.2); (case aL => have ha_ : (runBlocks g (l0.length / g.block.toNat) ls0 l0).2.length ≤ l0.length / g.block.toNat := outQ_length g ls0 l0 _; have hb_ : o2.length ≤ 1 := (by rw [HX.out]; split <;> simp); have hc_ : l0.length / g.block.toNat ≤ l0.length := Nat.div_le_self _ _; omega); intro v38 w38 ho hb_ hg_ hnew_; have HO38 := Aside0.mk ho; have HB38 := Aside0.mk hb_; clear ho hb_ hg_ hnew_))
  go_ret2
  exact ⟨_, rfl, by rw [show segsOf g l0 = (runBlocks g (l0.length / g.block.toNat) ls0 l0).2 ++ (if (runBlocks g (l0.length / g.block.toNat) ls0 l0).1.state = 1 then [(⟨(runBlocks g (l0.length / g.block.toNat) ls0 l0).1.start * g.block, 0 + (l0.length : Int)⟩ : S65)] else []) from by simp [segsOf], ← HX.out]; exact HO38.out, HB38.out⟩
theorem wave_Segments.calls (A0 : Option Addr) (c0 : Nat) (l0 : List Int) (a1_0 : Int) (a1_1 : Int) (a1_2 : Int) (a1_3 : Int) (a1_4 : Int) (a1_5 : Int) (a1_6 : Int) (r1 : List (S65)) (r2 : Int) (w : World) (hr0 : Kd.C (Kd.int .i64) w A0 l0.length l0) (hc0 : l0.length ≤ c0) (h : wave_Segments.f l0 a1_0 a1_1 a1_2 a1_3 a1_4 a1_5 a1_6 = some (r1, r2)) :
    Calls Try.prog 30 #[.slice A0 l0.length c0, .agg #[.int .i64 a1_0, .int .i64 a1_1, .int .i64 a1_2, .int .i64 a1_3, .int .i64 a1_4, .int .i64 a1_5, .int .i64 a1_6]] w fun e w' => ∃ v0_ : Value, e = .returned (.tuple #[v0_, .int .i64 r2]) ∧ Kd.R k65 65 w' w.heap.size (fun _ => True) v0_ r1 ∧ Below w.heap.size w w' := by
  unfold wave_Segments.f at h
  by_cases hl : l0.length > 200000
  · rw [if_pos hl] at h
    simp only [Option.some.injEq, Prod.mk.injEq] at h
    obtain ⟨rfl, rfl⟩ := h
    exact segments_long A0 c0 l0 ⟨a1_0, a1_1, a1_2, a1_3, a1_4, a1_5, a1_6⟩ w hl
  · rw [if_neg hl] at h
    cases hg : gateOK ⟨a1_0, a1_1, a1_2, a1_3, a1_4, a1_5, a1_6⟩ with
    | false =>
      rw [if_pos (.inl hg)] at h
      simp only [Option.some.injEq, Prod.mk.injEq] at h
      obtain ⟨rfl, rfl⟩ := h
      exact segments_gate A0 c0 l0 ⟨a1_0, a1_1, a1_2, a1_3, a1_4, a1_5, a1_6⟩ w (by omega) hg
    | true =>
      cases hv : inR (-32768) 32767 l0 with
      | false =>
        rw [if_pos (.inr hv)] at h
        simp only [Option.some.injEq, Prod.mk.injEq] at h
        obtain ⟨rfl, rfl⟩ := h
        exact segments_bad A0 c0 l0 ⟨a1_0, a1_1, a1_2, a1_3, a1_4, a1_5, a1_6⟩ w hr0 (by omega) hg hv
      | true =>
        rw [if_neg (by rintro (e | e) <;> simp_all)] at h
        simp only [Option.some.injEq, Prod.mk.injEq] at h
        obtain ⟨rfl, rfl⟩ := h
        exact segments_good A0 c0 l0 ⟨a1_0, a1_1, a1_2, a1_3, a1_4, a1_5, a1_6⟩ w hr0 (by omega) hg hv
end Go.Proofs.Ytigbfcodnbnicaa.P
