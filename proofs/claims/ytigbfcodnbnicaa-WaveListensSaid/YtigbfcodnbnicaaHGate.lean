/- What right says of a gate, what Listen makes, and small steps of a listener; no condition. -/
import Derived.Test.YtigbfcodnbnicaaHEnergy
set_option linter.unusedVariables false
set_option linter.unusedSimpArgs false
namespace Go.Proofs.Ytigbfcodnbnicaa.P
open Go.RowKit Go.Proofs.YtigbfcodnbnicaaW.PrintWords Go.Proofs.YtigbfcodnbnicaaW.PrintLast Go.Proofs.YtigbfcodnbnicaaW.PrintMore
attribute [local go_sem] max2_int min2_int max_two min_two max_three min_three max_four min_four

theorem in93 (n lo hi : Int) (r : Bool) (w : World) (h : (decide (lo ≤ n) && decide (n ≤ hi)) = r) : Calls Try.prog 93 #[.int .i64 n, .int .i64 lo, .int .i64 hi] w fun e w' => e = .returned (.bool r) ∧ w = w' := by
  subst h
  by_cases h1 : lo ≤ n
  · have b1 : decide (lo ≤ n) = true := decide_eq_true h1
    go_enter Try.func93, Try.ntmps93
    go_wp2
    go_ret
    exact ⟨by first | rfl | (simp; done) | (simp [b1]; done), rfl⟩
  · have b1 : decide (lo ≤ n) = false := decide_eq_false h1
    have h2 : n < lo := by omega
    go_enter Try.func93, Try.ntmps93
    go_wp2
    go_ret
    exact ⟨by first | rfl | (simp; done) | (simp [b1]; done), rfl⟩
theorem next95 (run : Int) (goes : Bool) (w : World) (h0 : 0 ≤ run) (h1 : run ≤ 1099511627776) : Calls Try.prog 95 #[.int .i64 run, .bool goes] w fun e w' => e = .returned (.int .i64 (nextRun run goes)) ∧ w' = w := by
  cases goes with
  | true =>
    go_enter Try.func95, Try.ntmps95
    go_wp2
    go_ret
    exact ⟨rfl, rfl⟩
  | false =>
    go_enter Try.func95, Try.ntmps95
    go_wp2
    go_ret
    exact ⟨rfl, rfl⟩
theorem sumsq_take_succ (l : List Int) (k : Nat) (h : k < l.length) : sumsq (l.take (k + 1)) = sumsq (l.take k) + l.getD k 0 * l.getD k 0 := by
  have e : l.getD k 0 = l[k] := by simp [h]
  unfold sumsq
  rw [List.take_succ_eq_append_getElem h, List.map_append, List.sum_append, e]
  simp
theorem energy_still (A0 : Option Addr) (c0 : Nat) (l0 : List Int) (w : World) (hr0 : Kd.C (Kd.int .i64) w A0 l0.length l0) (hv : ∀ v ∈ l0, -32768 ≤ v ∧ v ≤ 32767) (hl : l0.length ≤ 200000) :
    Calls Try.prog 82 #[.slice A0 l0.length c0] w fun e w' => e = .returned (.int .i64 (sumsq l0)) ∧ w' = w := by
  have HR0 := Aside0.mk hr0
  have HV := Aside0.mk (fun v hm => (show -65536 ≤ v ∧ v ≤ 65535 from by have := hv v hm; omega))
  clear hr0 hv
  go_enter Try.func82, Try.ntmps82
  go_wp2
  go_loop [3, 8] (fun v3 v8 => ∃ k : Nat, k ≤ l0.length ∧ v8 = .int .i64 k ∧ v3 = .int .i64 (sumsq (l0.take k))) (fun _ v8 => l0.length - (intOf v8).toNat)
  case atStart => exact ⟨0, Nat.zero_le _, rfl, rfl⟩
  case round =>
    obtain ⟨k, hk, rfl, rfl⟩ := hrel
    have bd := sumsq_bd (l := l0.take k) (fun v hm => HV.out v (List.mem_of_mem_take hm))
    rw [List.length_take, Nat.min_eq_left hk] at bd
    have b1 := bd.1
    have b2 := bd.2
    clear bd
    by_cases hlt : k < l0.length
    · obtain ⟨ad, e, hx⟩ := Kd.at_int HR0.out k (by omega) (by omega)
      cases e
      have hg := HV.out _ (rd_mem hlt)
      have er : rd l0 (k : Int) = l0.getD k 0 := by unfold rd; rw [Int.toNat_natCast]
      have S := Aside0.mk (sumsq_take_succ l0 k hlt)
      rw [er] at hx hg
      rw [Int.toNat_natCast] at hx
      generalize hq : sumsq (l0.take k) = q at *
      generalize l0.getD k 0 = y at hx hg S
      have g1 := hg.1
      have g2 := hg.2
      have p := sumsq_bd (l := [y]) (fun v hm => by obtain rfl := List.mem_singleton.mp hm; exact ⟨g1, g2⟩)
      have p1 : 0 ≤ y * y := by have := p.1; simpa [sumsq] using this
      have p2 : y * y ≤ 4294967296 := by have := p.2; simpa [sumsq] using this
      clear p hg hq er
      go_wp2
      go_round
      case rel => exact ⟨k + 1, by omega, by go_num, by rw [S.out]⟩
      case measure => simp [intOf]; omega
    · obtain rfl : k = l0.length := by omega
      go_wp2
      go_ret
      exact ⟨rfl, rfl⟩
set_option maxHeartbeats 8000000 in
set_option maxRecDepth 100000 in
theorem right_0 (b h lo r f le lg : Int) (w : World) (t0 : (decide (1 ≤ b) && decide (b ≤ 4096)) = false) : Calls Try.prog 74 #[.agg #[.int .i64 b, .int .i64 h, .int .i64 lo, .int .i64 r, .int .i64 f, .int .i64 le, .int .i64 lg]] w fun e w' => e = .returned (.bool false) ∧ Below w.heap.size w w' := by
  have hu41 := Try.underlying41
  have HB := Aside0.mk (Below.refl w.heap.size w)
  have T0 := Aside0.mk t0
  clear t0
  go_enter Try.func74, Try.ntmps74
  go_wp2_with (first | ((with_reducible refine gate_dst (N := 1) rfl ?_); refine box_event ?hg (N := 1) ?hd (cs := #[.int .i64 b, .int .i64 h, .int .i64 lo, .int .i64 r, .int .i64 f, .int .i64 le, .int .i64 lg]) (t := 41) ?hr ?_; (case hd => rfl); (case hg => rfl); (case hr => first | (go_simp; done) | (go_simp; rfl)); intro g0 hg_ w4 hbox_ hb_; have n0_ := Aside0.mk (below_step (by repeat (first | (with_reducible first | exact HB.out | apply below_alloc | apply pw_below_drewN | apply below_drew1) | exact HB.out)) hb_); have n1_ := Aside0.mk (hbox_); have n2_ : Aside0 (w.heap.size ≤ g0) := ⟨by rw [hg_]; exact (below_size (by repeat (first | (with_reducible first | exact HB.out | apply below_alloc | apply pw_below_drewN | apply below_drew1) | exact HB.out)))⟩; clear HB; have HB := n0_; have BKg0 := n1_; have GEg0 := n2_; clear n0_ n1_ n2_; have hc1 : w4.cell? ⟨g0, 0, none⟩ = some (.int .i64 b) := (blk_cell BKg0.out 0).trans rfl; have hf1 := blk_frozen BKg0.out 0; have hc2 : w4.cell? ⟨g0, 1, none⟩ = some (.int .i64 h) := (blk_cell BKg0.out 1).trans rfl; have hf2 := blk_frozen BKg0.out 1; have hc3 : w4.cell? ⟨g0, 2, none⟩ = some (.int .i64 lo) := (blk_cell BKg0.out 2).trans rfl; have hf3 := blk_frozen BKg0.out 2; have hc4 : w4.cell? ⟨g0, 3, none⟩ = some (.int .i64 r) := (blk_cell BKg0.out 3).trans rfl; have hf4 := blk_frozen BKg0.out 3; have hc5 : w4.cell? ⟨g0, 4, none⟩ = some (.int .i64 f) := (blk_cell BKg0.out 4).trans rfl; have hf5 := blk_frozen BKg0.out 4; have hc6 : w4.cell? ⟨g0, 5, none⟩ = some (.int .i64 le) := (blk_cell BKg0.out 5).trans rfl; have hf6 := blk_frozen BKg0.out 5; have hc7 : w4.cell? ⟨g0, 6, none⟩ = some (.int .i64 lg) := (blk_cell BKg0.out 6).trans rfl; have hf7 := blk_frozen BKg0.out 6; clear hb_ hbox_ hg_) | (go_at_call_of 93 (Value.int .i64 b); refine (in93 b 1 4096 false _ T0.out).mono ?_; rintro e w' ⟨rfl, rfl⟩))
  go_ret
  exact ⟨rfl, (by repeat (first | (with_reducible first | exact HB.out | apply below_alloc | apply pw_below_drewN | apply below_drew1 | refine below_set ?_ GEg0.out) | exact HB.out))⟩
set_option maxHeartbeats 8000000 in
set_option maxRecDepth 100000 in
theorem right_1 (b h lo r f le lg : Int) (w : World) (t0 : (decide (1 ≤ b) && decide (b ≤ 4096)) = true) (t1 : (decide (0 ≤ lo) && decide (lo ≤ h)) = false) : Calls Try.prog 74 #[.agg #[.int .i64 b, .int .i64 h, .int .i64 lo, .int .i64 r, .int .i64 f, .int .i64 le, .int .i64 lg]] w fun e w' => e = .returned (.bool false) ∧ Below w.heap.size w w' := by
  have hu41 := Try.underlying41
  have HB := Aside0.mk (Below.refl w.heap.size w)
  have T0 := Aside0.mk t0
  have T1 := Aside0.mk t1
  clear t0 t1
  go_enter Try.func74, Try.ntmps74
  go_wp2_with (first | ((with_reducible refine gate_dst (N := 1) rfl ?_); refine box_event ?hg (N := 1) ?hd (cs := #[.int .i64 b, .int .i64 h, .int .i64 lo, .int .i64 r, .int .i64 f, .int .i64 le, .int .i64 lg]) (t := 41) ?hr ?_; (case hd => rfl); (case hg => rfl); (case hr => first | (go_simp; done) | (go_simp; rfl)); intro g0 hg_ w4 hbox_ hb_; have n0_ := Aside0.mk (below_step (by repeat (first | (with_reducible first | exact HB.out | apply below_alloc | apply pw_below_drewN | apply below_drew1) | exact HB.out)) hb_); have n1_ := Aside0.mk (hbox_); have n2_ : Aside0 (w.heap.size ≤ g0) := ⟨by rw [hg_]; exact (below_size (by repeat (first | (with_reducible first | exact HB.out | apply below_alloc | apply pw_below_drewN | apply below_drew1) | exact HB.out)))⟩; clear HB; have HB := n0_; have BKg0 := n1_; have GEg0 := n2_; clear n0_ n1_ n2_; have hc1 : w4.cell? ⟨g0, 0, none⟩ = some (.int .i64 b) := (blk_cell BKg0.out 0).trans rfl; have hf1 := blk_frozen BKg0.out 0; have hc2 : w4.cell? ⟨g0, 1, none⟩ = some (.int .i64 h) := (blk_cell BKg0.out 1).trans rfl; have hf2 := blk_frozen BKg0.out 1; have hc3 : w4.cell? ⟨g0, 2, none⟩ = some (.int .i64 lo) := (blk_cell BKg0.out 2).trans rfl; have hf3 := blk_frozen BKg0.out 2; have hc4 : w4.cell? ⟨g0, 3, none⟩ = some (.int .i64 r) := (blk_cell BKg0.out 3).trans rfl; have hf4 := blk_frozen BKg0.out 3; have hc5 : w4.cell? ⟨g0, 4, none⟩ = some (.int .i64 f) := (blk_cell BKg0.out 4).trans rfl; have hf5 := blk_frozen BKg0.out 4; have hc6 : w4.cell? ⟨g0, 5, none⟩ = some (.int .i64 le) := (blk_cell BKg0.out 5).trans rfl; have hf6 := blk_frozen BKg0.out 5; have hc7 : w4.cell? ⟨g0, 6, none⟩ = some (.int .i64 lg) := (blk_cell BKg0.out 6).trans rfl; have hf7 := blk_frozen BKg0.out 6; clear hb_ hbox_ hg_) | (go_at_call_of 93 (Value.int .i64 b); refine (in93 b 1 4096 true _ T0.out).mono ?_; rintro e w' ⟨rfl, rfl⟩) | (go_at_call_of 93 (Value.int .i64 lo); refine (in93 lo 0 h false _ T1.out).mono ?_; rintro e w' ⟨rfl, rfl⟩))
  go_ret
  exact ⟨rfl, (by repeat (first | (with_reducible first | exact HB.out | apply below_alloc | apply pw_below_drewN | apply below_drew1 | refine below_set ?_ GEg0.out) | exact HB.out))⟩
set_option maxHeartbeats 8000000 in
set_option maxRecDepth 100000 in
theorem right_2 (b h lo r f le lg : Int) (w : World) (t0 : (decide (1 ≤ b) && decide (b ≤ 4096)) = true) (t1 : (decide (0 ≤ lo) && decide (lo ≤ h)) = true) (t2 : decide (h ≤ 1073741824) = false) : Calls Try.prog 74 #[.agg #[.int .i64 b, .int .i64 h, .int .i64 lo, .int .i64 r, .int .i64 f, .int .i64 le, .int .i64 lg]] w fun e w' => e = .returned (.bool false) ∧ Below w.heap.size w w' := by
  have hu41 := Try.underlying41
  have HB := Aside0.mk (Below.refl w.heap.size w)
  have T0 := Aside0.mk t0
  have T1 := Aside0.mk t1
  clear t0 t1
  go_enter Try.func74, Try.ntmps74
  go_wp2_with (first | ((with_reducible refine gate_dst (N := 1) rfl ?_); refine box_event ?hg (N := 1) ?hd (cs := #[.int .i64 b, .int .i64 h, .int .i64 lo, .int .i64 r, .int .i64 f, .int .i64 le, .int .i64 lg]) (t := 41) ?hr ?_; (case hd => rfl); (case hg => rfl); (case hr => first | (go_simp; done) | (go_simp; rfl)); intro g0 hg_ w4 hbox_ hb_; have n0_ := Aside0.mk (below_step (by repeat (first | (with_reducible first | exact HB.out | apply below_alloc | apply pw_below_drewN | apply below_drew1) | exact HB.out)) hb_); have n1_ := Aside0.mk (hbox_); have n2_ : Aside0 (w.heap.size ≤ g0) := ⟨by rw [hg_]; exact (below_size (by repeat (first | (with_reducible first | exact HB.out | apply below_alloc | apply pw_below_drewN | apply below_drew1) | exact HB.out)))⟩; clear HB; have HB := n0_; have BKg0 := n1_; have GEg0 := n2_; clear n0_ n1_ n2_; have hc1 : w4.cell? ⟨g0, 0, none⟩ = some (.int .i64 b) := (blk_cell BKg0.out 0).trans rfl; have hf1 := blk_frozen BKg0.out 0; have hc2 : w4.cell? ⟨g0, 1, none⟩ = some (.int .i64 h) := (blk_cell BKg0.out 1).trans rfl; have hf2 := blk_frozen BKg0.out 1; have hc3 : w4.cell? ⟨g0, 2, none⟩ = some (.int .i64 lo) := (blk_cell BKg0.out 2).trans rfl; have hf3 := blk_frozen BKg0.out 2; have hc4 : w4.cell? ⟨g0, 3, none⟩ = some (.int .i64 r) := (blk_cell BKg0.out 3).trans rfl; have hf4 := blk_frozen BKg0.out 3; have hc5 : w4.cell? ⟨g0, 4, none⟩ = some (.int .i64 f) := (blk_cell BKg0.out 4).trans rfl; have hf5 := blk_frozen BKg0.out 4; have hc6 : w4.cell? ⟨g0, 5, none⟩ = some (.int .i64 le) := (blk_cell BKg0.out 5).trans rfl; have hf6 := blk_frozen BKg0.out 5; have hc7 : w4.cell? ⟨g0, 6, none⟩ = some (.int .i64 lg) := (blk_cell BKg0.out 6).trans rfl; have hf7 := blk_frozen BKg0.out 6; clear hb_ hbox_ hg_) | (go_at_call_of 93 (Value.int .i64 b); refine (in93 b 1 4096 true _ T0.out).mono ?_; rintro e w' ⟨rfl, rfl⟩) | (go_at_call_of 93 (Value.int .i64 lo); refine (in93 lo 0 h true _ T1.out).mono ?_; rintro e w' ⟨rfl, rfl⟩))
  go_ret
  exact ⟨rfl, (by repeat (first | (with_reducible first | exact HB.out | apply below_alloc | apply pw_below_drewN | apply below_drew1 | refine below_set ?_ GEg0.out) | exact HB.out))⟩
set_option maxHeartbeats 8000000 in
set_option maxRecDepth 100000 in
theorem right_3 (b h lo r f le lg : Int) (w : World) (t0 : (decide (1 ≤ b) && decide (b ≤ 4096)) = true) (t1 : (decide (0 ≤ lo) && decide (lo ≤ h)) = true) (t2 : decide (h ≤ 1073741824) = true) (t3 : (decide (1 ≤ r) && decide (r ≤ 1000)) = false) : Calls Try.prog 74 #[.agg #[.int .i64 b, .int .i64 h, .int .i64 lo, .int .i64 r, .int .i64 f, .int .i64 le, .int .i64 lg]] w fun e w' => e = .returned (.bool false) ∧ Below w.heap.size w w' := by
  have hu41 := Try.underlying41
  have HB := Aside0.mk (Below.refl w.heap.size w)
  have T0 := Aside0.mk t0
  have T1 := Aside0.mk t1
  have T3 := Aside0.mk t3
  clear t0 t1 t3
  go_enter Try.func74, Try.ntmps74
  go_wp2_with (first | ((with_reducible refine gate_dst (N := 1) rfl ?_); refine box_event ?hg (N := 1) ?hd (cs := #[.int .i64 b, .int .i64 h, .int .i64 lo, .int .i64 r, .int .i64 f, .int .i64 le, .int .i64 lg]) (t := 41) ?hr ?_; (case hd => rfl); (case hg => rfl); (case hr => first | (go_simp; done) | (go_simp; rfl)); intro g0 hg_ w4 hbox_ hb_; have n0_ := Aside0.mk (below_step (by repeat (first | (with_reducible first | exact HB.out | apply below_alloc | apply pw_below_drewN | apply below_drew1) | exact HB.out)) hb_); have n1_ := Aside0.mk (hbox_); have n2_ : Aside0 (w.heap.size ≤ g0) := ⟨by rw [hg_]; exact (below_size (by repeat (first | (with_reducible first | exact HB.out | apply below_alloc | apply pw_below_drewN | apply below_drew1) | exact HB.out)))⟩; clear HB; have HB := n0_; have BKg0 := n1_; have GEg0 := n2_; clear n0_ n1_ n2_; have hc1 : w4.cell? ⟨g0, 0, none⟩ = some (.int .i64 b) := (blk_cell BKg0.out 0).trans rfl; have hf1 := blk_frozen BKg0.out 0; have hc2 : w4.cell? ⟨g0, 1, none⟩ = some (.int .i64 h) := (blk_cell BKg0.out 1).trans rfl; have hf2 := blk_frozen BKg0.out 1; have hc3 : w4.cell? ⟨g0, 2, none⟩ = some (.int .i64 lo) := (blk_cell BKg0.out 2).trans rfl; have hf3 := blk_frozen BKg0.out 2; have hc4 : w4.cell? ⟨g0, 3, none⟩ = some (.int .i64 r) := (blk_cell BKg0.out 3).trans rfl; have hf4 := blk_frozen BKg0.out 3; have hc5 : w4.cell? ⟨g0, 4, none⟩ = some (.int .i64 f) := (blk_cell BKg0.out 4).trans rfl; have hf5 := blk_frozen BKg0.out 4; have hc6 : w4.cell? ⟨g0, 5, none⟩ = some (.int .i64 le) := (blk_cell BKg0.out 5).trans rfl; have hf6 := blk_frozen BKg0.out 5; have hc7 : w4.cell? ⟨g0, 6, none⟩ = some (.int .i64 lg) := (blk_cell BKg0.out 6).trans rfl; have hf7 := blk_frozen BKg0.out 6; clear hb_ hbox_ hg_) | (go_at_call_of 93 (Value.int .i64 b); refine (in93 b 1 4096 true _ T0.out).mono ?_; rintro e w' ⟨rfl, rfl⟩) | (go_at_call_of 93 (Value.int .i64 lo); refine (in93 lo 0 h true _ T1.out).mono ?_; rintro e w' ⟨rfl, rfl⟩) | (go_at_call_of 93 (Value.int .i64 r); refine (in93 r 1 1000 false _ T3.out).mono ?_; rintro e w' ⟨rfl, rfl⟩))
  go_ret
  exact ⟨rfl, (by repeat (first | (with_reducible first | exact HB.out | apply below_alloc | apply pw_below_drewN | apply below_drew1 | refine below_set ?_ GEg0.out) | exact HB.out))⟩
set_option maxHeartbeats 8000000 in
set_option maxRecDepth 100000 in
theorem right_4 (b h lo r f le lg : Int) (w : World) (t0 : (decide (1 ≤ b) && decide (b ≤ 4096)) = true) (t1 : (decide (0 ≤ lo) && decide (lo ≤ h)) = true) (t2 : decide (h ≤ 1073741824) = true) (t3 : (decide (1 ≤ r) && decide (r ≤ 1000)) = true) (t4 : (decide (1 ≤ f) && decide (f ≤ 1000)) = false) : Calls Try.prog 74 #[.agg #[.int .i64 b, .int .i64 h, .int .i64 lo, .int .i64 r, .int .i64 f, .int .i64 le, .int .i64 lg]] w fun e w' => e = .returned (.bool false) ∧ Below w.heap.size w w' := by
  have hu41 := Try.underlying41
  have HB := Aside0.mk (Below.refl w.heap.size w)
  have T0 := Aside0.mk t0
  have T1 := Aside0.mk t1
  have T3 := Aside0.mk t3
  have T4 := Aside0.mk t4
  clear t0 t1 t3 t4
  go_enter Try.func74, Try.ntmps74
  go_wp2_with (first | ((with_reducible refine gate_dst (N := 1) rfl ?_); refine box_event ?hg (N := 1) ?hd (cs := #[.int .i64 b, .int .i64 h, .int .i64 lo, .int .i64 r, .int .i64 f, .int .i64 le, .int .i64 lg]) (t := 41) ?hr ?_; (case hd => rfl); (case hg => rfl); (case hr => first | (go_simp; done) | (go_simp; rfl)); intro g0 hg_ w4 hbox_ hb_; have n0_ := Aside0.mk (below_step (by repeat (first | (with_reducible first | exact HB.out | apply below_alloc | apply pw_below_drewN | apply below_drew1) | exact HB.out)) hb_); have n1_ := Aside0.mk (hbox_); have n2_ : Aside0 (w.heap.size ≤ g0) := ⟨by rw [hg_]; exact (below_size (by repeat (first | (with_reducible first | exact HB.out | apply below_alloc | apply pw_below_drewN | apply below_drew1) | exact HB.out)))⟩; clear HB; have HB := n0_; have BKg0 := n1_; have GEg0 := n2_; clear n0_ n1_ n2_; have hc1 : w4.cell? ⟨g0, 0, none⟩ = some (.int .i64 b) := (blk_cell BKg0.out 0).trans rfl; have hf1 := blk_frozen BKg0.out 0; have hc2 : w4.cell? ⟨g0, 1, none⟩ = some (.int .i64 h) := (blk_cell BKg0.out 1).trans rfl; have hf2 := blk_frozen BKg0.out 1; have hc3 : w4.cell? ⟨g0, 2, none⟩ = some (.int .i64 lo) := (blk_cell BKg0.out 2).trans rfl; have hf3 := blk_frozen BKg0.out 2; have hc4 : w4.cell? ⟨g0, 3, none⟩ = some (.int .i64 r) := (blk_cell BKg0.out 3).trans rfl; have hf4 := blk_frozen BKg0.out 3; have hc5 : w4.cell? ⟨g0, 4, none⟩ = some (.int .i64 f) := (blk_cell BKg0.out 4).trans rfl; have hf5 := blk_frozen BKg0.out 4; have hc6 : w4.cell? ⟨g0, 5, none⟩ = some (.int .i64 le) := (blk_cell BKg0.out 5).trans rfl; have hf6 := blk_frozen BKg0.out 5; have hc7 : w4.cell? ⟨g0, 6, none⟩ = some (.int .i64 lg) := (blk_cell BKg0.out 6).trans rfl; have hf7 := blk_frozen BKg0.out 6; clear hb_ hbox_ hg_) | (go_at_call_of 93 (Value.int .i64 b); refine (in93 b 1 4096 true _ T0.out).mono ?_; rintro e w' ⟨rfl, rfl⟩) | (go_at_call_of 93 (Value.int .i64 lo); refine (in93 lo 0 h true _ T1.out).mono ?_; rintro e w' ⟨rfl, rfl⟩) | (go_at_call_of 93 (Value.int .i64 r); refine (in93 r 1 1000 true _ T3.out).mono ?_; rintro e w' ⟨rfl, rfl⟩) | (go_at_call_of 93 (Value.int .i64 f); refine (in93 f 1 1000 false _ T4.out).mono ?_; rintro e w' ⟨rfl, rfl⟩))
  go_ret
  exact ⟨rfl, (by repeat (first | (with_reducible first | exact HB.out | apply below_alloc | apply pw_below_drewN | apply below_drew1 | refine below_set ?_ GEg0.out) | exact HB.out))⟩
set_option maxHeartbeats 8000000 in
set_option maxRecDepth 100000 in
theorem right_5 (b h lo r f le lg : Int) (w : World) (t0 : (decide (1 ≤ b) && decide (b ≤ 4096)) = true) (t1 : (decide (0 ≤ lo) && decide (lo ≤ h)) = true) (t2 : decide (h ≤ 1073741824) = true) (t3 : (decide (1 ≤ r) && decide (r ≤ 1000)) = true) (t4 : (decide (1 ≤ f) && decide (f ≤ 1000)) = true) (t5 : (decide (0 ≤ le) && decide (le ≤ 1000)) = false) : Calls Try.prog 74 #[.agg #[.int .i64 b, .int .i64 h, .int .i64 lo, .int .i64 r, .int .i64 f, .int .i64 le, .int .i64 lg]] w fun e w' => e = .returned (.bool false) ∧ Below w.heap.size w w' := by
  have hu41 := Try.underlying41
  have HB := Aside0.mk (Below.refl w.heap.size w)
  have T0 := Aside0.mk t0
  have T1 := Aside0.mk t1
  have T3 := Aside0.mk t3
  have T4 := Aside0.mk t4
  have T5 := Aside0.mk t5
  clear t0 t1 t3 t4 t5
  go_enter Try.func74, Try.ntmps74
  go_wp2_with (first | ((with_reducible refine gate_dst (N := 1) rfl ?_); refine box_event ?hg (N := 1) ?hd (cs := #[.int .i64 b, .int .i64 h, .int .i64 lo, .int .i64 r, .int .i64 f, .int .i64 le, .int .i64 lg]) (t := 41) ?hr ?_; (case hd => rfl); (case hg => rfl); (case hr => first | (go_simp; done) | (go_simp; rfl)); intro g0 hg_ w4 hbox_ hb_; have n0_ := Aside0.mk (below_step (by repeat (first | (with_reducible first | exact HB.out | apply below_alloc | apply pw_below_drewN | apply below_drew1) | exact HB.out)) hb_); have n1_ := Aside0.mk (hbox_); have n2_ : Aside0 (w.heap.size ≤ g0) := ⟨by rw [hg_]; exact (below_size (by repeat (first | (with_reducible first | exact HB.out | apply below_alloc | apply pw_below_drewN | apply below_drew1) | exact HB.out)))⟩; clear HB; have HB := n0_; have BKg0 := n1_; have GEg0 := n2_; clear n0_ n1_ n2_; have hc1 : w4.cell? ⟨g0, 0, none⟩ = some (.int .i64 b) := (blk_cell BKg0.out 0).trans rfl; have hf1 := blk_frozen BKg0.out 0; have hc2 : w4.cell? ⟨g0, 1, none⟩ = some (.int .i64 h) := (blk_cell BKg0.out 1).trans rfl; have hf2 := blk_frozen BKg0.out 1; have hc3 : w4.cell? ⟨g0, 2, none⟩ = some (.int .i64 lo) := (blk_cell BKg0.out 2).trans rfl; have hf3 := blk_frozen BKg0.out 2; have hc4 : w4.cell? ⟨g0, 3, none⟩ = some (.int .i64 r) := (blk_cell BKg0.out 3).trans rfl; have hf4 := blk_frozen BKg0.out 3; have hc5 : w4.cell? ⟨g0, 4, none⟩ = some (.int .i64 f) := (blk_cell BKg0.out 4).trans rfl; have hf5 := blk_frozen BKg0.out 4; have hc6 : w4.cell? ⟨g0, 5, none⟩ = some (.int .i64 le) := (blk_cell BKg0.out 5).trans rfl; have hf6 := blk_frozen BKg0.out 5; have hc7 : w4.cell? ⟨g0, 6, none⟩ = some (.int .i64 lg) := (blk_cell BKg0.out 6).trans rfl; have hf7 := blk_frozen BKg0.out 6; clear hb_ hbox_ hg_) | (go_at_call_of 93 (Value.int .i64 b); refine (in93 b 1 4096 true _ T0.out).mono ?_; rintro e w' ⟨rfl, rfl⟩) | (go_at_call_of 93 (Value.int .i64 lo); refine (in93 lo 0 h true _ T1.out).mono ?_; rintro e w' ⟨rfl, rfl⟩) | (go_at_call_of 93 (Value.int .i64 r); refine (in93 r 1 1000 true _ T3.out).mono ?_; rintro e w' ⟨rfl, rfl⟩) | (go_at_call_of 93 (Value.int .i64 f); refine (in93 f 1 1000 true _ T4.out).mono ?_; rintro e w' ⟨rfl, rfl⟩) | (go_at_call_of 93 (Value.int .i64 le); refine (in93 le 0 1000 false _ T5.out).mono ?_; rintro e w' ⟨rfl, rfl⟩))
  go_ret
  exact ⟨rfl, (by repeat (first | (with_reducible first | exact HB.out | apply below_alloc | apply pw_below_drewN | apply below_drew1 | refine below_set ?_ GEg0.out) | exact HB.out))⟩
set_option maxHeartbeats 8000000 in
set_option maxRecDepth 100000 in
theorem right_6 (b h lo r f le lg : Int) (w : World) (t0 : (decide (1 ≤ b) && decide (b ≤ 4096)) = true) (t1 : (decide (0 ≤ lo) && decide (lo ≤ h)) = true) (t2 : decide (h ≤ 1073741824) = true) (t3 : (decide (1 ≤ r) && decide (r ≤ 1000)) = true) (t4 : (decide (1 ≤ f) && decide (f ≤ 1000)) = true) (t5 : (decide (0 ≤ le) && decide (le ≤ 1000)) = true) (t6 : (decide ((r + f + le) ≤ lg) && decide (lg ≤ 100000)) = false) : Calls Try.prog 74 #[.agg #[.int .i64 b, .int .i64 h, .int .i64 lo, .int .i64 r, .int .i64 f, .int .i64 le, .int .i64 lg]] w fun e w' => e = .returned (.bool false) ∧ Below w.heap.size w w' := by
  have hu41 := Try.underlying41
  have HB := Aside0.mk (Below.refl w.heap.size w)
  have T0 := Aside0.mk t0
  have T1 := Aside0.mk t1
  have T3 := Aside0.mk t3
  have T4 := Aside0.mk t4
  have T5 := Aside0.mk t5
  have T6 := Aside0.mk t6
  have u3 : (1 ≤ r ∧ r ≤ 1000) := by simpa using t3
  have u3a := u3.1
  have u3b := u3.2
  clear u3
  have u4 : (1 ≤ f ∧ f ≤ 1000) := by simpa using t4
  have u4a := u4.1
  have u4b := u4.2
  clear u4
  have u5 : (0 ≤ le ∧ le ≤ 1000) := by simpa using t5
  have u5a := u5.1
  have u5b := u5.2
  clear u5
  clear t0 t1 t3 t4 t5 t6
  go_enter Try.func74, Try.ntmps74
  go_wp2_with (first | ((with_reducible refine gate_dst (N := 1) rfl ?_); refine box_event ?hg (N := 1) ?hd (cs := #[.int .i64 b, .int .i64 h, .int .i64 lo, .int .i64 r, .int .i64 f, .int .i64 le, .int .i64 lg]) (t := 41) ?hr ?_; (case hd => rfl); (case hg => rfl); (case hr => first | (go_simp; done) | (go_simp; rfl)); intro g0 hg_ w4 hbox_ hb_; have n0_ := Aside0.mk (below_step (by repeat (first | (with_reducible first | exact HB.out | apply below_alloc | apply pw_below_drewN | apply below_drew1) | exact HB.out)) hb_); have n1_ := Aside0.mk (hbox_); have n2_ : Aside0 (w.heap.size ≤ g0) := ⟨by rw [hg_]; exact (below_size (by repeat (first | (with_reducible first | exact HB.out | apply below_alloc | apply pw_below_drewN | apply below_drew1) | exact HB.out)))⟩; clear HB; have HB := n0_; have BKg0 := n1_; have GEg0 := n2_; clear n0_ n1_ n2_; have hc1 : w4.cell? ⟨g0, 0, none⟩ = some (.int .i64 b) := (blk_cell BKg0.out 0).trans rfl; have hf1 := blk_frozen BKg0.out 0; have hc2 : w4.cell? ⟨g0, 1, none⟩ = some (.int .i64 h) := (blk_cell BKg0.out 1).trans rfl; have hf2 := blk_frozen BKg0.out 1; have hc3 : w4.cell? ⟨g0, 2, none⟩ = some (.int .i64 lo) := (blk_cell BKg0.out 2).trans rfl; have hf3 := blk_frozen BKg0.out 2; have hc4 : w4.cell? ⟨g0, 3, none⟩ = some (.int .i64 r) := (blk_cell BKg0.out 3).trans rfl; have hf4 := blk_frozen BKg0.out 3; have hc5 : w4.cell? ⟨g0, 4, none⟩ = some (.int .i64 f) := (blk_cell BKg0.out 4).trans rfl; have hf5 := blk_frozen BKg0.out 4; have hc6 : w4.cell? ⟨g0, 5, none⟩ = some (.int .i64 le) := (blk_cell BKg0.out 5).trans rfl; have hf6 := blk_frozen BKg0.out 5; have hc7 : w4.cell? ⟨g0, 6, none⟩ = some (.int .i64 lg) := (blk_cell BKg0.out 6).trans rfl; have hf7 := blk_frozen BKg0.out 6; clear hb_ hbox_ hg_) | (go_at_call_of 93 (Value.int .i64 b); refine (in93 b 1 4096 true _ T0.out).mono ?_; rintro e w' ⟨rfl, rfl⟩) | (go_at_call_of 93 (Value.int .i64 lo); refine (in93 lo 0 h true _ T1.out).mono ?_; rintro e w' ⟨rfl, rfl⟩) | (go_at_call_of 93 (Value.int .i64 r); refine (in93 r 1 1000 true _ T3.out).mono ?_; rintro e w' ⟨rfl, rfl⟩) | (go_at_call_of 93 (Value.int .i64 f); refine (in93 f 1 1000 true _ T4.out).mono ?_; rintro e w' ⟨rfl, rfl⟩) | (go_at_call_of 93 (Value.int .i64 le); refine (in93 le 0 1000 true _ T5.out).mono ?_; rintro e w' ⟨rfl, rfl⟩) | (go_at_call_of 93 (Value.int .i64 lg); refine (in93 lg (r + f + le) 100000 false _ T6.out).mono ?_; rintro e w' ⟨rfl, rfl⟩))
  go_ret
  exact ⟨rfl, (by repeat (first | (with_reducible first | exact HB.out | apply below_alloc | apply pw_below_drewN | apply below_drew1 | refine below_set ?_ GEg0.out) | exact HB.out))⟩
set_option maxHeartbeats 8000000 in
set_option maxRecDepth 100000 in
theorem right_7 (b h lo r f le lg : Int) (w : World) (t0 : (decide (1 ≤ b) && decide (b ≤ 4096)) = true) (t1 : (decide (0 ≤ lo) && decide (lo ≤ h)) = true) (t2 : decide (h ≤ 1073741824) = true) (t3 : (decide (1 ≤ r) && decide (r ≤ 1000)) = true) (t4 : (decide (1 ≤ f) && decide (f ≤ 1000)) = true) (t5 : (decide (0 ≤ le) && decide (le ≤ 1000)) = true) (t6 : (decide ((r + f + le) ≤ lg) && decide (lg ≤ 100000)) = true) : Calls Try.prog 74 #[.agg #[.int .i64 b, .int .i64 h, .int .i64 lo, .int .i64 r, .int .i64 f, .int .i64 le, .int .i64 lg]] w fun e w' => e = .returned (.bool true) ∧ Below w.heap.size w w' := by
  have hu41 := Try.underlying41
  have HB := Aside0.mk (Below.refl w.heap.size w)
  have T0 := Aside0.mk t0
  have T1 := Aside0.mk t1
  have T3 := Aside0.mk t3
  have T4 := Aside0.mk t4
  have T5 := Aside0.mk t5
  have T6 := Aside0.mk t6
  have u3 : (1 ≤ r ∧ r ≤ 1000) := by simpa using t3
  have u3a := u3.1
  have u3b := u3.2
  clear u3
  have u4 : (1 ≤ f ∧ f ≤ 1000) := by simpa using t4
  have u4a := u4.1
  have u4b := u4.2
  clear u4
  have u5 : (0 ≤ le ∧ le ≤ 1000) := by simpa using t5
  have u5a := u5.1
  have u5b := u5.2
  clear u5
  clear t0 t1 t3 t4 t5 t6
  go_enter Try.func74, Try.ntmps74
  go_wp2_with (first | ((with_reducible refine gate_dst (N := 1) rfl ?_); refine box_event ?hg (N := 1) ?hd (cs := #[.int .i64 b, .int .i64 h, .int .i64 lo, .int .i64 r, .int .i64 f, .int .i64 le, .int .i64 lg]) (t := 41) ?hr ?_; (case hd => rfl); (case hg => rfl); (case hr => first | (go_simp; done) | (go_simp; rfl)); intro g0 hg_ w4 hbox_ hb_; have n0_ := Aside0.mk (below_step (by repeat (first | (with_reducible first | exact HB.out | apply below_alloc | apply pw_below_drewN | apply below_drew1) | exact HB.out)) hb_); have n1_ := Aside0.mk (hbox_); have n2_ : Aside0 (w.heap.size ≤ g0) := ⟨by rw [hg_]; exact (below_size (by repeat (first | (with_reducible first | exact HB.out | apply below_alloc | apply pw_below_drewN | apply below_drew1) | exact HB.out)))⟩; clear HB; have HB := n0_; have BKg0 := n1_; have GEg0 := n2_; clear n0_ n1_ n2_; have hc1 : w4.cell? ⟨g0, 0, none⟩ = some (.int .i64 b) := (blk_cell BKg0.out 0).trans rfl; have hf1 := blk_frozen BKg0.out 0; have hc2 : w4.cell? ⟨g0, 1, none⟩ = some (.int .i64 h) := (blk_cell BKg0.out 1).trans rfl; have hf2 := blk_frozen BKg0.out 1; have hc3 : w4.cell? ⟨g0, 2, none⟩ = some (.int .i64 lo) := (blk_cell BKg0.out 2).trans rfl; have hf3 := blk_frozen BKg0.out 2; have hc4 : w4.cell? ⟨g0, 3, none⟩ = some (.int .i64 r) := (blk_cell BKg0.out 3).trans rfl; have hf4 := blk_frozen BKg0.out 3; have hc5 : w4.cell? ⟨g0, 4, none⟩ = some (.int .i64 f) := (blk_cell BKg0.out 4).trans rfl; have hf5 := blk_frozen BKg0.out 4; have hc6 : w4.cell? ⟨g0, 5, none⟩ = some (.int .i64 le) := (blk_cell BKg0.out 5).trans rfl; have hf6 := blk_frozen BKg0.out 5; have hc7 : w4.cell? ⟨g0, 6, none⟩ = some (.int .i64 lg) := (blk_cell BKg0.out 6).trans rfl; have hf7 := blk_frozen BKg0.out 6; clear hb_ hbox_ hg_) | (go_at_call_of 93 (Value.int .i64 b); refine (in93 b 1 4096 true _ T0.out).mono ?_; rintro e w' ⟨rfl, rfl⟩) | (go_at_call_of 93 (Value.int .i64 lo); refine (in93 lo 0 h true _ T1.out).mono ?_; rintro e w' ⟨rfl, rfl⟩) | (go_at_call_of 93 (Value.int .i64 r); refine (in93 r 1 1000 true _ T3.out).mono ?_; rintro e w' ⟨rfl, rfl⟩) | (go_at_call_of 93 (Value.int .i64 f); refine (in93 f 1 1000 true _ T4.out).mono ?_; rintro e w' ⟨rfl, rfl⟩) | (go_at_call_of 93 (Value.int .i64 le); refine (in93 le 0 1000 true _ T5.out).mono ?_; rintro e w' ⟨rfl, rfl⟩) | (go_at_call_of 93 (Value.int .i64 lg); refine (in93 lg (r + f + le) 100000 true _ T6.out).mono ?_; rintro e w' ⟨rfl, rfl⟩))
  go_ret
  exact ⟨rfl, (by repeat (first | (with_reducible first | exact HB.out | apply below_alloc | apply pw_below_drewN | apply below_drew1 | refine below_set ?_ GEg0.out) | exact HB.out))⟩
theorem right_calls (b h lo r f le lg : Int) (w : World) (ok : Bool) (hk : gateOK ⟨b, h, lo, r, f, le, lg⟩ = ok) : Calls Try.prog 74 #[.agg #[.int .i64 b, .int .i64 h, .int .i64 lo, .int .i64 r, .int .i64 f, .int .i64 le, .int .i64 lg]] w fun e w' => e = .returned (.bool ok) ∧ Below w.heap.size w w' := by
  unfold gateOK at hk
  dsimp only at hk
  cases t0 : (decide (1 ≤ b) && decide (b ≤ 4096)) with
  | false =>
    have e : ok = false := by rw [← hk]; simp only [t0, Bool.false_and, Bool.true_and, Bool.and_false]
    subst e
    exact right_0 b h lo r f le lg w t0
  | true =>
    cases t1 : (decide (0 ≤ lo) && decide (lo ≤ h)) with
    | false =>
      have e : ok = false := by rw [← hk]; simp only [t0, t1, Bool.false_and, Bool.true_and, Bool.and_false]
      subst e
      exact right_1 b h lo r f le lg w t0 t1
    | true =>
      cases t2 : decide (h ≤ 1073741824) with
      | false =>
        have e : ok = false := by rw [← hk]; simp only [t0, t1, t2, Bool.false_and, Bool.true_and, Bool.and_false]
        subst e
        exact right_2 b h lo r f le lg w t0 t1 t2
      | true =>
        cases t3 : (decide (1 ≤ r) && decide (r ≤ 1000)) with
        | false =>
          have e : ok = false := by rw [← hk]; simp only [t0, t1, t2, t3, Bool.false_and, Bool.true_and, Bool.and_false]
          subst e
          exact right_3 b h lo r f le lg w t0 t1 t2 t3
        | true =>
          cases t4 : (decide (1 ≤ f) && decide (f ≤ 1000)) with
          | false =>
            have e : ok = false := by rw [← hk]; simp only [t0, t1, t2, t3, t4, Bool.false_and, Bool.true_and, Bool.and_false]
            subst e
            exact right_4 b h lo r f le lg w t0 t1 t2 t3 t4
          | true =>
            cases t5 : (decide (0 ≤ le) && decide (le ≤ 1000)) with
            | false =>
              have e : ok = false := by rw [← hk]; simp only [t0, t1, t2, t3, t4, t5, Bool.false_and, Bool.true_and, Bool.and_false]
              subst e
              exact right_5 b h lo r f le lg w t0 t1 t2 t3 t4 t5
            | true =>
              cases t6 : (decide ((r + f + le) ≤ lg) && decide (lg ≤ 100000)) with
              | false =>
                have e : ok = false := by rw [← hk]; simp only [t0, t1, t2, t3, t4, t5, t6, Bool.false_and, Bool.true_and, Bool.and_false]
                subst e
                exact right_6 b h lo r f le lg w t0 t1 t2 t3 t4 t5 t6
              | true =>
                have e : ok = true := by rw [← hk]; simp only [t0, t1, t2, t3, t4, t5, t6, Bool.true_and]
                subst e
                exact right_7 b h lo r f le lg w t0 t1 t2 t3 t4 t5 t6
end Go.Proofs.Ytigbfcodnbnicaa.P
