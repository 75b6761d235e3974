/- Frames: the frames of a list of values, or the error; for every list, size, step. -/
import Derived.Test.YtigbfcodnbnicaaHFrB
import Derived.Test.YtigbfcodnbnicaaHEnergy
set_option linter.unusedVariables false
set_option linter.unusedSimpArgs false
set_option linter.constructorNameAsVariable false
namespace Go.Proofs.Ytigbfcodnbnicaa.P
open Go.RowKit Go.Proofs.YtigbfcodnbnicaaW.PrintWords Go.Proofs.YtigbfcodnbnicaaW.PrintLast Go.Proofs.YtigbfcodnbnicaaW.PrintMore
attribute [local go_sem] Oper.semAt_some

def FramesPost (r1 : List (List Int)) (r2 : Int) (w : World) (e : Ending) (w' : World) : Prop := ∃ v0_ : Value, e = .returned (.tuple #[v0_, .int .i64 r2]) ∧ Kd.S (Kd.slice 3 (Kd.int .i64)) 22 w' w.heap.size (fun _ => True) v0_ r1 ∧ Below w.heap.size w w'
set_option maxHeartbeats 4000000 in
set_option maxRecDepth 100000 in
theorem frames_good (A0 : Option Addr) (c0 : Nat) (l0 : List Int) (sz st : Nat) (pad : Bool) (N : Nat) (w : World) (hr0 : Kd.C (Kd.int .i64) w A0 l0.length l0) (hc0 : l0.length ≤ c0)
    (hv : valErr l0 = 0) (hl : l0.length ≤ 200000) (hsz0 : 1 ≤ sz) (hsz : sz ≤ 4096) (hst0 : 1 ≤ st) (hst : st ≤ 4096) (hN : frameN l0.length sz st pad = (N : Int)) (hb : N * sz ≤ 4000000) :
    Calls Try.prog 52 #[.slice A0 l0.length c0, .int .i64 (sz : Int), .int .i64 (st : Int), .bool pad] w (FramesPost (framesTo l0 sz st N) 0 w) := by
  have hlt := frameN_lt l0.length sz st pad hsz0 hst0
  rw [hN, Int.toNat_natCast] at hlt
  have HR0 := Aside0.mk hr0
  have HC0 := Aside0.mk hc0
  have HLT : Aside0 (FrLt l0.length sz st pad N) := ⟨hlt⟩
  have HVAL := Aside0.mk (show wave_values.f l0 = some 0 by rw [values_val, hv])
  have hb1 : (N : Int) * (sz : Int) ≤ 4000000 := by rw [← Int.natCast_mul]; omega
  have hb0 : 0 ≤ (N : Int) * (sz : Int) := by rw [← Int.natCast_mul]; omega
  have hN4 : N ≤ 4000000 := Nat.le_trans (Nat.le_mul_of_pos_right _ hsz0) hb
  clear hr0 hc0 hlt hv hb
  unfold frameN at hN
  cases pad with
  | true =>
    rw [if_pos rfl] at hN
    refine callsIn_wide (n := 5).1 ?_
    refine callsIn_of_wp_marks Try.func52 rfl trivial ?_ rfl
    simp only [Try.ntmps52, List.size_toArray, List.length_cons, List.length_nil, Nat.reduceAdd, Nat.reduceSub, Array.replicate_succ, Array.replicate_zero, List.push_toArray, List.append_toArray, List.nil_append, List.cons_append]
    gi_wp2_with (first
      | (refine ⟨trivial, ?_⟩; gi_at_call 79; refine (callsIn_wide.2 (wave_values.calls A0 c0 l0 0 _ HR0.out HC0.out HVAL.out)).mono ?_; rintro e w1 ⟨rfl, hd⟩; obtain ⟨m1, hm1⟩ := hd.out; have hz1 : w1.heap.size = w.heap.size := (by subst hm1; rfl); have HB1 := Aside0.mk (show Below w.heap.size w w1 by subst hm1; exact pw_below_drewN (Below.refl _ _) _); clear hm1 hd)
      | (refine ⟨trivial, ?_⟩; gi_at_call 88; refine (callsIn_wide.2 (cut_calls w.heap.size A0 c0 l0.length (sz : Int) (st : Int) true _ (by simp [hz1]))).mono ?_; rintro e w2 ⟨rfl, hz2, hB2, hx2, hs2, ht2, hp2⟩))
    have hbx0 : (w1.alloc (.cells #[.slice none 0 0] 66 (0, 0))).heap[w.heap.size]? = some (.cells #[.slice none 0 0] 66 (0, 0)) := by rw [← hz1]; exact blk_new w1 _
    refine fr_range2 5 w.heap.size (by decide) w w2 rfl A0 c0 l0 sz st true _ hsz0 hsz hst0 hst hl HC0.out HLT.out rfl hz2 ((HB1.out.alloc (by omega) _).trans (hB2.mono (by omega))) ((hB2.block _ (by omega)).trans hbx0) hx2 hs2 ht2 hp2 HR0.out ?assign ?body ?done
    case assign =>
      intro l y W K hK
      simp only [List.setIfInBounds_toArray, List.set_cons_succ, List.set_cons_zero] at hK ⊢
      gi_wp2
      exact hK
    case body =>
      intro l k m y v W hk hm1 hm2 hbv hS hR
      simp only [List.setIfInBounds_toArray, List.set_cons_succ, List.set_cons_zero]
      have hcv := (blk_cell hbv 0).trans rfl
      have hfv := blk_frozen hbv 0
      have HBV := Aside0.mk hbv
      have hbase : ∀ q, v.ownBlock = some q → w.heap.size + 7 ≤ q := Kd.S_base hS
      have hlow : ∀ q, v.ownBlock = some q → q < m := (Kd.S_R hS).1
      rw [framesTo_succ]
      obtain ⟨Ay, cy, hy1⟩ := Kd.R_slice hR
      obtain ⟨ny, hny⟩ : ∃ ny, (frameAt l0 sz st k).length = ny := ⟨_, rfl⟩
      rw [hny] at hy1
      obtain ⟨Av, cv, hv1⟩ := Kd.S_slice hS
      obtain ⟨nv, hnv⟩ : ∃ nv, (framesTo l0 sz st k).length = nv := ⟨_, rfl⟩
      rw [hnv] at hv1
      subst hy1 hv1
      clear hbv hny hnv
      gi_wp2_with (gi_at_builtin; refine S_append_in (Kd.slice 3 (Kd.int .i64)) (w.heap.size + 7) rfl _ _ 66 22 (.slice none 0 0) 24 rfl Try.underlying66 info22 rfl (by decide) (by decide) (.slice Av nv cv) (framesTo l0 sz st k) (frameAt l0 sz st k) [.slice Ay ny cy] (fun _ => True) (fun q => m ≤ q) rfl rfl (Kd.M_row hR) (fun q hq => ⟨trivial, fun e => by have := hlow q e.symm; omega⟩) (fun _ _ => trivial) (Kd.S_mono hS (fun q hq => ⟨trivial, by omega⟩)) (by omega) (by rw [framesTo_length]; omega) ?_; intro v1 w3 hS3 hg3; have FP := Aside0.mk (fr_stored hm1 hm2 HBV.out hbase hg3 hS3); have hv3 := Aside0.mk (show Boxed w3 w.heap.size 66 (.slice Av nv cv) from (hg3.block _ (by omega) (fun e => by have := hbase _ e.symm; omega)).trans HBV.out); have hcv3 := hv3.out.cell; have hfv3 := hv3.out.frozen; obtain ⟨A3, c3, hv1⟩ := Kd.S_slice hS3; obtain ⟨n3, hn3⟩ : ∃ n3, (framesTo l0 sz st k ++ [frameAt l0 sz st k]).length = n3 := ⟨_, rfl⟩; rw [hn3] at hv1; subst hv1; clear hS3 hg3 hn3)
      exact FP.out
    case done =>
      intro v W hK hbv hS hB
      have hcv := (blk_cell hbv 0).trans rfl
      have HBV := Aside0.mk hbv
      clear hbv
      gi_wp2
      refine ⟨by simp, .inl ⟨_, _, rfl, run_takeDeferred hK, ?_⟩⟩
      refine ⟨_, results_tmp2 rfl _ _ _, v, rfl, ?_, ?_⟩
      · exact Kd.S_lower (Kd.S_mono (Kd.S_move (Kd.S_bound hS) (fun q hq => World.putObj_heap_other (by omega))) (fun _ _ => trivial)) (by omega)
      · exact hB.grown (grownBy_putObj' W (w.heap.size + 5) _) hB.size (fun q e => by cases e; omega)
  | false =>
    rw [if_neg (by decide)] at hN
    by_cases hge : (l0.length : Int) ≥ (sz : Int)
    · rw [if_pos hge] at hN
      have hw : wrap64 (((l0.length : Int) - (sz : Int)) / (st : Int) + 1) = (N : Int) := by
        have h1 := Int.ediv_nonneg (a := (l0.length : Int) - sz) (b := st) (by omega) (by omega)
        have h2 := Int.ediv_le_self (a := (l0.length : Int) - sz) (st : Int) (by omega)
        rw [w64 (by omega) (by omega), hN]
      clear hN
      refine callsIn_wide (n := 5).1 ?_
      refine callsIn_of_wp_marks Try.func52 rfl trivial ?_ rfl
      simp only [Try.ntmps52, List.size_toArray, List.length_cons, List.length_nil, Nat.reduceAdd, Nat.reduceSub, Array.replicate_succ, Array.replicate_zero, List.push_toArray, List.append_toArray, List.nil_append, List.cons_append]
      gi_wp2_with (first
        | (refine ⟨trivial, ?_⟩; gi_at_call 79; refine (callsIn_wide.2 (wave_values.calls A0 c0 l0 0 _ HR0.out HC0.out HVAL.out)).mono ?_; rintro e w1 ⟨rfl, hd⟩; obtain ⟨m1, hm1⟩ := hd.out; have hz1 : w1.heap.size = w.heap.size := (by subst hm1; rfl); have HB1 := Aside0.mk (show Below w.heap.size w w1 by subst hm1; exact pw_below_drewN (Below.refl _ _) _); clear hm1 hd)
        | (refine ⟨trivial, ?_⟩; gi_at_call 88; refine (callsIn_wide.2 (cut_calls w.heap.size A0 c0 l0.length (sz : Int) (st : Int) false _ (by simp [hz1]))).mono ?_; rintro e w2 ⟨rfl, hz2, hB2, hx2, hs2, ht2, hp2⟩))
      have hbx0 : (w1.alloc (.cells #[.slice none 0 0] 66 (0, 0))).heap[w.heap.size]? = some (.cells #[.slice none 0 0] 66 (0, 0)) := by rw [← hz1]; exact blk_new w1 _
      refine fr_range2 5 w.heap.size (by decide) w w2 rfl A0 c0 l0 sz st false _ hsz0 hsz hst0 hst hl HC0.out HLT.out rfl hz2 ((HB1.out.alloc (by omega) _).trans (hB2.mono (by omega))) ((hB2.block _ (by omega)).trans hbx0) hx2 hs2 ht2 hp2 HR0.out ?assign ?body ?done
      case assign =>
        intro l y W K hK
        simp only [List.setIfInBounds_toArray, List.set_cons_succ, List.set_cons_zero] at hK ⊢
        gi_wp2
        exact hK
      case body =>
        intro l k m y v W hk hm1 hm2 hbv hS hR
        simp only [List.setIfInBounds_toArray, List.set_cons_succ, List.set_cons_zero]
        have hcv := (blk_cell hbv 0).trans rfl
        have hfv := blk_frozen hbv 0
        have HBV := Aside0.mk hbv
        have hbase : ∀ q, v.ownBlock = some q → w.heap.size + 7 ≤ q := Kd.S_base hS
        have hlow : ∀ q, v.ownBlock = some q → q < m := (Kd.S_R hS).1
        rw [framesTo_succ]
        obtain ⟨Ay, cy, hy1⟩ := Kd.R_slice hR
        obtain ⟨ny, hny⟩ : ∃ ny, (frameAt l0 sz st k).length = ny := ⟨_, rfl⟩
        rw [hny] at hy1
        obtain ⟨Av, cv, hv1⟩ := Kd.S_slice hS
        obtain ⟨nv, hnv⟩ : ∃ nv, (framesTo l0 sz st k).length = nv := ⟨_, rfl⟩
        rw [hnv] at hv1
        subst hy1 hv1
        clear hbv hny hnv
        gi_wp2_with (gi_at_builtin; refine S_append_in (Kd.slice 3 (Kd.int .i64)) (w.heap.size + 7) rfl _ _ 66 22 (.slice none 0 0) 24 rfl Try.underlying66 info22 rfl (by decide) (by decide) (.slice Av nv cv) (framesTo l0 sz st k) (frameAt l0 sz st k) [.slice Ay ny cy] (fun _ => True) (fun q => m ≤ q) rfl rfl (Kd.M_row hR) (fun q hq => ⟨trivial, fun e => by have := hlow q e.symm; omega⟩) (fun _ _ => trivial) (Kd.S_mono hS (fun q hq => ⟨trivial, by omega⟩)) (by omega) (by rw [framesTo_length]; omega) ?_; intro v1 w3 hS3 hg3; have FP := Aside0.mk (fr_stored hm1 hm2 HBV.out hbase hg3 hS3); have hv3 := Aside0.mk (show Boxed w3 w.heap.size 66 (.slice Av nv cv) from (hg3.block _ (by omega) (fun e => by have := hbase _ e.symm; omega)).trans HBV.out); have hcv3 := hv3.out.cell; have hfv3 := hv3.out.frozen; obtain ⟨A3, c3, hv1⟩ := Kd.S_slice hS3; obtain ⟨n3, hn3⟩ : ∃ n3, (framesTo l0 sz st k ++ [frameAt l0 sz st k]).length = n3 := ⟨_, rfl⟩; rw [hn3] at hv1; subst hv1; clear hS3 hg3 hn3)
        exact FP.out
      case done =>
        intro v W hK hbv hS hB
        have hcv := (blk_cell hbv 0).trans rfl
        have HBV := Aside0.mk hbv
        clear hbv
        gi_wp2
        refine ⟨by simp, .inl ⟨_, _, rfl, run_takeDeferred hK, ?_⟩⟩
        refine ⟨_, results_tmp2 rfl _ _ _, v, rfl, ?_, ?_⟩
        · exact Kd.S_lower (Kd.S_mono (Kd.S_move (Kd.S_bound hS) (fun q hq => World.putObj_heap_other (by omega))) (fun _ _ => trivial)) (by omega)
        · exact hB.grown (grownBy_putObj' W (w.heap.size + 5) _) hB.size (fun q e => by cases e; omega)
    · rw [if_neg hge] at hN
      have hN0 : N = 0 := by omega
      subst hN0
      clear hN
      refine callsIn_wide (n := 5).1 ?_
      refine callsIn_of_wp_marks Try.func52 rfl trivial ?_ rfl
      simp only [Try.ntmps52, List.size_toArray, List.length_cons, List.length_nil, Nat.reduceAdd, Nat.reduceSub, Array.replicate_succ, Array.replicate_zero, List.push_toArray, List.append_toArray, List.nil_append, List.cons_append]
      gi_wp2_with (first
        | (refine ⟨trivial, ?_⟩; gi_at_call 79; refine (callsIn_wide.2 (wave_values.calls A0 c0 l0 0 _ HR0.out HC0.out HVAL.out)).mono ?_; rintro e w1 ⟨rfl, hd⟩; obtain ⟨m1, hm1⟩ := hd.out; have hz1 : w1.heap.size = w.heap.size := (by subst hm1; rfl); have HB1 := Aside0.mk (show Below w.heap.size w w1 by subst hm1; exact pw_below_drewN (Below.refl _ _) _); clear hm1 hd)
        | (refine ⟨trivial, ?_⟩; gi_at_call 88; refine (callsIn_wide.2 (cut_calls w.heap.size A0 c0 l0.length (sz : Int) (st : Int) false _ (by simp [hz1]))).mono ?_; rintro e w2 ⟨rfl, hz2, hB2, hx2, hs2, ht2, hp2⟩))
      have hbx0 : (w1.alloc (.cells #[.slice none 0 0] 66 (0, 0))).heap[w.heap.size]? = some (.cells #[.slice none 0 0] 66 (0, 0)) := by rw [← hz1]; exact blk_new w1 _
      refine fr_range2 5 w.heap.size (by decide) w w2 rfl A0 c0 l0 sz st false _ hsz0 hsz hst0 hst hl HC0.out HLT.out rfl hz2 ((HB1.out.alloc (by omega) _).trans (hB2.mono (by omega))) ((hB2.block _ (by omega)).trans hbx0) hx2 hs2 ht2 hp2 HR0.out ?assign ?body ?done
      case assign =>
        intro l y W K hK
        simp only [List.setIfInBounds_toArray, List.set_cons_succ, List.set_cons_zero] at hK ⊢
        gi_wp2
        exact hK
      case body =>
        intro l k m y v W hk hm1 hm2 hbv hS hR
        exact absurd hk (Nat.not_lt_zero _)
      case done =>
        intro v W hK hbv hS hB
        have hcv := (blk_cell hbv 0).trans rfl
        have HBV := Aside0.mk hbv
        clear hbv
        gi_wp2
        refine ⟨by simp, .inl ⟨_, _, rfl, run_takeDeferred hK, ?_⟩⟩
        refine ⟨_, results_tmp2 rfl _ _ _, v, rfl, ?_, ?_⟩
        · exact Kd.S_lower (Kd.S_mono (Kd.S_move (Kd.S_bound hS) (fun q hq => World.putObj_heap_other (by omega))) (fun _ _ => trivial)) (by omega)
        · exact hB.grown (grownBy_putObj' W (w.heap.size + 5) _) hB.size (fun q e => by cases e; omega)
set_option maxHeartbeats 2000000 in
set_option maxRecDepth 100000 in
theorem frames_err (A0 : Option Addr) (c0 : Nat) (l0 : List Int) (a1 a2 : Int) (pad : Bool) (er : Int) (w : World) (hr0 : Kd.C (Kd.int .i64) w A0 l0.length l0) (hc0 : l0.length ≤ c0) (hv : valErr l0 = er) (he : er ≠ 0) :
    Calls Try.prog 52 #[.slice A0 l0.length c0, .int .i64 a1, .int .i64 a2, .bool pad] w (FramesPost [] er w) := by
  have HR0 := Aside0.mk hr0
  have HC0 := Aside0.mk hc0
  have HVAL := Aside0.mk (show wave_values.f l0 = some er by rw [values_val, hv])
  have he2 : (er == 0) = false := beq_eq_false_iff_ne.2 he
  clear hr0 hc0 hv
  go_enter Try.func52, Try.ntmps52
  go_wp2_with (go_at_call 79; refine (wave_values.calls A0 c0 l0 er _ HR0.out HC0.out HVAL.out).mono ?_; rintro e w1 ⟨rfl, hd⟩; obtain ⟨m1, hm1⟩ := hd.out; have HB1 := Aside0.mk (show Below w.heap.size w w1 by subst hm1; exact pw_below_drewN (Below.refl _ _) _); clear hm1 hd)
  go_ret2
  exact ⟨_, rfl, Kd.S_nil _ _ _ _ _, HB1.out⟩
set_option maxHeartbeats 2000000 in
set_option maxRecDepth 100000 in
theorem frames_arg (A0 : Option Addr) (c0 : Nat) (l0 : List Int) (a1 a2 : Int) (pad : Bool) (w : World) (hr0 : Kd.C (Kd.int .i64) w A0 l0.length l0) (hc0 : l0.length ≤ c0) (hv : valErr l0 = 0) (hbad : (decide (a1 < 1) || decide (4096 < a1) || decide (a2 < 1) || decide (4096 < a2)) = true) :
    Calls Try.prog 52 #[.slice A0 l0.length c0, .int .i64 a1, .int .i64 a2, .bool pad] w (FramesPost [] 2 w) := by
  have HR0 := Aside0.mk hr0
  have HC0 := Aside0.mk hc0
  have HVAL := Aside0.mk (show wave_values.f l0 = some 0 by rw [values_val, hv])
  have hbad2 : a1 < 1 ∨ (1 ≤ a1 ∧ 4096 < a1) ∨ (1 ≤ a1 ∧ a1 ≤ 4096 ∧ a2 < 1) ∨ (1 ≤ a1 ∧ a1 ≤ 4096 ∧ 1 ≤ a2 ∧ 4096 < a2) := by
    simp only [Bool.or_eq_true, decide_eq_true_eq] at hbad
    omega
  clear hr0 hc0 hv hbad
  rcases hbad2 with h1 | ⟨h1, h2⟩ | ⟨h1, h2, h3⟩ | ⟨h1, h2, h3, h4⟩
  all_goals
    go_enter Try.func52, Try.ntmps52
    go_wp2_with (go_at_call 79; refine (wave_values.calls A0 c0 l0 0 _ HR0.out HC0.out HVAL.out).mono ?_; rintro e w1 ⟨rfl, hd⟩; obtain ⟨m1, hm1⟩ := hd.out; have HB1 := Aside0.mk (show Below w.heap.size w w1 by subst hm1; exact pw_below_drewN (Below.refl _ _) _); clear hm1 hd)
    go_ret2
    exact ⟨_, rfl, Kd.S_nil _ _ _ _ _, HB1.out⟩
set_option maxHeartbeats 2000000 in
set_option maxRecDepth 100000 in
theorem frames_long (A0 : Option Addr) (c0 : Nat) (l0 : List Int) (sz st : Nat) (pad : Bool) (N : Nat) (w : World) (hr0 : Kd.C (Kd.int .i64) w A0 l0.length l0) (hc0 : l0.length ≤ c0) (hv : valErr l0 = 0) (hl : l0.length ≤ 200000)
    (hsz0 : 1 ≤ sz) (hsz : sz ≤ 4096) (hst0 : 1 ≤ st) (hst : st ≤ 4096) (hN : frameN l0.length sz st pad = (N : Int)) (hb : 4000000 < N * sz) (hN3 : N ≤ 204096) :
    Calls Try.prog 52 #[.slice A0 l0.length c0, .int .i64 (sz : Int), .int .i64 (st : Int), .bool pad] w (FramesPost [] 5 w) := by
  have HR0 := Aside0.mk hr0
  have HC0 := Aside0.mk hc0
  have HVAL := Aside0.mk (show wave_values.f l0 = some 0 by rw [values_val, hv])
  have hb1 : 4000000 < (N : Int) * (sz : Int) := by rw [← Int.natCast_mul]; omega
  have hb2 : (N : Int) * (sz : Int) ≤ 835977216 := by
    have := Nat.mul_le_mul hN3 hsz
    rw [← Int.natCast_mul]
    omega
  clear hr0 hc0 hv hN3
  unfold frameN at hN
  cases pad with
  | true =>
    rw [if_pos rfl] at hN
    clear hb
    go_enter Try.func52, Try.ntmps52
    go_wp2_with (go_at_call 79; refine (wave_values.calls A0 c0 l0 0 _ HR0.out HC0.out HVAL.out).mono ?_; rintro e w1 ⟨rfl, hd⟩; obtain ⟨m1, hm1⟩ := hd.out; have HB1 := Aside0.mk (show Below w.heap.size w w1 by subst hm1; exact pw_below_drewN (Below.refl _ _) _); clear hm1 hd)
    go_ret2
    exact ⟨_, rfl, Kd.S_nil _ _ _ _ _, HB1.out⟩
  | false =>
    rw [if_neg (by decide)] at hN
    by_cases hge : (l0.length : Int) ≥ (sz : Int)
    · rw [if_pos hge] at hN
      have hw : wrap64 (((l0.length : Int) - (sz : Int)) / (st : Int) + 1) = (N : Int) := by
        have h1 := Int.ediv_nonneg (a := (l0.length : Int) - sz) (b := st) (by omega) (by omega)
        have h2 := Int.ediv_le_self (a := (l0.length : Int) - sz) (st : Int) (by omega)
        rw [w64 (by omega) (by omega), hN]
      clear hN hb
      go_enter Try.func52, Try.ntmps52
      go_wp2_with (go_at_call 79; refine (wave_values.calls A0 c0 l0 0 _ HR0.out HC0.out HVAL.out).mono ?_; rintro e w1 ⟨rfl, hd⟩; obtain ⟨m1, hm1⟩ := hd.out; have HB1 := Aside0.mk (show Below w.heap.size w w1 by subst hm1; exact pw_below_drewN (Below.refl _ _) _); clear hm1 hd)
      go_ret2
      exact ⟨_, rfl, Kd.S_nil _ _ _ _ _, HB1.out⟩
    · rw [if_neg hge] at hN
      have hN0 : N = 0 := by omega
      subst hN0
      rw [Nat.zero_mul] at hb
      exact absurd hb (by decide)
theorem frameN_bd (n sz st : Nat) (pad : Bool) (h1 : 1 ≤ sz) (h2 : 1 ≤ st) (hn : n ≤ 200000) (hst : st ≤ 4096) : 0 ≤ frameN n sz st pad ∧ frameN n sz st pad ≤ 204096 := by
  unfold frameN
  split
  · have a1 := Int.ediv_nonneg (a := (n : Int) + st - 1) (b := st) (by omega) (by omega)
    have a2 := Int.ediv_le_self (a := (n : Int) + st - 1) (st : Int) (by omega)
    omega
  · split
    · have a1 := Int.ediv_nonneg (a := (n : Int) - sz) (b := st) (by omega) (by omega)
      have a2 := Int.ediv_le_self (a := (n : Int) - sz) (st : Int) (by omega)
      omega
    · omega
theorem wave_Frames.calls (A0 : Option Addr) (c0 : Nat) (l0 : List Int) (a1 : Int) (a2 : Int) (a3 : Bool) (r1 : List (List Int)) (r2 : Int) (w : World) (hr0 : Kd.C (Kd.int .i64) w A0 l0.length l0) (hc0 : l0.length ≤ c0) (h : wave_Frames.f l0 a1 a2 a3 = some (r1, r2)) :
    Calls Try.prog 52 #[.slice A0 l0.length c0, .int .i64 a1, .int .i64 a2, .bool a3] w fun e w' => ∃ v0_ : Value, e = .returned (.tuple #[v0_, .int .i64 r2]) ∧ Kd.S (Kd.slice 3 (Kd.int .i64)) 22 w' w.heap.size (fun _ => True) v0_ r1 ∧ Below w.heap.size w w' := by
  unfold wave_Frames.f at h
  by_cases c1 : valErr l0 ≠ 0
  · rw [if_pos c1] at h
    simp only [Option.some.injEq, Prod.mk.injEq] at h
    obtain ⟨rfl, h2⟩ := h
    exact frames_err A0 c0 l0 a1 a2 a3 r2 w hr0 hc0 h2 (by rw [← h2]; exact c1)
  have hv : valErr l0 = 0 := Decidable.not_not.1 c1
  rw [if_neg c1] at h
  have hl : l0.length ≤ 200000 := by
    rcases Nat.lt_or_ge 200000 l0.length with h9 | h9
    · unfold valErr at hv
      rw [if_pos h9] at hv
      cases hv
    · exact h9
  by_cases c2 : a1 < 1 ∨ a1 > 4096 ∨ a2 < 1 ∨ a2 > 4096
  · rw [if_pos c2] at h
    simp only [Option.some.injEq, Prod.mk.injEq] at h
    obtain ⟨rfl, rfl⟩ := h
    exact frames_arg A0 c0 l0 a1 a2 a3 w hr0 hc0 hv (by
      simp only [Bool.or_eq_true, decide_eq_true_eq]
      omega)
  rw [if_neg c2] at h
  obtain ⟨sz, rfl⟩ := Int.eq_ofNat_of_zero_le (a := a1) (by omega)
  obtain ⟨st, rfl⟩ := Int.eq_ofNat_of_zero_le (a := a2) (by omega)
  have hbd := frameN_bd l0.length sz st a3 (by omega) (by omega) hl (by omega)
  obtain ⟨N, hN⟩ := Int.eq_ofNat_of_zero_le hbd.1
  rw [hN] at h hbd
  by_cases c3 : (N : Int) * (sz : Int) > 4000000
  · rw [if_pos c3] at h
    simp only [Option.some.injEq, Prod.mk.injEq] at h
    obtain ⟨rfl, rfl⟩ := h
    exact frames_long A0 c0 l0 sz st a3 N w hr0 hc0 hv hl (by omega) (by omega) (by omega) (by omega) hN (by rw [← Int.natCast_mul] at c3; omega) (by omega)
  · rw [if_neg c3] at h
    simp only [Option.some.injEq, Prod.mk.injEq] at h
    obtain ⟨rfl, rfl⟩ := h
    exact frames_good A0 c0 l0 sz st a3 N w hr0 hc0 hv hl (by omega) (by omega) (by omega) (by omega) hN (by rw [← Int.natCast_mul] at c3; omega)
end Go.Proofs.Ytigbfcodnbnicaa.P
