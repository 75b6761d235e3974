-- WRITTEN BY A PROGRAM OF THIS SESSION (wip/xprint.py), over the kit's printer; Lean checks it.
import Derived.Test.YtigbfcodnbnicaaX0
import Derived.Test.YtigbfcodnbnicaaXF60
namespace Go.Proofs.Ytigbfcodnbnicaa.P
open Go.RowKit Go.Proofs.YtigbfcodnbnicaaW.PrintWords Go.Proofs.YtigbfcodnbnicaaW.PrintLast Go.Proofs.YtigbfcodnbnicaaW.PrintMore
attribute [local go_sem] max2_int min2_int max_two min_two max_three min_three max_four min_four   -- for this text's walks alone
set_option linter.unusedVariables false
set_option linter.unusedSimpArgs false

/-! ### earshotref02_Segments: function 32 -/
mutual
def earshotref02_Segments.l0 : Nat → List Int → Bool → List (S65) → Bool → Int → Int → Int → Int → Int → Int → Int → Int → Int → Int → Int → Option ((List (S65)) × Bool)
  | 0, _, _, _, _, _, _, _, _, _, _, _, _, _, _, _ => none
  | k + 1, x0, x2, x8, x9, x10, x11, x12, x13, x294000, x294001, x294002, x294003, x294004, x294005, x294006 => if (wrap64 ((wrap64 (x13 + 1)) * x294000)) ≤ (x0.length : Int) then (if 0 ≤ (wrap64 (x13 * x294000)) then (if (wrap64 (x13 * x294000)) ≤ (wrap64 ((wrap64 (x13 + 1)) * x294000)) then ((earshotref02_Energy.f k ((x0.take ((wrap64 ((wrap64 (x13 + 1)) * x294000)) : Int).toNat).drop ((wrap64 (x13 * x294000)) : Int).toNat)).bind fun t298 => (if x9 = true then (if t298 ≥ (wrap64 (x294002 * x294000)) then (earshotref02_Segments.j1 k x0 x2 x8 x9 0 x11 x12 x13 x294000 x294001 x294002 x294003 x294004 x294005 x294006) else (earshotref02_Segments.j1 k x0 x2 x8 x9 (wrap64 (x10 + 1)) x11 x12 x13 x294000 x294001 x294002 x294003 x294004 x294005 x294006)) else (if t298 < (wrap64 (x294001 * x294000)) then (if 0 = x294003 then (earshotref02_Segments.l0 k x0 x2 x8 true 0 (mx (wrap64 ((wrap64 ((wrap64 (x13 - x294003)) + 1)) - x294005)) x12) x12 (wrap64 (x13 + 1)) x294000 x294001 x294002 x294003 x294004 x294005 x294006) else (earshotref02_Segments.l0 k x0 x2 x8 x9 0 x11 x12 (wrap64 (x13 + 1)) x294000 x294001 x294002 x294003 x294004 x294005 x294006)) else (if (wrap64 (x10 + 1)) = x294003 then (earshotref02_Segments.l0 k x0 x2 x8 true 0 (mx (wrap64 ((wrap64 ((wrap64 (x13 - x294003)) + 1)) - x294005)) x12) x12 (wrap64 (x13 + 1)) x294000 x294001 x294002 x294003 x294004 x294005 x294006) else (earshotref02_Segments.l0 k x0 x2 x8 x9 (wrap64 (x10 + 1)) x11 x12 (wrap64 (x13 + 1)) x294000 x294001 x294002 x294003 x294004 x294005 x294006))))) else (none)) else (none)) else (if x2 = true then (if x9 = true then (if x8.length < 8796093022208 then (some ((x8 ++ [(⟨wrap64 (x11 * x294000), (x0.length : Int)⟩ : S65)]), x9)) else (none)) else (some (x8, x9))) else (some (x8, x9)))
def earshotref02_Segments.j1 : Nat → List Int → Bool → List (S65) → Bool → Int → Int → Int → Int → Int → Int → Int → Int → Int → Int → Int → Option ((List (S65)) × Bool)
  | 0, _, _, _, _, _, _, _, _, _, _, _, _, _, _, _ => none
  | k + 1, x0, x2, x8, x9, x10, x11, x12, x13, x294000, x294001, x294002, x294003, x294004, x294005, x294006 => if x10 = x294004 then (if (wrap64 ((wrap64 (x13 - x294004)) + 1)) ≥ 0 then (if x8.length < 8796093022208 then (earshotref02_Segments.l0 k x0 x2 (x8 ++ [(⟨wrap64 (x11 * x294000), wrap64 ((wrap64 ((wrap64 (x13 - x294004)) + 1)) * x294000)⟩ : S65)]) false 0 x11 (wrap64 ((wrap64 (x13 - x294004)) + 1)) (wrap64 (x13 + 1)) x294000 x294001 x294002 x294003 x294004 x294005 x294006) else (none)) else (earshotref02_Segments.l0 k x0 x2 x8 x9 x10 x11 x12 (wrap64 (x13 + 1)) x294000 x294001 x294002 x294003 x294004 x294005 x294006)) else (if (wrap64 ((wrap64 (x13 + 1)) - x11)) = x294006 then (if (wrap64 (x13 + 1)) ≥ 0 then (if x8.length < 8796093022208 then (earshotref02_Segments.l0 k x0 x2 (x8 ++ [(⟨wrap64 (x11 * x294000), wrap64 ((wrap64 (x13 + 1)) * x294000)⟩ : S65)]) false 0 x11 (wrap64 (x13 + 1)) (wrap64 (x13 + 1)) x294000 x294001 x294002 x294003 x294004 x294005 x294006) else (none)) else (earshotref02_Segments.l0 k x0 x2 x8 x9 x10 x11 x12 (wrap64 (x13 + 1)) x294000 x294001 x294002 x294003 x294004 x294005 x294006)) else (if (-1) ≥ 0 then (if x8.length < 8796093022208 then (earshotref02_Segments.l0 k x0 x2 (x8 ++ [(⟨wrap64 (x11 * x294000), wrap64 ((-1) * x294000)⟩ : S65)]) false 0 x11 (-1) (wrap64 (x13 + 1)) x294000 x294001 x294002 x294003 x294004 x294005 x294006) else (none)) else (earshotref02_Segments.l0 k x0 x2 x8 x9 x10 x11 x12 (wrap64 (x13 + 1)) x294000 x294001 x294002 x294003 x294004 x294005 x294006)))
end
def earshotref02_Segments.f (k : Nat) (l0 : List Int) (a1_0 : Int) (a1_1 : Int) (a1_2 : Int) (a1_3 : Int) (a1_4 : Int) (a1_5 : Int) (a1_6 : Int) (a2 : Bool) : Option ((List (S65)) × Bool) := earshotref02_Segments.l0 k l0 a2 ([] : List (S65)) false 0 0 0 0 a1_0 a1_1 a1_2 a1_3 a1_4 a1_5 a1_6
theorem earshotref02_Segments.mono_l : ∀ k, (∀ y0 y1 y2 y3 y4 y5 y6 y7 y8 y9 y10 y11 y12 y13 y14, LeO (earshotref02_Segments.l0 k y0 y1 y2 y3 y4 y5 y6 y7 y8 y9 y10 y11 y12 y13 y14) (earshotref02_Segments.l0 (k + 1) y0 y1 y2 y3 y4 y5 y6 y7 y8 y9 y10 y11 y12 y13 y14)) ∧ (∀ y0 y1 y2 y3 y4 y5 y6 y7 y8 y9 y10 y11 y12 y13 y14, LeO (earshotref02_Segments.j1 k y0 y1 y2 y3 y4 y5 y6 y7 y8 y9 y10 y11 y12 y13 y14) (earshotref02_Segments.j1 (k + 1) y0 y1 y2 y3 y4 y5 y6 y7 y8 y9 y10 y11 y12 y13 y14))
  | 0 => ⟨fun _ _ _ _ _ _ _ _ _ _ _ _ _ _ _ r h => by simp [earshotref02_Segments.l0] at h, fun _ _ _ _ _ _ _ _ _ _ _ _ _ _ _ r h => by simp [earshotref02_Segments.j1] at h⟩
  | k + 1 => by
    obtain ⟨ih0, ih1⟩ := earshotref02_Segments.mono_l k
    refine ⟨?_, ?_⟩
    · intro y0 y1 y2 y3 y4 y5 y6 y7 y8 y9 y10 y11 y12 y13 y14
      unfold earshotref02_Segments.l0
      repeat' first
      | (with_reducible exact ih0 _ _ _ _ _ _ _ _ _ _ _ _ _ _ _)
      | (with_reducible exact ih1 _ _ _ _ _ _ _ _ _ _ _ _ _ _ _)
      | (with_reducible exact earshotref02_Energy.mono _ _)
      | (with_reducible exact LeO.refl _)
      | (with_reducible exact LeO.none _)
      | (with_reducible refine LeO.ite ?_ ?_)
      | (with_reducible refine LeO.bind ?_ (fun _ => ?_))
      | exact ih0 _ _ _ _ _ _ _ _ _ _ _ _ _ _ _
      | exact ih1 _ _ _ _ _ _ _ _ _ _ _ _ _ _ _
      | exact earshotref02_Energy.mono _ _
      | exact LeO.none _
      | refine LeO.ite ?_ ?_
      | refine LeO.bind ?_ (fun _ => ?_)
    · intro y0 y1 y2 y3 y4 y5 y6 y7 y8 y9 y10 y11 y12 y13 y14
      unfold earshotref02_Segments.j1
      repeat' first
      | (with_reducible exact ih0 _ _ _ _ _ _ _ _ _ _ _ _ _ _ _)
      | (with_reducible exact ih1 _ _ _ _ _ _ _ _ _ _ _ _ _ _ _)
      | (with_reducible exact earshotref02_Energy.mono _ _)
      | (with_reducible exact LeO.refl _)
      | (with_reducible exact LeO.none _)
      | (with_reducible refine LeO.ite ?_ ?_)
      | (with_reducible refine LeO.bind ?_ (fun _ => ?_))
      | exact ih0 _ _ _ _ _ _ _ _ _ _ _ _ _ _ _
      | exact ih1 _ _ _ _ _ _ _ _ _ _ _ _ _ _ _
      | exact earshotref02_Energy.mono _ _
      | exact LeO.none _
      | refine LeO.ite ?_ ?_
      | refine LeO.bind ?_ (fun _ => ?_)
theorem earshotref02_Segments.mono : ∀ a0 a1 a2 a3 a4 a5 a6 a7 a8 k, LeO (earshotref02_Segments.f k a0 a1 a2 a3 a4 a5 a6 a7 a8) (earshotref02_Segments.f (k + 1) a0 a1 a2 a3 a4 a5 a6 a7 a8) := by
  intro a0 a1 a2 a3 a4 a5 a6 a7 a8 k
  obtain ⟨ih0, ih1⟩ := earshotref02_Segments.mono_l k
  unfold earshotref02_Segments.f
  repeat' first
      | (with_reducible exact ih0 _ _ _ _ _ _ _ _ _ _ _ _ _ _ _)
      | (with_reducible exact ih1 _ _ _ _ _ _ _ _ _ _ _ _ _ _ _)
      | (with_reducible exact earshotref02_Energy.mono _ _)
      | (with_reducible exact LeO.refl _)
      | (with_reducible exact LeO.none _)
      | (with_reducible refine LeO.ite ?_ ?_)
      | (with_reducible refine LeO.bind ?_ (fun _ => ?_))
      | exact ih0 _ _ _ _ _ _ _ _ _ _ _ _ _ _ _
      | exact ih1 _ _ _ _ _ _ _ _ _ _ _ _ _ _ _
      | exact earshotref02_Energy.mono _ _
      | exact LeO.none _
      | refine LeO.ite ?_ ?_
      | refine LeO.bind ?_ (fun _ => ?_)
set_option maxHeartbeats 8000000 in
set_option maxRecDepth 100000 in
theorem earshotref02_Segments.calls (k : Nat) (A0 : Option Addr) (c0 : Nat) (l0 : List Int) (a1_0 : Int) (a1_1 : Int) (a1_2 : Int) (a1_3 : Int) (a1_4 : Int) (a1_5 : Int) (a1_6 : Int) (a2 : Bool) (r1 : List (S65)) (r2 : Bool) (w : World) (hr0 : Kd.C (Kd.int .i64) w A0 l0.length l0) (hc0 : l0.length ≤ c0) (h : earshotref02_Segments.f k l0 a1_0 a1_1 a1_2 a1_3 a1_4 a1_5 a1_6 a2 = some (r1, r2)) :
    Calls Try.prog 32 #[.slice A0 l0.length c0, .agg #[.int .i64 a1_0, .int .i64 a1_1, .int .i64 a1_2, .int .i64 a1_3, .int .i64 a1_4, .int .i64 a1_5, .int .i64 a1_6], .bool a2] w fun e w' => ∃ v0_ : Value, e = .returned (.tuple #[v0_, .bool r2]) ∧ Kd.R k65 65 w' w.heap.size (fun _ => True) v0_ r1 ∧ Below w.heap.size w w' := by
  have hu41 := Try.underlying41
  have hu65 := Try.underlying65
  have HR0 := Aside0.mk hr0
  have HC0 := Aside0.mk hc0
  clear hr0 hc0
  have HB := Aside0.mk (Below.refl w.heap.size w)
  have H : (earshotref02_Segments.l0 k l0 a2 ([] : List (S65)) false 0 0 0 0 a1_0 a1_1 a1_2 a1_3 a1_4 a1_5 a1_6) = some (r1, r2) := h
  clear h
  have H' := Aside0.mk H
  clear H
  go_enter Try.func32, Try.ntmps32
  go_wp2_with (first | ((with_reducible refine gate_dst (N := 4) rfl ?_); refine box_event ?hg (N := 4) ?hd (cs := #[.int .i64 a1_0, .int .i64 a1_1, .int .i64 a1_2, .int .i64 a1_3, .int .i64 a1_4, .int .i64 a1_5, .int .i64 a1_6]) (t := 41) ?hr ?_; (case hd => rfl); (case hg => rfl); (case hr => first | (go_simp; done) | (go_simp; rfl)); intro gb293 hg w4 hbox hb; have n0_ := Aside0.mk (below_step (by repeat (first | (with_reducible first | exact HB.out | apply below_alloc | apply pw_below_drewN | apply below_drew1) | exact HB.out)) hb); have n1_ := Aside0.mk (hbox); have n2_ := Aside0.mk ((by rw [hg]; exact (below_size (by repeat (first | (with_reducible first | exact HB.out | apply below_alloc | apply pw_below_drewN | apply below_drew1) | exact HB.out))) : w.heap.size ≤ gb293)); have n3_ := Aside0.mk ((by rw [hg]; exact (below_size (by repeat (first | (with_reducible first | exact HB.out | apply below_alloc | apply pw_below_drewN | apply below_drew1) | exact HB.out))) : w.heap.size ≤ gb293)); clear HB; have HB := n0_; have BK293 := n1_; have GW293 := n2_; have GE293 := n3_; clear n0_ n1_ n2_ n3_; clear hb hbox hg))
  go_loopg [8, 9, 10, 11, 12, 13] k (fun kq v8 v9 v10 v11 v12 v13 w' => ∃ (x8_1 : List (S65)) (x9_1 : Bool) (x10_1 : Int) (x11_1 : Int) (x12_1 : Int) (x13_1 : Int), v9 = .bool x9_1 ∧ v10 = .int .i64 x10_1 ∧ v11 = .int .i64 x11_1 ∧ v12 = .int .i64 x12_1 ∧ v13 = .int .i64 x13_1 ∧ Aside0 (earshotref02_Segments.l0 kq l0 a2 x8_1 x9_1 x10_1 x11_1 x12_1 x13_1 a1_0 a1_1 a1_2 a1_3 a1_4 a1_5 a1_6 = some (r1, r2)) ∧ Aside0 (kq ≤ k) ∧ Aside0 (Kd.R k65 65 w' w.heap.size (fun _ => True) v8 x8_1) ∧ Aside0 (w'.heap[gb293]? = some (.cells #[.int .i64 a1_0, .int .i64 a1_1, .int .i64 a1_2, .int .i64 a1_3, .int .i64 a1_4, .int .i64 a1_5, .int .i64 a1_6] 41 (0, 0))) ∧ Aside0 (Below w.heap.size w w'))
  case atStart => exact ⟨(([] : List (S65))), (false), (0), (0), (0), (0), (by first | rfl | (simp; done) | (simp [*]; done)), (by first | rfl | (simp; done) | (simp [*]; done)), (by first | rfl | (simp; done) | (simp [*]; done)), (by first | rfl | (simp; done) | (simp [*]; done)), (by first | rfl | (simp; done) | (simp [*]; done)), H', ⟨Nat.le_refl _⟩, ⟨by first | exact Kd.R_nil _ _ _ _ _ | exact Kd.N_nil _ _ _ _ _ | exact Kd.V_nil _ _ _ _ _ | exact Kd.Q_nil _ _ _ _ _ | exact Kd.S_nil _ _ _ _ _⟩, ⟨by (with_reducible repeat (first | refine blk_drewN ?_ _ | refine blk_drew ?_ | refine blk_alloc ?_ _)); exact BK293.out⟩, ⟨by repeat (first | (with_reducible first | exact HB.out | apply below_alloc | apply pw_below_drewN | apply below_drew1 | refine below_set ?_ GE293.out) | exact HB.out)⟩⟩
  case round =>
    clear H'
    try clear p2
    try clear c3
    obtain ⟨x8_1, x9_1, x10_1, x11_1, x12_1, x13_1, rfl, rfl, rfl, rfl, rfl, HA, HK1, HO_8, BK293, HB⟩ := hrel
    cases gk with
    | zero => exact absurd HA.out (by simp [earshotref02_Segments.l0])
    | succ k1 =>
      have H := HA.out
      clear HA
      simp only [earshotref02_Segments.l0] at H
      by_cases c5 : (wrap64 ((wrap64 (x13_1 + 1)) * a1_0)) ≤ (l0.length : Int)
      · rw [if_pos c5] at H
        have c5b0 : decide ((wrap64 ((wrap64 (x13_1 + 1)) * a1_0)) ≤ (l0.length : Int)) = true := decide_eq_true c5
        clear c5
        obtain ⟨ji6, hji6⟩ : ∃ j_ : Int, (wrap64 (x13_1 * a1_0)) = j_ := ⟨_, rfl⟩
        replace H : (if 0 ≤ (ji6) then (if (ji6) ≤ (wrap64 ((wrap64 (x13_1 + 1)) * a1_0)) then ((earshotref02_Energy.f k1 ((l0.take ((wrap64 ((wrap64 (x13_1 + 1)) * a1_0)) : Int).toNat).drop ((ji6) : Int).toNat)).bind fun t298 => (if x9_1 = true then (if t298 ≥ (wrap64 (a1_2 * a1_0)) then (earshotref02_Segments.j1 k1 l0 a2 x8_1 x9_1 0 x11_1 x12_1 x13_1 a1_0 a1_1 a1_2 a1_3 a1_4 a1_5 a1_6) else (earshotref02_Segments.j1 k1 l0 a2 x8_1 x9_1 (wrap64 (x10_1 + 1)) x11_1 x12_1 x13_1 a1_0 a1_1 a1_2 a1_3 a1_4 a1_5 a1_6)) else (if t298 < (wrap64 (a1_1 * a1_0)) then (if 0 = a1_3 then (earshotref02_Segments.l0 k1 l0 a2 x8_1 true 0 (mx (wrap64 ((wrap64 ((wrap64 (x13_1 - a1_3)) + 1)) - a1_5)) x12_1) x12_1 (wrap64 (x13_1 + 1)) a1_0 a1_1 a1_2 a1_3 a1_4 a1_5 a1_6) else (earshotref02_Segments.l0 k1 l0 a2 x8_1 x9_1 0 x11_1 x12_1 (wrap64 (x13_1 + 1)) a1_0 a1_1 a1_2 a1_3 a1_4 a1_5 a1_6)) else (if (wrap64 (x10_1 + 1)) = a1_3 then (earshotref02_Segments.l0 k1 l0 a2 x8_1 true 0 (mx (wrap64 ((wrap64 ((wrap64 (x13_1 - a1_3)) + 1)) - a1_5)) x12_1) x12_1 (wrap64 (x13_1 + 1)) a1_0 a1_1 a1_2 a1_3 a1_4 a1_5 a1_6) else (earshotref02_Segments.l0 k1 l0 a2 x8_1 x9_1 (wrap64 (x10_1 + 1)) x11_1 x12_1 (wrap64 (x13_1 + 1)) a1_0 a1_1 a1_2 a1_3 a1_4 a1_5 a1_6))))) else (none)) else (none)) = some (r1, r2) := by first | (rw [hji6] at H; exact H) | (simp only [hji6] at H ⊢; exact H)
        have hji6w : (IntKind.i64.wrap (x13_1 * a1_0)) = ji6 := (i64_w _).trans hji6
        by_cases c7 : 0 ≤ (ji6)
        · rw [if_pos c7] at H
          have c7b0 := eq_true c7
          have c7b1 : decide (0 ≤ (ji6)) = true := decide_eq_true c7
          clear c7
          by_cases c8 : (ji6) ≤ (wrap64 ((wrap64 (x13_1 + 1)) * a1_0))
          · rw [if_pos c8] at H
            have c8b0 := eq_true c8
            have c8b1 : decide ((ji6) ≤ (wrap64 ((wrap64 (x13_1 + 1)) * a1_0))) = true := decide_eq_true c8
            have c9b0 := eq_true (of_decide_eq_true (by first | (with_reducible assumption) | assumption) : (wrap64 ((wrap64 (x13_1 + 1)) * a1_0)) ≤ (l0.length : Int))
            replace H := Option.bind_eq_some_iff.mp H
            obtain ⟨t298, A100, H⟩ := H
            replace H : (if x9_1 = true then (if t298 ≥ (wrap64 (a1_2 * a1_0)) then (earshotref02_Segments.j1 k1 l0 a2 x8_1 x9_1 0 x11_1 x12_1 x13_1 a1_0 a1_1 a1_2 a1_3 a1_4 a1_5 a1_6) else (earshotref02_Segments.j1 k1 l0 a2 x8_1 x9_1 (wrap64 (x10_1 + 1)) x11_1 x12_1 x13_1 a1_0 a1_1 a1_2 a1_3 a1_4 a1_5 a1_6)) else (if t298 < (wrap64 (a1_1 * a1_0)) then (if 0 = a1_3 then (earshotref02_Segments.l0 k1 l0 a2 x8_1 true 0 (mx (wrap64 ((wrap64 ((wrap64 (x13_1 - a1_3)) + 1)) - a1_5)) x12_1) x12_1 (wrap64 (x13_1 + 1)) a1_0 a1_1 a1_2 a1_3 a1_4 a1_5 a1_6) else (earshotref02_Segments.l0 k1 l0 a2 x8_1 x9_1 0 x11_1 x12_1 (wrap64 (x13_1 + 1)) a1_0 a1_1 a1_2 a1_3 a1_4 a1_5 a1_6)) else (if (wrap64 (x10_1 + 1)) = a1_3 then (earshotref02_Segments.l0 k1 l0 a2 x8_1 true 0 (mx (wrap64 ((wrap64 ((wrap64 (x13_1 - a1_3)) + 1)) - a1_5)) x12_1) x12_1 (wrap64 (x13_1 + 1)) a1_0 a1_1 a1_2 a1_3 a1_4 a1_5 a1_6) else (earshotref02_Segments.l0 k1 l0 a2 x8_1 x9_1 (wrap64 (x10_1 + 1)) x11_1 x12_1 (wrap64 (x13_1 + 1)) a1_0 a1_1 a1_2 a1_3 a1_4 a1_5 a1_6)))) = some (r1, r2) := H
            have A10 := Aside0.mk A100
            clear A100
            by_cases c11 : x9_1 = true
            · subst c11
              have H1 : (if t298 ≥ (wrap64 (a1_2 * a1_0)) then (earshotref02_Segments.j1 k1 l0 a2 x8_1 true 0 x11_1 x12_1 x13_1 a1_0 a1_1 a1_2 a1_3 a1_4 a1_5 a1_6) else (earshotref02_Segments.j1 k1 l0 a2 x8_1 true (wrap64 (x10_1 + 1)) x11_1 x12_1 x13_1 a1_0 a1_1 a1_2 a1_3 a1_4 a1_5 a1_6)) = some (r1, r2) := by rw [if_pos rfl] at H; exact H
              clear H
              have H := H1
              clear H1
              have HC12 := Aside0.mk H
              clear H
              have hcz13_0 : wr.cell? ⟨gb293, 0, none⟩ = some (.int .i64 a1_0) := (blk_cell BK293.out 0).trans rfl
              have hcz13_1 : wr.cell? ⟨gb293, 1, none⟩ = some (.int .i64 a1_1) := (blk_cell BK293.out 1).trans rfl
              have hcz13_2 : wr.cell? ⟨gb293, 2, none⟩ = some (.int .i64 a1_2) := (blk_cell BK293.out 2).trans rfl
              have hcz13_3 : wr.cell? ⟨gb293, 3, none⟩ = some (.int .i64 a1_3) := (blk_cell BK293.out 3).trans rfl
              have hcz13_4 : wr.cell? ⟨gb293, 4, none⟩ = some (.int .i64 a1_4) := (blk_cell BK293.out 4).trans rfl
              have hcz13_5 : wr.cell? ⟨gb293, 5, none⟩ = some (.int .i64 a1_5) := (blk_cell BK293.out 5).trans rfl
              have hcz13_6 : wr.cell? ⟨gb293, 6, none⟩ = some (.int .i64 a1_6) := (blk_cell BK293.out 6).trans rfl
              have hfz13_0 := blk_frozen BK293.out 0
              have hfz13_1 := blk_frozen BK293.out 1
              have hfz13_2 := blk_frozen BK293.out 2
              have hfz13_3 := blk_frozen BK293.out 3
              have hfz13_4 := blk_frozen BK293.out 4
              have hfz13_5 := blk_frozen BK293.out 5
              have hfz13_6 := blk_frozen BK293.out 6
              obtain ⟨i014, hi014, _, hsz14, _⟩ := info_parts info3
              obtain ⟨A14, hcut14, hA14, hC14⟩ := print_mid_of (P := Try.prog) (Value.int .i64) 0 22 3 .i64 .i64 Try.underlying22 hi014 hsz14 A0 c0 l0 (ji6) (wrap64 ((wrap64 (x13_1 + 1)) * a1_0)) (of_decide_eq_true (by first | (with_reducible assumption) | assumption)) (by first | omega | exact of_decide_eq_true (by first | (with_reducible assumption) | assumption)) (of_decide_eq_true (by first | (with_reducible assumption) | assumption)) HC0.out
              have HR297 := Aside0.mk (Kd.C_of_reads (h1 := fun _ => rfl) (hA14 _ (Kd.reads_of_C HR0.out)))
              have HC297 := Aside0.mk hC14
              clear hA14 hC14 hi014 hsz14
              go_upto_if 71 with (first | ((with_reducible refine gate_callee (f := 60) rfl ?_); refine goesL_ (some 37) rfl rfl Try.func60 (by kernel_rfl) rfl #[.slice A14 ((l0.take ((wrap64 ((wrap64 (x13_1 + 1)) * a1_0)) : Int).toNat).drop ((ji6) : Int).toNat).length (c0 - (ji6).toNat)] rfl (by (try simp only [List.map_toArray, List.map_cons, List.map_nil]); first | done | (rw [show ((l0.take ((wrap64 ((wrap64 (x13_1 + 1)) * a1_0)) : Int).toNat).drop ((ji6) : Int).toNat).length = ((wrap64 ((wrap64 (x13_1 + 1)) * a1_0)).toNat - (ji6).toNat) from (by rw [List.length_drop, List.length_take]; have h_ : ((wrap64 ((wrap64 (x13_1 + 1)) * a1_0)) : Int) ≤ (l0.length : Int) := of_decide_eq_true (by first | (with_reducible assumption) | assumption); omega)] <;> rfl) | (simp only [hji6]; rfl) | rfl | (simp only [List.length_drop, List.length_take]; rfl)) ?_; (with_reducible refine (earshotref02_Energy.calls k1 _ _ ((l0.take ((wrap64 ((wrap64 (x13_1 + 1)) * a1_0)) : Int).toNat).drop ((ji6) : Int).toNat) t298 _ ?side1 ?side2 A10.out).mono ?_); (case side1 => repeat (first | exact (Kd.C_below HR297.out HB.out) | (with_reducible refine Kd.C_alloc ?_ _) | (with_reducible refine Kd.C_drewN ?_ _) | (with_reducible refine Kd.C_drew ?_))); (case side2 => exact HC297.out); rintro e w' ⟨rfl, ⟨nd, rfl⟩⟩; refine ⟨_, rfl, ?_⟩))
              (try simp only [Act.put, List.setIfInBounds_toArray, List.set_cons_zero, List.set_cons_succ])
              go_cut [10] (fun v10 wc => ∃ (kq : Nat) (x10_11 : Int), v10 = .int .i64 x10_11 ∧ Aside0 (earshotref02_Segments.j1 kq l0 a2 x8_1 true x10_11 x11_1 x12_1 x13_1 a1_0 a1_1 a1_2 a1_3 a1_4 a1_5 a1_6 = some (r1, r2)) ∧ Aside0 (kq ≤ k1) ∧ Aside0 (Kd.R k65 65 wc w.heap.size (fun _ => True) u8 x8_1) ∧ Aside0 (wc.heap[gb293]? = some (.cells #[.int .i64 a1_0, .int .i64 a1_1, .int .i64 a1_2, .int .i64 a1_3, .int .i64 a1_4, .int .i64 a1_5, .int .i64 a1_6] 41 (0, 0))) ∧ Aside0 (Below w.heap.size w wc))
              case first =>
                have H := HC12.out
                clear HC12
                by_cases c15 : t298 ≥ (wrap64 (a1_2 * a1_0))
                · rw [if_pos c15] at H
                  have c15b0 : decide ((wrap64 (a1_2 * a1_0)) ≤ t298) = true := decide_eq_true c15
                  clear c15
                  (first | rw [c15b0] | (simp only [i64_w, i32_w]; rw [c15b0]) | skip)
                  have H' := Aside0.mk H
                  clear H
                  go_wp2
                  go_meet
                  case rel => exact ⟨_, (0), (by first | rfl | (simp; done) | (simp [*]; done)), H', ⟨by have := HK1.out; first | omega | exact Nat.le_refl _⟩, ⟨by (with_reducible repeat (first | apply Kd.R_alloc | apply Kd.R_drewN | apply Kd.R_drew)); exact HO_8.out⟩, ⟨by (with_reducible repeat (first | refine blk_drewN ?_ _ | refine blk_drew ?_ | refine blk_alloc ?_ _)); exact BK293.out⟩, ⟨by repeat (first | (with_reducible first | exact HB.out | apply below_alloc | apply pw_below_drewN | apply below_drew1 | refine below_set ?_ GE293.out) | exact HB.out)⟩⟩
                · rw [if_neg c15] at H
                  have c15b0 : decide ((wrap64 (a1_2 * a1_0)) ≤ t298) = false := decide_eq_false c15
                  clear c15
                  (first | rw [c15b0] | (simp only [i64_w, i32_w]; rw [c15b0]) | skip)
                  have H' := Aside0.mk H
                  clear H
                  go_wp2
                  go_meet
                  case rel => exact ⟨_, (wrap64 (x10_1 + 1)), (by first | rfl | (simp; done) | (simp [*]; done)), H', ⟨by have := HK1.out; first | omega | exact Nat.le_refl _⟩, ⟨by (with_reducible repeat (first | apply Kd.R_alloc | apply Kd.R_drewN | apply Kd.R_drew)); exact HO_8.out⟩, ⟨by (with_reducible repeat (first | refine blk_drewN ?_ _ | refine blk_drew ?_ | refine blk_alloc ?_ _)); exact BK293.out⟩, ⟨by repeat (first | (with_reducible first | exact HB.out | apply below_alloc | apply pw_below_drewN | apply below_drew1 | refine below_set ?_ GE293.out) | exact HB.out)⟩⟩
              case rest =>
                clear HC12
                try clear c1
                try clear p2
                try clear c3
                try clear c5
                try clear c5b0
                try clear c6
                try clear p6
                try clear c7
                try clear c7b0
                try clear c7b1
                try clear c8
                try clear c8b0
                try clear c8b1
                try clear c9
                try clear c9b0
                try clear c11
                try clear c15
                try clear c15b0
                try clear hcz13_0
                try clear hcz13_1
                try clear hcz13_2
                try clear hcz13_3
                try clear hcz13_4
                try clear hcz13_5
                try clear hcz13_6
                try clear hfz13_0
                try clear hfz13_1
                try clear hfz13_2
                try clear hfz13_3
                try clear hfz13_4
                try clear hfz13_5
                try clear hfz13_6
                try clear p2
                obtain ⟨kq, x10_11, rfl, HA, HJ11, HO_8, BK293, HB⟩ := hcut
                cases kq with
                | zero => exact absurd HA.out (by simp [earshotref02_Segments.j1])
                | succ kj11 =>
                  have H := HA.out
                  clear HA
                  simp only [earshotref02_Segments.j1] at H
                  by_cases c16 : x10_11 = a1_4
                  · rw [if_pos c16] at H
                    have c16b0 : (x10_11 == a1_4) = true := beq_iff_eq.mpr c16
                    have c16b1 : (x10_11 != a1_4) = false := bne_eq_false_iff_eq.mpr c16
                    clear c16
                    by_cases c17 : (wrap64 ((wrap64 (x13_1 - a1_4)) + 1)) ≥ 0
                    · rw [if_pos c17] at H
                      have c17b0 : decide (0 ≤ (wrap64 ((wrap64 (x13_1 - a1_4)) + 1))) = true := decide_eq_true c17
                      clear c17
                      by_cases c18 : x8_1.length < 8796093022208
                      · rw [if_pos c18] at H
                        have LMc18 := Aside0.mk c18
                        clear c18
                        obtain ⟨y299, hy299⟩ : ∃ y_ : List (S65), y_ = (x8_1 ++ [(⟨wrap64 (x11_1 * a1_0), wrap64 ((wrap64 ((wrap64 (x13_1 - a1_4)) + 1)) * a1_0)⟩ : S65)]) := ⟨_, rfl⟩
                        replace H : (earshotref02_Segments.l0 kj11 l0 a2 y299 false 0 x11_1 (wrap64 ((wrap64 (x13_1 - a1_4)) + 1)) (wrap64 (x13_1 + 1)) a1_0 a1_1 a1_2 a1_3 a1_4 a1_5 a1_6) = some (r1, r2) := by first | (rw [hy299]; with_reducible exact H) | (have H2_ := (Option.bind_some _ _).symm.trans H; rw [hy299]; with_reducible exact H2_) | (have H2_ := (Option.bind_some _ _).symm.trans H; with_reducible exact H2_) | with_reducible exact H | (rw [hy299]; exact H) | exact H
                        have Ny299 := Aside0.mk hy299
                        clear hy299
                        have H' := Aside0.mk H
                        clear H
                        have hcz19_0 : wc.cell? ⟨gb293, 0, none⟩ = some (.int .i64 a1_0) := (blk_cell BK293.out 0).trans rfl
                        have hcz19_1 : wc.cell? ⟨gb293, 1, none⟩ = some (.int .i64 a1_1) := (blk_cell BK293.out 1).trans rfl
                        have hcz19_2 : wc.cell? ⟨gb293, 2, none⟩ = some (.int .i64 a1_2) := (blk_cell BK293.out 2).trans rfl
                        have hcz19_3 : wc.cell? ⟨gb293, 3, none⟩ = some (.int .i64 a1_3) := (blk_cell BK293.out 3).trans rfl
                        have hcz19_4 : wc.cell? ⟨gb293, 4, none⟩ = some (.int .i64 a1_4) := (blk_cell BK293.out 4).trans rfl
                        have hcz19_5 : wc.cell? ⟨gb293, 5, none⟩ = some (.int .i64 a1_5) := (blk_cell BK293.out 5).trans rfl
                        have hcz19_6 : wc.cell? ⟨gb293, 6, none⟩ = some (.int .i64 a1_6) := (blk_cell BK293.out 6).trans rfl
                        have hfz19_0 := blk_frozen BK293.out 0
                        have hfz19_1 := blk_frozen BK293.out 1
                        have hfz19_2 := blk_frozen BK293.out 2
                        have hfz19_3 := blk_frozen BK293.out 3
                        have hfz19_4 := blk_frozen BK293.out 4
                        have hfz19_5 := blk_frozen BK293.out 5
                        have hfz19_6 := blk_frozen BK293.out 6
                        go_wp2_with (first | ((with_reducible refine gate_builtin (b := .append) (xs := #[.tmp 92, .tmp 102]) rfl ?_); at_builtin; refine Kd.R_append k65 (w0 := w) w.heap.size rfl (.tmp 92) (.tmp 102) 42 65 (.agg #[(.int .i64 0), (.int .i64 0)]) 16 rfl Try.underlying42 info65 rfl (by decide) (by omega) u8 x8_1 (⟨wrap64 (x11_1 * a1_0), wrap64 ((wrap64 ((wrap64 (x13_1 - a1_4)) + 1)) * a1_0)⟩ : S65) [.int .i64 (wrap64 (x11_1 * a1_0)), .int .i64 (wrap64 ((wrap64 ((wrap64 (x13_1 - a1_4)) + 1)) * a1_0))] (fun _ => True) (fun _ => False) rfl rfl ?aP (fun _ hk => hk.elim) ?aF ?aO ?aB ?aS ?aL ?_; (case aP => exact k65_mkM _ _ _ (⟨wrap64 (x11_1 * a1_0), wrap64 ((wrap64 ((wrap64 (x13_1 - a1_4)) + 1)) * a1_0)⟩ : S65)); (case aB => exact (by repeat (first | (with_reducible first | exact HB.out | apply below_alloc | apply pw_below_drewN | apply below_drew1 | refine below_set ?_ GE293.out) | exact HB.out))); (case aF => exact (fun _ _ => trivial)); (case aO => exact (by (with_reducible repeat (first | apply Kd.R_alloc | apply Kd.R_drewN | apply Kd.R_drew)); exact HO_8.out)); (case aS => exact (below_size (by repeat (first | (with_reducible first | exact HB.out | apply below_alloc | apply pw_below_drewN | apply below_drew1 | refine below_set ?_ GE293.out) | exact HB.out)))); (case aL => have := LMc18.out; omega); intro v300 w20 ho hb hg hat; rw [← Ny299.out] at ho; have n0_ := Aside0.mk (blk_grown (g := gb293) (o := .cells #[.int .i64 a1_0, .int .i64 a1_1, .int .i64 a1_2, .int .i64 a1_3, .int .i64 a1_4, .int .i64 a1_5, .int .i64 a1_6] 41 (0, 0)) (by (with_reducible repeat (first | refine blk_drewN ?_ _ | refine blk_drew ?_ | refine blk_alloc ?_ _)); exact BK293.out) hg (Kd.R_ne HO_8.out BK293.out (by decide))); have n1_ := Aside0.mk (hb); have n2_ := Aside0.mk (ho); clear BK293; clear HB; clear HO_8; have BK293 := n0_; have HB := n1_; have HO301 := n2_; clear n0_ n1_ n2_; clear ho hb hg hat))
                        go_roundg kj11
                        case measure => have := HK1.out; have := HJ11.out; omega
                        case rel => exact ⟨(y299), (false), (0), (x11_1), (wrap64 ((wrap64 (x13_1 - a1_4)) + 1)), (wrap64 (x13_1 + 1)), (by first | rfl | (simp; done) | (simp [*]; done)), (by first | rfl | (simp; done) | (simp [*]; done)), (by first | rfl | (simp; done) | (simp [*]; done)), (by first | rfl | (simp; done) | (simp [*]; done)), (by first | rfl | (simp; done) | (simp [*]; done)), H', ⟨by have := HK1.out; have := HJ11.out; omega⟩, ⟨by (with_reducible repeat (first | apply Kd.R_alloc | apply Kd.R_drewN | apply Kd.R_drew)); exact HO301.out⟩, ⟨by (with_reducible repeat (first | refine blk_drewN ?_ _ | refine blk_drew ?_ | refine blk_alloc ?_ _)); exact BK293.out⟩, ⟨by repeat (first | (with_reducible first | exact HB.out | apply below_alloc | apply pw_below_drewN | apply below_drew1 | refine below_set ?_ GE293.out) | exact HB.out)⟩⟩
                      · rw [if_neg c18] at H
                        exact absurd H (by simp)
                    · rw [if_neg c17] at H
                      have c17b0 : decide (0 ≤ (wrap64 ((wrap64 (x13_1 - a1_4)) + 1))) = false := decide_eq_false c17
                      clear c17
                      have H' := Aside0.mk H
                      clear H
                      have hcz21_0 : wc.cell? ⟨gb293, 0, none⟩ = some (.int .i64 a1_0) := (blk_cell BK293.out 0).trans rfl
                      have hcz21_1 : wc.cell? ⟨gb293, 1, none⟩ = some (.int .i64 a1_1) := (blk_cell BK293.out 1).trans rfl
                      have hcz21_2 : wc.cell? ⟨gb293, 2, none⟩ = some (.int .i64 a1_2) := (blk_cell BK293.out 2).trans rfl
                      have hcz21_3 : wc.cell? ⟨gb293, 3, none⟩ = some (.int .i64 a1_3) := (blk_cell BK293.out 3).trans rfl
                      have hcz21_4 : wc.cell? ⟨gb293, 4, none⟩ = some (.int .i64 a1_4) := (blk_cell BK293.out 4).trans rfl
                      have hcz21_5 : wc.cell? ⟨gb293, 5, none⟩ = some (.int .i64 a1_5) := (blk_cell BK293.out 5).trans rfl
                      have hcz21_6 : wc.cell? ⟨gb293, 6, none⟩ = some (.int .i64 a1_6) := (blk_cell BK293.out 6).trans rfl
                      have hfz21_0 := blk_frozen BK293.out 0
                      have hfz21_1 := blk_frozen BK293.out 1
                      have hfz21_2 := blk_frozen BK293.out 2
                      have hfz21_3 := blk_frozen BK293.out 3
                      have hfz21_4 := blk_frozen BK293.out 4
                      have hfz21_5 := blk_frozen BK293.out 5
                      have hfz21_6 := blk_frozen BK293.out 6
                      go_wp2
                      go_roundg kj11
                      case measure => have := HK1.out; have := HJ11.out; omega
                      case rel => exact ⟨(x8_1), (true), (x10_11), (x11_1), (x12_1), (wrap64 (x13_1 + 1)), (by first | rfl | (simp; done) | (simp [*]; done)), (by first | rfl | (simp; done) | (simp [*]; done)), (by first | rfl | (simp; done) | (simp [*]; done)), (by first | rfl | (simp; done) | (simp [*]; done)), (by first | rfl | (simp; done) | (simp [*]; done)), H', ⟨by have := HK1.out; have := HJ11.out; omega⟩, ⟨by (with_reducible repeat (first | apply Kd.R_alloc | apply Kd.R_drewN | apply Kd.R_drew)); exact HO_8.out⟩, ⟨by (with_reducible repeat (first | refine blk_drewN ?_ _ | refine blk_drew ?_ | refine blk_alloc ?_ _)); exact BK293.out⟩, ⟨by repeat (first | (with_reducible first | exact HB.out | apply below_alloc | apply pw_below_drewN | apply below_drew1 | refine below_set ?_ GE293.out) | exact HB.out)⟩⟩
                  · rw [if_neg c16] at H
                    have c16b0 : (x10_11 == a1_4) = false := beq_eq_false_iff_ne.mpr c16
                    have c16b1 : (x10_11 != a1_4) = true := bne_iff_ne.mpr c16
                    by_cases c22 : (wrap64 ((wrap64 (x13_1 + 1)) - x11_1)) = a1_6
                    · rw [if_pos c22] at H
                      have c22b0 : ((wrap64 ((wrap64 (x13_1 + 1)) - x11_1)) == a1_6) = true := beq_iff_eq.mpr c22
                      have c22b1 : ((wrap64 ((wrap64 (x13_1 + 1)) - x11_1)) != a1_6) = false := bne_eq_false_iff_eq.mpr c22
                      clear c22
                      by_cases c23 : (wrap64 (x13_1 + 1)) ≥ 0
                      · rw [if_pos c23] at H
                        have c23b0 : decide (0 ≤ (wrap64 (x13_1 + 1))) = true := decide_eq_true c23
                        clear c23
                        by_cases c24 : x8_1.length < 8796093022208
                        · rw [if_pos c24] at H
                          have LMc24 := Aside0.mk c24
                          clear c24
                          obtain ⟨y302, hy302⟩ : ∃ y_ : List (S65), y_ = (x8_1 ++ [(⟨wrap64 (x11_1 * a1_0), wrap64 ((wrap64 (x13_1 + 1)) * a1_0)⟩ : S65)]) := ⟨_, rfl⟩
                          replace H : (earshotref02_Segments.l0 kj11 l0 a2 y302 false 0 x11_1 (wrap64 (x13_1 + 1)) (wrap64 (x13_1 + 1)) a1_0 a1_1 a1_2 a1_3 a1_4 a1_5 a1_6) = some (r1, r2) := by first | (rw [hy302]; with_reducible exact H) | (have H2_ := (Option.bind_some _ _).symm.trans H; rw [hy302]; with_reducible exact H2_) | (have H2_ := (Option.bind_some _ _).symm.trans H; with_reducible exact H2_) | with_reducible exact H | (rw [hy302]; exact H) | exact H
                          have Ny302 := Aside0.mk hy302
                          clear hy302
                          have H' := Aside0.mk H
                          clear H
                          have hcz25_0 : wc.cell? ⟨gb293, 0, none⟩ = some (.int .i64 a1_0) := (blk_cell BK293.out 0).trans rfl
                          have hcz25_1 : wc.cell? ⟨gb293, 1, none⟩ = some (.int .i64 a1_1) := (blk_cell BK293.out 1).trans rfl
                          have hcz25_2 : wc.cell? ⟨gb293, 2, none⟩ = some (.int .i64 a1_2) := (blk_cell BK293.out 2).trans rfl
                          have hcz25_3 : wc.cell? ⟨gb293, 3, none⟩ = some (.int .i64 a1_3) := (blk_cell BK293.out 3).trans rfl
                          have hcz25_4 : wc.cell? ⟨gb293, 4, none⟩ = some (.int .i64 a1_4) := (blk_cell BK293.out 4).trans rfl
                          have hcz25_5 : wc.cell? ⟨gb293, 5, none⟩ = some (.int .i64 a1_5) := (blk_cell BK293.out 5).trans rfl
                          have hcz25_6 : wc.cell? ⟨gb293, 6, none⟩ = some (.int .i64 a1_6) := (blk_cell BK293.out 6).trans rfl
                          have hfz25_0 := blk_frozen BK293.out 0
                          have hfz25_1 := blk_frozen BK293.out 1
                          have hfz25_2 := blk_frozen BK293.out 2
                          have hfz25_3 := blk_frozen BK293.out 3
                          have hfz25_4 := blk_frozen BK293.out 4
                          have hfz25_5 := blk_frozen BK293.out 5
                          have hfz25_6 := blk_frozen BK293.out 6
                          go_wp2_with (first | ((with_reducible refine gate_builtin (b := .append) (xs := #[.tmp 92, .tmp 102]) rfl ?_); at_builtin; refine Kd.R_append k65 (w0 := w) w.heap.size rfl (.tmp 92) (.tmp 102) 42 65 (.agg #[(.int .i64 0), (.int .i64 0)]) 16 rfl Try.underlying42 info65 rfl (by decide) (by omega) u8 x8_1 (⟨wrap64 (x11_1 * a1_0), wrap64 ((wrap64 (x13_1 + 1)) * a1_0)⟩ : S65) [.int .i64 (wrap64 (x11_1 * a1_0)), .int .i64 (wrap64 ((wrap64 (x13_1 + 1)) * a1_0))] (fun _ => True) (fun _ => False) rfl rfl ?aP (fun _ hk => hk.elim) ?aF ?aO ?aB ?aS ?aL ?_; (case aP => exact k65_mkM _ _ _ (⟨wrap64 (x11_1 * a1_0), wrap64 ((wrap64 (x13_1 + 1)) * a1_0)⟩ : S65)); (case aB => exact (by repeat (first | (with_reducible first | exact HB.out | apply below_alloc | apply pw_below_drewN | apply below_drew1 | refine below_set ?_ GE293.out) | exact HB.out))); (case aF => exact (fun _ _ => trivial)); (case aO => exact (by (with_reducible repeat (first | apply Kd.R_alloc | apply Kd.R_drewN | apply Kd.R_drew)); exact HO_8.out)); (case aS => exact (below_size (by repeat (first | (with_reducible first | exact HB.out | apply below_alloc | apply pw_below_drewN | apply below_drew1 | refine below_set ?_ GE293.out) | exact HB.out)))); (case aL => have := LMc24.out; omega); intro v303 w26 ho hb hg hat; rw [← Ny302.out] at ho; have n0_ := Aside0.mk (blk_grown (g := gb293) (o := .cells #[.int .i64 a1_0, .int .i64 a1_1, .int .i64 a1_2, .int .i64 a1_3, .int .i64 a1_4, .int .i64 a1_5, .int .i64 a1_6] 41 (0, 0)) (by (with_reducible repeat (first | refine blk_drewN ?_ _ | refine blk_drew ?_ | refine blk_alloc ?_ _)); exact BK293.out) hg (Kd.R_ne HO_8.out BK293.out (by decide))); have n1_ := Aside0.mk (hb); have n2_ := Aside0.mk (ho); clear BK293; clear HB; clear HO_8; have BK293 := n0_; have HB := n1_; have HO304 := n2_; clear n0_ n1_ n2_; clear ho hb hg hat))
                          go_roundg kj11
                          case measure => have := HK1.out; have := HJ11.out; omega
                          case rel => exact ⟨(y302), (false), (0), (x11_1), (wrap64 (x13_1 + 1)), (wrap64 (x13_1 + 1)), (by first | rfl | (simp; done) | (simp [*]; done)), (by first | rfl | (simp; done) | (simp [*]; done)), (by first | rfl | (simp; done) | (simp [*]; done)), (by first | rfl | (simp; done) | (simp [*]; done)), (by first | rfl | (simp; done) | (simp [*]; done)), H', ⟨by have := HK1.out; have := HJ11.out; omega⟩, ⟨by (with_reducible repeat (first | apply Kd.R_alloc | apply Kd.R_drewN | apply Kd.R_drew)); exact HO304.out⟩, ⟨by (with_reducible repeat (first | refine blk_drewN ?_ _ | refine blk_drew ?_ | refine blk_alloc ?_ _)); exact BK293.out⟩, ⟨by repeat (first | (with_reducible first | exact HB.out | apply below_alloc | apply pw_below_drewN | apply below_drew1 | refine below_set ?_ GE293.out) | exact HB.out)⟩⟩
                        · rw [if_neg c24] at H
                          exact absurd H (by simp)
                      · rw [if_neg c23] at H
                        have c23b0 : decide (0 ≤ (wrap64 (x13_1 + 1))) = false := decide_eq_false c23
                        clear c23
                        have H' := Aside0.mk H
                        clear H
                        have hcz27_0 : wc.cell? ⟨gb293, 0, none⟩ = some (.int .i64 a1_0) := (blk_cell BK293.out 0).trans rfl
                        have hcz27_1 : wc.cell? ⟨gb293, 1, none⟩ = some (.int .i64 a1_1) := (blk_cell BK293.out 1).trans rfl
                        have hcz27_2 : wc.cell? ⟨gb293, 2, none⟩ = some (.int .i64 a1_2) := (blk_cell BK293.out 2).trans rfl
                        have hcz27_3 : wc.cell? ⟨gb293, 3, none⟩ = some (.int .i64 a1_3) := (blk_cell BK293.out 3).trans rfl
                        have hcz27_4 : wc.cell? ⟨gb293, 4, none⟩ = some (.int .i64 a1_4) := (blk_cell BK293.out 4).trans rfl
                        have hcz27_5 : wc.cell? ⟨gb293, 5, none⟩ = some (.int .i64 a1_5) := (blk_cell BK293.out 5).trans rfl
                        have hcz27_6 : wc.cell? ⟨gb293, 6, none⟩ = some (.int .i64 a1_6) := (blk_cell BK293.out 6).trans rfl
                        have hfz27_0 := blk_frozen BK293.out 0
                        have hfz27_1 := blk_frozen BK293.out 1
                        have hfz27_2 := blk_frozen BK293.out 2
                        have hfz27_3 := blk_frozen BK293.out 3
                        have hfz27_4 := blk_frozen BK293.out 4
                        have hfz27_5 := blk_frozen BK293.out 5
                        have hfz27_6 := blk_frozen BK293.out 6
                        go_wp2
                        go_roundg kj11
                        case measure => have := HK1.out; have := HJ11.out; omega
                        case rel => exact ⟨(x8_1), (true), (x10_11), (x11_1), (x12_1), (wrap64 (x13_1 + 1)), (by first | rfl | (simp; done) | (simp [*]; done)), (by first | rfl | (simp; done) | (simp [*]; done)), (by first | rfl | (simp; done) | (simp [*]; done)), (by first | rfl | (simp; done) | (simp [*]; done)), (by first | rfl | (simp; done) | (simp [*]; done)), H', ⟨by have := HK1.out; have := HJ11.out; omega⟩, ⟨by (with_reducible repeat (first | apply Kd.R_alloc | apply Kd.R_drewN | apply Kd.R_drew)); exact HO_8.out⟩, ⟨by (with_reducible repeat (first | refine blk_drewN ?_ _ | refine blk_drew ?_ | refine blk_alloc ?_ _)); exact BK293.out⟩, ⟨by repeat (first | (with_reducible first | exact HB.out | apply below_alloc | apply pw_below_drewN | apply below_drew1 | refine below_set ?_ GE293.out) | exact HB.out)⟩⟩
                    · rw [if_neg c22] at H
                      have c22b0 : ((wrap64 ((wrap64 (x13_1 + 1)) - x11_1)) == a1_6) = false := beq_eq_false_iff_ne.mpr c22
                      have c22b1 : ((wrap64 ((wrap64 (x13_1 + 1)) - x11_1)) != a1_6) = true := bne_iff_ne.mpr c22
                      by_cases c28 : (-1) ≥ 0
                      · rw [if_pos c28] at H
                        exact absurd c28 (by decide)
                      · rw [if_neg c28] at H
                        have c28b0 : decide (0 ≤ (-1)) = false := decide_eq_false c28
                        clear c28
                        have H' := Aside0.mk H
                        clear H
                        have hcz32_0 : wc.cell? ⟨gb293, 0, none⟩ = some (.int .i64 a1_0) := (blk_cell BK293.out 0).trans rfl
                        have hcz32_1 : wc.cell? ⟨gb293, 1, none⟩ = some (.int .i64 a1_1) := (blk_cell BK293.out 1).trans rfl
                        have hcz32_2 : wc.cell? ⟨gb293, 2, none⟩ = some (.int .i64 a1_2) := (blk_cell BK293.out 2).trans rfl
                        have hcz32_3 : wc.cell? ⟨gb293, 3, none⟩ = some (.int .i64 a1_3) := (blk_cell BK293.out 3).trans rfl
                        have hcz32_4 : wc.cell? ⟨gb293, 4, none⟩ = some (.int .i64 a1_4) := (blk_cell BK293.out 4).trans rfl
                        have hcz32_5 : wc.cell? ⟨gb293, 5, none⟩ = some (.int .i64 a1_5) := (blk_cell BK293.out 5).trans rfl
                        have hcz32_6 : wc.cell? ⟨gb293, 6, none⟩ = some (.int .i64 a1_6) := (blk_cell BK293.out 6).trans rfl
                        have hfz32_0 := blk_frozen BK293.out 0
                        have hfz32_1 := blk_frozen BK293.out 1
                        have hfz32_2 := blk_frozen BK293.out 2
                        have hfz32_3 := blk_frozen BK293.out 3
                        have hfz32_4 := blk_frozen BK293.out 4
                        have hfz32_5 := blk_frozen BK293.out 5
                        have hfz32_6 := blk_frozen BK293.out 6
                        go_wp2
                        go_roundg kj11
                        case measure => have := HK1.out; have := HJ11.out; omega
                        case rel => exact ⟨(x8_1), (true), (x10_11), (x11_1), (x12_1), (wrap64 (x13_1 + 1)), (by first | rfl | (simp; done) | (simp [*]; done)), (by first | rfl | (simp; done) | (simp [*]; done)), (by first | rfl | (simp; done) | (simp [*]; done)), (by first | rfl | (simp; done) | (simp [*]; done)), (by first | rfl | (simp; done) | (simp [*]; done)), H', ⟨by have := HK1.out; have := HJ11.out; omega⟩, ⟨by (with_reducible repeat (first | apply Kd.R_alloc | apply Kd.R_drewN | apply Kd.R_drew)); exact HO_8.out⟩, ⟨by (with_reducible repeat (first | refine blk_drewN ?_ _ | refine blk_drew ?_ | refine blk_alloc ?_ _)); exact BK293.out⟩, ⟨by repeat (first | (with_reducible first | exact HB.out | apply below_alloc | apply pw_below_drewN | apply below_drew1 | refine below_set ?_ GE293.out) | exact HB.out)⟩⟩
            · replace c11 := Bool.eq_false_iff.mpr c11
              subst c11
              have H1 : (if t298 < (wrap64 (a1_1 * a1_0)) then (if 0 = a1_3 then (earshotref02_Segments.l0 k1 l0 a2 x8_1 true 0 (mx (wrap64 ((wrap64 ((wrap64 (x13_1 - a1_3)) + 1)) - a1_5)) x12_1) x12_1 (wrap64 (x13_1 + 1)) a1_0 a1_1 a1_2 a1_3 a1_4 a1_5 a1_6) else (earshotref02_Segments.l0 k1 l0 a2 x8_1 false 0 x11_1 x12_1 (wrap64 (x13_1 + 1)) a1_0 a1_1 a1_2 a1_3 a1_4 a1_5 a1_6)) else (if (wrap64 (x10_1 + 1)) = a1_3 then (earshotref02_Segments.l0 k1 l0 a2 x8_1 true 0 (mx (wrap64 ((wrap64 ((wrap64 (x13_1 - a1_3)) + 1)) - a1_5)) x12_1) x12_1 (wrap64 (x13_1 + 1)) a1_0 a1_1 a1_2 a1_3 a1_4 a1_5 a1_6) else (earshotref02_Segments.l0 k1 l0 a2 x8_1 false (wrap64 (x10_1 + 1)) x11_1 x12_1 (wrap64 (x13_1 + 1)) a1_0 a1_1 a1_2 a1_3 a1_4 a1_5 a1_6))) = some (r1, r2) := by rw [if_neg (show ¬ (false = true) by decide)] at H; exact H
              clear H
              have H := H1
              clear H1
              by_cases c33 : t298 < (wrap64 (a1_1 * a1_0))
              · rw [if_pos c33] at H
                have c33b0 : decide (t298 < (wrap64 (a1_1 * a1_0))) = true := decide_eq_true c33
                clear c33
                by_cases c34 : 0 = a1_3
                · rw [if_pos c34] at H
                  have c34b0 : (0 == a1_3) = true := beq_iff_eq.mpr c34
                  have c34b1 : (0 != a1_3) = false := bne_eq_false_iff_eq.mpr c34
                  clear c34
                  obtain ⟨ji35, hji35⟩ : ∃ j_ : Int, (mx (wrap64 ((wrap64 ((wrap64 (x13_1 - a1_3)) + 1)) - a1_5)) x12_1) = j_ := ⟨_, rfl⟩
                  replace H : (earshotref02_Segments.l0 k1 l0 a2 x8_1 true 0 ji35 x12_1 (wrap64 (x13_1 + 1)) a1_0 a1_1 a1_2 a1_3 a1_4 a1_5 a1_6) = some (r1, r2) := by first | (rw [hji35] at H; exact H) | (simp only [hji35] at H ⊢; exact H)
                  (try rw [hji35] at A10)
                  have hji35_ : (if (wrap64 ((wrap64 ((wrap64 (x13_1 - a1_3)) + 1)) - a1_5)) < x12_1 then x12_1 else (wrap64 ((wrap64 ((wrap64 (x13_1 - a1_3)) + 1)) - a1_5))) = ji35 := hji35
                  have H' := Aside0.mk H
                  clear H
                  have hcz36_0 : wr.cell? ⟨gb293, 0, none⟩ = some (.int .i64 a1_0) := (blk_cell BK293.out 0).trans rfl
                  have hcz36_1 : wr.cell? ⟨gb293, 1, none⟩ = some (.int .i64 a1_1) := (blk_cell BK293.out 1).trans rfl
                  have hcz36_2 : wr.cell? ⟨gb293, 2, none⟩ = some (.int .i64 a1_2) := (blk_cell BK293.out 2).trans rfl
                  have hcz36_3 : wr.cell? ⟨gb293, 3, none⟩ = some (.int .i64 a1_3) := (blk_cell BK293.out 3).trans rfl
                  have hcz36_4 : wr.cell? ⟨gb293, 4, none⟩ = some (.int .i64 a1_4) := (blk_cell BK293.out 4).trans rfl
                  have hcz36_5 : wr.cell? ⟨gb293, 5, none⟩ = some (.int .i64 a1_5) := (blk_cell BK293.out 5).trans rfl
                  have hcz36_6 : wr.cell? ⟨gb293, 6, none⟩ = some (.int .i64 a1_6) := (blk_cell BK293.out 6).trans rfl
                  have hfz36_0 := blk_frozen BK293.out 0
                  have hfz36_1 := blk_frozen BK293.out 1
                  have hfz36_2 := blk_frozen BK293.out 2
                  have hfz36_3 := blk_frozen BK293.out 3
                  have hfz36_4 := blk_frozen BK293.out 4
                  have hfz36_5 := blk_frozen BK293.out 5
                  have hfz36_6 := blk_frozen BK293.out 6
                  obtain ⟨i037, hi037, _, hsz37, _⟩ := info_parts info3
                  obtain ⟨A37, hcut37, hA37, hC37⟩ := print_mid_of (P := Try.prog) (Value.int .i64) 0 22 3 .i64 .i64 Try.underlying22 hi037 hsz37 A0 c0 l0 (ji6) (wrap64 ((wrap64 (x13_1 + 1)) * a1_0)) (of_decide_eq_true (by first | (with_reducible assumption) | assumption)) (by first | omega | exact of_decide_eq_true (by first | (with_reducible assumption) | assumption)) (of_decide_eq_true (by first | (with_reducible assumption) | assumption)) HC0.out
                  have HR297 := Aside0.mk (Kd.C_of_reads (h1 := fun _ => rfl) (hA37 _ (Kd.reads_of_C HR0.out)))
                  have HC297 := Aside0.mk hC37
                  clear hA37 hC37 hi037 hsz37
                  go_wp2_with (first | ((with_reducible refine gate_callee (f := 60) rfl ?_); refine goesL_ (some 37) rfl rfl Try.func60 (by kernel_rfl) rfl #[.slice A37 ((l0.take ((wrap64 ((wrap64 (x13_1 + 1)) * a1_0)) : Int).toNat).drop ((ji6) : Int).toNat).length (c0 - (ji6).toNat)] rfl (by (try simp only [List.map_toArray, List.map_cons, List.map_nil]); first | done | (rw [show ((l0.take ((wrap64 ((wrap64 (x13_1 + 1)) * a1_0)) : Int).toNat).drop ((ji6) : Int).toNat).length = ((wrap64 ((wrap64 (x13_1 + 1)) * a1_0)).toNat - (ji6).toNat) from (by rw [List.length_drop, List.length_take]; have h_ : ((wrap64 ((wrap64 (x13_1 + 1)) * a1_0)) : Int) ≤ (l0.length : Int) := of_decide_eq_true (by first | (with_reducible assumption) | assumption); omega)] <;> rfl) | (simp only [hji6]; rfl) | rfl | (simp only [List.length_drop, List.length_take]; rfl)) ?_; (with_reducible refine (earshotref02_Energy.calls k1 _ _ ((l0.take ((wrap64 ((wrap64 (x13_1 + 1)) * a1_0)) : Int).toNat).drop ((ji6) : Int).toNat) t298 _ ?side1 ?side2 A10.out).mono ?_); (case side1 => repeat (first | exact (Kd.C_below HR297.out HB.out) | (with_reducible refine Kd.C_alloc ?_ _) | (with_reducible refine Kd.C_drewN ?_ _) | (with_reducible refine Kd.C_drew ?_))); (case side2 => exact HC297.out); rintro e w' ⟨rfl, ⟨nd, rfl⟩⟩; refine ⟨_, rfl, ?_⟩))
                  go_roundg k1
                  case measure => have := HK1.out; omega
                  case rel => exact ⟨(x8_1), (true), (0), (ji35), (x12_1), (wrap64 (x13_1 + 1)), (by first | rfl | (simp; done) | (simp [*]; done)), (by first | rfl | (simp; done) | (simp [*]; done)), (by first | rfl | (simp; done) | (simp only [← hji35] <;> (first | rfl | simp)) | (simp [*]; done)), (by first | rfl | (simp; done) | (simp [*]; done)), (by first | rfl | (simp; done) | (simp [*]; done)), H', ⟨by have := HK1.out; omega⟩, ⟨by (with_reducible repeat (first | apply Kd.R_alloc | apply Kd.R_drewN | apply Kd.R_drew)); exact HO_8.out⟩, ⟨by (with_reducible repeat (first | refine blk_drewN ?_ _ | refine blk_drew ?_ | refine blk_alloc ?_ _)); exact BK293.out⟩, ⟨by repeat (first | (with_reducible first | exact HB.out | apply below_alloc | apply pw_below_drewN | apply below_drew1 | refine below_set ?_ GE293.out) | exact HB.out)⟩⟩
                · rw [if_neg c34] at H
                  have c34b0 : (0 == a1_3) = false := beq_eq_false_iff_ne.mpr c34
                  have c34b1 : (0 != a1_3) = true := bne_iff_ne.mpr c34
                  have H' := Aside0.mk H
                  clear H
                  have hcz38_0 : wr.cell? ⟨gb293, 0, none⟩ = some (.int .i64 a1_0) := (blk_cell BK293.out 0).trans rfl
                  have hcz38_1 : wr.cell? ⟨gb293, 1, none⟩ = some (.int .i64 a1_1) := (blk_cell BK293.out 1).trans rfl
                  have hcz38_2 : wr.cell? ⟨gb293, 2, none⟩ = some (.int .i64 a1_2) := (blk_cell BK293.out 2).trans rfl
                  have hcz38_3 : wr.cell? ⟨gb293, 3, none⟩ = some (.int .i64 a1_3) := (blk_cell BK293.out 3).trans rfl
                  have hcz38_4 : wr.cell? ⟨gb293, 4, none⟩ = some (.int .i64 a1_4) := (blk_cell BK293.out 4).trans rfl
                  have hcz38_5 : wr.cell? ⟨gb293, 5, none⟩ = some (.int .i64 a1_5) := (blk_cell BK293.out 5).trans rfl
                  have hcz38_6 : wr.cell? ⟨gb293, 6, none⟩ = some (.int .i64 a1_6) := (blk_cell BK293.out 6).trans rfl
                  have hfz38_0 := blk_frozen BK293.out 0
                  have hfz38_1 := blk_frozen BK293.out 1
                  have hfz38_2 := blk_frozen BK293.out 2
                  have hfz38_3 := blk_frozen BK293.out 3
                  have hfz38_4 := blk_frozen BK293.out 4
                  have hfz38_5 := blk_frozen BK293.out 5
                  have hfz38_6 := blk_frozen BK293.out 6
                  obtain ⟨i039, hi039, _, hsz39, _⟩ := info_parts info3
                  obtain ⟨A39, hcut39, hA39, hC39⟩ := print_mid_of (P := Try.prog) (Value.int .i64) 0 22 3 .i64 .i64 Try.underlying22 hi039 hsz39 A0 c0 l0 (ji6) (wrap64 ((wrap64 (x13_1 + 1)) * a1_0)) (of_decide_eq_true (by first | (with_reducible assumption) | assumption)) (by first | omega | exact of_decide_eq_true (by first | (with_reducible assumption) | assumption)) (of_decide_eq_true (by first | (with_reducible assumption) | assumption)) HC0.out
                  have HR297 := Aside0.mk (Kd.C_of_reads (h1 := fun _ => rfl) (hA39 _ (Kd.reads_of_C HR0.out)))
                  have HC297 := Aside0.mk hC39
                  clear hA39 hC39 hi039 hsz39
                  go_wp2_with (first | ((with_reducible refine gate_callee (f := 60) rfl ?_); refine goesL_ (some 37) rfl rfl Try.func60 (by kernel_rfl) rfl #[.slice A39 ((l0.take ((wrap64 ((wrap64 (x13_1 + 1)) * a1_0)) : Int).toNat).drop ((ji6) : Int).toNat).length (c0 - (ji6).toNat)] rfl (by (try simp only [List.map_toArray, List.map_cons, List.map_nil]); first | done | (rw [show ((l0.take ((wrap64 ((wrap64 (x13_1 + 1)) * a1_0)) : Int).toNat).drop ((ji6) : Int).toNat).length = ((wrap64 ((wrap64 (x13_1 + 1)) * a1_0)).toNat - (ji6).toNat) from (by rw [List.length_drop, List.length_take]; have h_ : ((wrap64 ((wrap64 (x13_1 + 1)) * a1_0)) : Int) ≤ (l0.length : Int) := of_decide_eq_true (by first | (with_reducible assumption) | assumption); omega)] <;> rfl) | (simp only [hji6]; rfl) | rfl | (simp only [List.length_drop, List.length_take]; rfl)) ?_; (with_reducible refine (earshotref02_Energy.calls k1 _ _ ((l0.take ((wrap64 ((wrap64 (x13_1 + 1)) * a1_0)) : Int).toNat).drop ((ji6) : Int).toNat) t298 _ ?side1 ?side2 A10.out).mono ?_); (case side1 => repeat (first | exact (Kd.C_below HR297.out HB.out) | (with_reducible refine Kd.C_alloc ?_ _) | (with_reducible refine Kd.C_drewN ?_ _) | (with_reducible refine Kd.C_drew ?_))); (case side2 => exact HC297.out); rintro e w' ⟨rfl, ⟨nd, rfl⟩⟩; refine ⟨_, rfl, ?_⟩))
                  go_roundg k1
                  case measure => have := HK1.out; omega
                  case rel => exact ⟨(x8_1), (false), (0), (x11_1), (x12_1), (wrap64 (x13_1 + 1)), (by first | rfl | (simp; done) | (simp [*]; done)), (by first | rfl | (simp; done) | (simp [*]; done)), (by first | rfl | (simp; done) | (simp [*]; done)), (by first | rfl | (simp; done) | (simp [*]; done)), (by first | rfl | (simp; done) | (simp [*]; done)), H', ⟨by have := HK1.out; omega⟩, ⟨by (with_reducible repeat (first | apply Kd.R_alloc | apply Kd.R_drewN | apply Kd.R_drew)); exact HO_8.out⟩, ⟨by (with_reducible repeat (first | refine blk_drewN ?_ _ | refine blk_drew ?_ | refine blk_alloc ?_ _)); exact BK293.out⟩, ⟨by repeat (first | (with_reducible first | exact HB.out | apply below_alloc | apply pw_below_drewN | apply below_drew1 | refine below_set ?_ GE293.out) | exact HB.out)⟩⟩
              · rw [if_neg c33] at H
                have c33b0 : decide (t298 < (wrap64 (a1_1 * a1_0))) = false := decide_eq_false c33
                clear c33
                by_cases c40 : (wrap64 (x10_1 + 1)) = a1_3
                · rw [if_pos c40] at H
                  have c40b0 : ((wrap64 (x10_1 + 1)) == a1_3) = true := beq_iff_eq.mpr c40
                  have c40b1 : ((wrap64 (x10_1 + 1)) != a1_3) = false := bne_eq_false_iff_eq.mpr c40
                  clear c40
                  obtain ⟨ji41, hji41⟩ : ∃ j_ : Int, (mx (wrap64 ((wrap64 ((wrap64 (x13_1 - a1_3)) + 1)) - a1_5)) x12_1) = j_ := ⟨_, rfl⟩
                  replace H : (earshotref02_Segments.l0 k1 l0 a2 x8_1 true 0 ji41 x12_1 (wrap64 (x13_1 + 1)) a1_0 a1_1 a1_2 a1_3 a1_4 a1_5 a1_6) = some (r1, r2) := by first | (rw [hji41] at H; exact H) | (simp only [hji41] at H ⊢; exact H)
                  (try rw [hji41] at A10)
                  have hji41_ : (if (wrap64 ((wrap64 ((wrap64 (x13_1 - a1_3)) + 1)) - a1_5)) < x12_1 then x12_1 else (wrap64 ((wrap64 ((wrap64 (x13_1 - a1_3)) + 1)) - a1_5))) = ji41 := hji41
                  have H' := Aside0.mk H
                  clear H
                  have hcz42_0 : wr.cell? ⟨gb293, 0, none⟩ = some (.int .i64 a1_0) := (blk_cell BK293.out 0).trans rfl
                  have hcz42_1 : wr.cell? ⟨gb293, 1, none⟩ = some (.int .i64 a1_1) := (blk_cell BK293.out 1).trans rfl
                  have hcz42_2 : wr.cell? ⟨gb293, 2, none⟩ = some (.int .i64 a1_2) := (blk_cell BK293.out 2).trans rfl
                  have hcz42_3 : wr.cell? ⟨gb293, 3, none⟩ = some (.int .i64 a1_3) := (blk_cell BK293.out 3).trans rfl
                  have hcz42_4 : wr.cell? ⟨gb293, 4, none⟩ = some (.int .i64 a1_4) := (blk_cell BK293.out 4).trans rfl
                  have hcz42_5 : wr.cell? ⟨gb293, 5, none⟩ = some (.int .i64 a1_5) := (blk_cell BK293.out 5).trans rfl
                  have hcz42_6 : wr.cell? ⟨gb293, 6, none⟩ = some (.int .i64 a1_6) := (blk_cell BK293.out 6).trans rfl
                  have hfz42_0 := blk_frozen BK293.out 0
                  have hfz42_1 := blk_frozen BK293.out 1
                  have hfz42_2 := blk_frozen BK293.out 2
                  have hfz42_3 := blk_frozen BK293.out 3
                  have hfz42_4 := blk_frozen BK293.out 4
                  have hfz42_5 := blk_frozen BK293.out 5
                  have hfz42_6 := blk_frozen BK293.out 6
                  obtain ⟨i043, hi043, _, hsz43, _⟩ := info_parts info3
                  obtain ⟨A43, hcut43, hA43, hC43⟩ := print_mid_of (P := Try.prog) (Value.int .i64) 0 22 3 .i64 .i64 Try.underlying22 hi043 hsz43 A0 c0 l0 (ji6) (wrap64 ((wrap64 (x13_1 + 1)) * a1_0)) (of_decide_eq_true (by first | (with_reducible assumption) | assumption)) (by first | omega | exact of_decide_eq_true (by first | (with_reducible assumption) | assumption)) (of_decide_eq_true (by first | (with_reducible assumption) | assumption)) HC0.out
                  have HR297 := Aside0.mk (Kd.C_of_reads (h1 := fun _ => rfl) (hA43 _ (Kd.reads_of_C HR0.out)))
                  have HC297 := Aside0.mk hC43
                  clear hA43 hC43 hi043 hsz43
                  go_wp2_with (first | ((with_reducible refine gate_callee (f := 60) rfl ?_); refine goesL_ (some 37) rfl rfl Try.func60 (by kernel_rfl) rfl #[.slice A43 ((l0.take ((wrap64 ((wrap64 (x13_1 + 1)) * a1_0)) : Int).toNat).drop ((ji6) : Int).toNat).length (c0 - (ji6).toNat)] rfl (by (try simp only [List.map_toArray, List.map_cons, List.map_nil]); first | done | (rw [show ((l0.take ((wrap64 ((wrap64 (x13_1 + 1)) * a1_0)) : Int).toNat).drop ((ji6) : Int).toNat).length = ((wrap64 ((wrap64 (x13_1 + 1)) * a1_0)).toNat - (ji6).toNat) from (by rw [List.length_drop, List.length_take]; have h_ : ((wrap64 ((wrap64 (x13_1 + 1)) * a1_0)) : Int) ≤ (l0.length : Int) := of_decide_eq_true (by first | (with_reducible assumption) | assumption); omega)] <;> rfl) | (simp only [hji6]; rfl) | rfl | (simp only [List.length_drop, List.length_take]; rfl)) ?_; (with_reducible refine (earshotref02_Energy.calls k1 _ _ ((l0.take ((wrap64 ((wrap64 (x13_1 + 1)) * a1_0)) : Int).toNat).drop ((ji6) : Int).toNat) t298 _ ?side1 ?side2 A10.out).mono ?_); (case side1 => repeat (first | exact (Kd.C_below HR297.out HB.out) | (with_reducible refine Kd.C_alloc ?_ _) | (with_reducible refine Kd.C_drewN ?_ _) | (with_reducible refine Kd.C_drew ?_))); (case side2 => exact HC297.out); rintro e w' ⟨rfl, ⟨nd, rfl⟩⟩; refine ⟨_, rfl, ?_⟩))
                  go_roundg k1
                  case measure => have := HK1.out; omega
                  case rel => exact ⟨(x8_1), (true), (0), (ji41), (x12_1), (wrap64 (x13_1 + 1)), (by first | rfl | (simp; done) | (simp [*]; done)), (by first | rfl | (simp; done) | (simp [*]; done)), (by first | rfl | (simp; done) | (simp only [← hji41] <;> (first | rfl | simp)) | (simp [*]; done)), (by first | rfl | (simp; done) | (simp [*]; done)), (by first | rfl | (simp; done) | (simp [*]; done)), H', ⟨by have := HK1.out; omega⟩, ⟨by (with_reducible repeat (first | apply Kd.R_alloc | apply Kd.R_drewN | apply Kd.R_drew)); exact HO_8.out⟩, ⟨by (with_reducible repeat (first | refine blk_drewN ?_ _ | refine blk_drew ?_ | refine blk_alloc ?_ _)); exact BK293.out⟩, ⟨by repeat (first | (with_reducible first | exact HB.out | apply below_alloc | apply pw_below_drewN | apply below_drew1 | refine below_set ?_ GE293.out) | exact HB.out)⟩⟩
                · rw [if_neg c40] at H
                  have c40b0 : ((wrap64 (x10_1 + 1)) == a1_3) = false := beq_eq_false_iff_ne.mpr c40
                  have c40b1 : ((wrap64 (x10_1 + 1)) != a1_3) = true := bne_iff_ne.mpr c40
                  have H' := Aside0.mk H
                  clear H
                  have hcz44_0 : wr.cell? ⟨gb293, 0, none⟩ = some (.int .i64 a1_0) := (blk_cell BK293.out 0).trans rfl
                  have hcz44_1 : wr.cell? ⟨gb293, 1, none⟩ = some (.int .i64 a1_1) := (blk_cell BK293.out 1).trans rfl
                  have hcz44_2 : wr.cell? ⟨gb293, 2, none⟩ = some (.int .i64 a1_2) := (blk_cell BK293.out 2).trans rfl
                  have hcz44_3 : wr.cell? ⟨gb293, 3, none⟩ = some (.int .i64 a1_3) := (blk_cell BK293.out 3).trans rfl
                  have hcz44_4 : wr.cell? ⟨gb293, 4, none⟩ = some (.int .i64 a1_4) := (blk_cell BK293.out 4).trans rfl
                  have hcz44_5 : wr.cell? ⟨gb293, 5, none⟩ = some (.int .i64 a1_5) := (blk_cell BK293.out 5).trans rfl
                  have hcz44_6 : wr.cell? ⟨gb293, 6, none⟩ = some (.int .i64 a1_6) := (blk_cell BK293.out 6).trans rfl
                  have hfz44_0 := blk_frozen BK293.out 0
                  have hfz44_1 := blk_frozen BK293.out 1
                  have hfz44_2 := blk_frozen BK293.out 2
                  have hfz44_3 := blk_frozen BK293.out 3
                  have hfz44_4 := blk_frozen BK293.out 4
                  have hfz44_5 := blk_frozen BK293.out 5
                  have hfz44_6 := blk_frozen BK293.out 6
                  obtain ⟨i045, hi045, _, hsz45, _⟩ := info_parts info3
                  obtain ⟨A45, hcut45, hA45, hC45⟩ := print_mid_of (P := Try.prog) (Value.int .i64) 0 22 3 .i64 .i64 Try.underlying22 hi045 hsz45 A0 c0 l0 (ji6) (wrap64 ((wrap64 (x13_1 + 1)) * a1_0)) (of_decide_eq_true (by first | (with_reducible assumption) | assumption)) (by first | omega | exact of_decide_eq_true (by first | (with_reducible assumption) | assumption)) (of_decide_eq_true (by first | (with_reducible assumption) | assumption)) HC0.out
                  have HR297 := Aside0.mk (Kd.C_of_reads (h1 := fun _ => rfl) (hA45 _ (Kd.reads_of_C HR0.out)))
                  have HC297 := Aside0.mk hC45
                  clear hA45 hC45 hi045 hsz45
                  go_wp2_with (first | ((with_reducible refine gate_callee (f := 60) rfl ?_); refine goesL_ (some 37) rfl rfl Try.func60 (by kernel_rfl) rfl #[.slice A45 ((l0.take ((wrap64 ((wrap64 (x13_1 + 1)) * a1_0)) : Int).toNat).drop ((ji6) : Int).toNat).length (c0 - (ji6).toNat)] rfl (by (try simp only [List.map_toArray, List.map_cons, List.map_nil]); first | done | (rw [show ((l0.take ((wrap64 ((wrap64 (x13_1 + 1)) * a1_0)) : Int).toNat).drop ((ji6) : Int).toNat).length = ((wrap64 ((wrap64 (x13_1 + 1)) * a1_0)).toNat - (ji6).toNat) from (by rw [List.length_drop, List.length_take]; have h_ : ((wrap64 ((wrap64 (x13_1 + 1)) * a1_0)) : Int) ≤ (l0.length : Int) := of_decide_eq_true (by first | (with_reducible assumption) | assumption); omega)] <;> rfl) | (simp only [hji6]; rfl) | rfl | (simp only [List.length_drop, List.length_take]; rfl)) ?_; (with_reducible refine (earshotref02_Energy.calls k1 _ _ ((l0.take ((wrap64 ((wrap64 (x13_1 + 1)) * a1_0)) : Int).toNat).drop ((ji6) : Int).toNat) t298 _ ?side1 ?side2 A10.out).mono ?_); (case side1 => repeat (first | exact (Kd.C_below HR297.out HB.out) | (with_reducible refine Kd.C_alloc ?_ _) | (with_reducible refine Kd.C_drewN ?_ _) | (with_reducible refine Kd.C_drew ?_))); (case side2 => exact HC297.out); rintro e w' ⟨rfl, ⟨nd, rfl⟩⟩; refine ⟨_, rfl, ?_⟩))
                  go_roundg k1
                  case measure => have := HK1.out; omega
                  case rel => exact ⟨(x8_1), (false), (wrap64 (x10_1 + 1)), (x11_1), (x12_1), (wrap64 (x13_1 + 1)), (by first | rfl | (simp; done) | (simp [*]; done)), (by first | rfl | (simp; done) | (simp [*]; done)), (by first | rfl | (simp; done) | (simp [*]; done)), (by first | rfl | (simp; done) | (simp [*]; done)), (by first | rfl | (simp; done) | (simp [*]; done)), H', ⟨by have := HK1.out; omega⟩, ⟨by (with_reducible repeat (first | apply Kd.R_alloc | apply Kd.R_drewN | apply Kd.R_drew)); exact HO_8.out⟩, ⟨by (with_reducible repeat (first | refine blk_drewN ?_ _ | refine blk_drew ?_ | refine blk_alloc ?_ _)); exact BK293.out⟩, ⟨by repeat (first | (with_reducible first | exact HB.out | apply below_alloc | apply pw_below_drewN | apply below_drew1 | refine below_set ?_ GE293.out) | exact HB.out)⟩⟩
          · rw [if_neg c8] at H
            exact absurd H (by simp)
        · rw [if_neg c7] at H
          exact absurd H (by simp)
      · rw [if_neg c5] at H
        have c5b0 : decide ((wrap64 ((wrap64 (x13_1 + 1)) * a1_0)) ≤ (l0.length : Int)) = false := decide_eq_false c5
        clear c5
        by_cases c46 : a2 = true
        · subst c46
          have H1 : (if x9_1 = true then (if x8_1.length < 8796093022208 then (some ((x8_1 ++ [(⟨wrap64 (x11_1 * a1_0), (l0.length : Int)⟩ : S65)]), x9_1)) else (none)) else (some (x8_1, x9_1))) = some (r1, r2) := by rw [if_pos rfl] at H; exact H
          clear H
          have H := H1
          clear H1
          by_cases c47 : x9_1 = true
          · subst c47
            have H1 : (if x8_1.length < 8796093022208 then (some ((x8_1 ++ [(⟨wrap64 (x11_1 * a1_0), (l0.length : Int)⟩ : S65)]), true)) else (none)) = some (r1, r2) := by rw [if_pos rfl] at H; exact H
            clear H
            have H := H1
            clear H1
            by_cases c48 : x8_1.length < 8796093022208
            · rw [if_pos c48] at H
              have LMc48 := Aside0.mk c48
              clear c48
              obtain ⟨y294, hy294⟩ : ∃ y_ : List (S65), y_ = (x8_1 ++ [(⟨wrap64 (x11_1 * a1_0), (l0.length : Int)⟩ : S65)]) := ⟨_, rfl⟩
              replace H : (some (y294, true)) = some (r1, r2) := by first | (rw [hy294]; with_reducible exact H) | (have H2_ := (Option.bind_some _ _).symm.trans H; rw [hy294]; with_reducible exact H2_) | (have H2_ := (Option.bind_some _ _).symm.trans H; with_reducible exact H2_) | with_reducible exact H | (rw [hy294]; exact H) | exact H
              have Ny294 := Aside0.mk hy294
              clear hy294
              simp only [Option.some.injEq, Prod.mk.injEq] at H
              obtain ⟨rfl, rfl⟩ := H
              have hcz49_0 : wr.cell? ⟨gb293, 0, none⟩ = some (.int .i64 a1_0) := (blk_cell BK293.out 0).trans rfl
              have hcz49_1 : wr.cell? ⟨gb293, 1, none⟩ = some (.int .i64 a1_1) := (blk_cell BK293.out 1).trans rfl
              have hcz49_2 : wr.cell? ⟨gb293, 2, none⟩ = some (.int .i64 a1_2) := (blk_cell BK293.out 2).trans rfl
              have hcz49_3 : wr.cell? ⟨gb293, 3, none⟩ = some (.int .i64 a1_3) := (blk_cell BK293.out 3).trans rfl
              have hcz49_4 : wr.cell? ⟨gb293, 4, none⟩ = some (.int .i64 a1_4) := (blk_cell BK293.out 4).trans rfl
              have hcz49_5 : wr.cell? ⟨gb293, 5, none⟩ = some (.int .i64 a1_5) := (blk_cell BK293.out 5).trans rfl
              have hcz49_6 : wr.cell? ⟨gb293, 6, none⟩ = some (.int .i64 a1_6) := (blk_cell BK293.out 6).trans rfl
              have hfz49_0 := blk_frozen BK293.out 0
              have hfz49_1 := blk_frozen BK293.out 1
              have hfz49_2 := blk_frozen BK293.out 2
              have hfz49_3 := blk_frozen BK293.out 3
              have hfz49_4 := blk_frozen BK293.out 4
              have hfz49_5 := blk_frozen BK293.out 5
              have hfz49_6 := blk_frozen BK293.out 6
              go_wp2_with (first | ((with_reducible refine gate_builtin (b := .append) (xs := #[.tmp 109, .tmp 117]) rfl ?_); at_builtin; refine Kd.R_append k65 (w0 := w) w.heap.size rfl (.tmp 109) (.tmp 117) 42 65 (.agg #[(.int .i64 0), (.int .i64 0)]) 16 rfl Try.underlying42 info65 rfl (by decide) (by omega) u8 x8_1 (⟨wrap64 (x11_1 * a1_0), (l0.length : Int)⟩ : S65) [.int .i64 (wrap64 (x11_1 * a1_0)), .int .i64 (l0.length : Int)] (fun _ => True) (fun _ => False) rfl rfl ?aP (fun _ hk => hk.elim) ?aF ?aO ?aB ?aS ?aL ?_; (case aP => exact k65_mkM _ _ _ (⟨wrap64 (x11_1 * a1_0), (l0.length : Int)⟩ : S65)); (case aB => exact (by repeat (first | (with_reducible first | exact HB.out | apply below_alloc | apply pw_below_drewN | apply below_drew1 | refine below_set ?_ GE293.out) | exact HB.out))); (case aF => exact (fun _ _ => trivial)); (case aO => exact (by (with_reducible repeat (first | apply Kd.R_alloc | apply Kd.R_drewN | apply Kd.R_drew)); exact HO_8.out)); (case aS => exact (below_size (by repeat (first | (with_reducible first | exact HB.out | apply below_alloc | apply pw_below_drewN | apply below_drew1 | refine below_set ?_ GE293.out) | exact HB.out)))); (case aL => have := LMc48.out; omega); intro v295 w50 ho hb hg hat; rw [← Ny294.out] at ho; have n0_ := Aside0.mk (blk_grown (g := gb293) (o := .cells #[.int .i64 a1_0, .int .i64 a1_1, .int .i64 a1_2, .int .i64 a1_3, .int .i64 a1_4, .int .i64 a1_5, .int .i64 a1_6] 41 (0, 0)) (by (with_reducible repeat (first | refine blk_drewN ?_ _ | refine blk_drew ?_ | refine blk_alloc ?_ _)); exact BK293.out) hg (Kd.R_ne HO_8.out BK293.out (by decide))); have n1_ := Aside0.mk (hb); have n2_ := Aside0.mk (ho); clear BK293; clear HB; clear HO_8; have BK293 := n0_; have HB := n1_; have HO296 := n2_; clear n0_ n1_ n2_; clear ho hb hg hat))
              go_ret2
              exact ⟨_, by first | rfl | (simp [errW_none, errW_some] <;> rfl) | (simp [*, errW_none, errW_some] <;> rfl), by (with_reducible repeat (first | apply Kd.R_alloc | apply Kd.R_drewN | apply Kd.R_drew)); exact HO296.out, by repeat (first | (with_reducible first | exact HB.out | apply below_alloc | apply pw_below_drewN | apply below_drew1 | refine below_set ?_ GE293.out) | exact HB.out)⟩
            · rw [if_neg c48] at H
              exact absurd H (by simp)
          · replace c47 := Bool.eq_false_iff.mpr c47
            subst c47
            have H1 : (some (x8_1, false)) = some (r1, r2) := by rw [if_neg (show ¬ (false = true) by decide)] at H; exact H
            clear H
            have H := H1
            clear H1
            simp only [Option.some.injEq, Prod.mk.injEq] at H
            obtain ⟨rfl, rfl⟩ := H
            have hcz51_0 : wr.cell? ⟨gb293, 0, none⟩ = some (.int .i64 a1_0) := (blk_cell BK293.out 0).trans rfl
            have hcz51_1 : wr.cell? ⟨gb293, 1, none⟩ = some (.int .i64 a1_1) := (blk_cell BK293.out 1).trans rfl
            have hcz51_2 : wr.cell? ⟨gb293, 2, none⟩ = some (.int .i64 a1_2) := (blk_cell BK293.out 2).trans rfl
            have hcz51_3 : wr.cell? ⟨gb293, 3, none⟩ = some (.int .i64 a1_3) := (blk_cell BK293.out 3).trans rfl
            have hcz51_4 : wr.cell? ⟨gb293, 4, none⟩ = some (.int .i64 a1_4) := (blk_cell BK293.out 4).trans rfl
            have hcz51_5 : wr.cell? ⟨gb293, 5, none⟩ = some (.int .i64 a1_5) := (blk_cell BK293.out 5).trans rfl
            have hcz51_6 : wr.cell? ⟨gb293, 6, none⟩ = some (.int .i64 a1_6) := (blk_cell BK293.out 6).trans rfl
            have hfz51_0 := blk_frozen BK293.out 0
            have hfz51_1 := blk_frozen BK293.out 1
            have hfz51_2 := blk_frozen BK293.out 2
            have hfz51_3 := blk_frozen BK293.out 3
            have hfz51_4 := blk_frozen BK293.out 4
            have hfz51_5 := blk_frozen BK293.out 5
            have hfz51_6 := blk_frozen BK293.out 6
            go_wp2
            go_ret2
            exact ⟨_, by first | rfl | (simp [errW_none, errW_some] <;> rfl) | (simp [*, errW_none, errW_some] <;> rfl), by (with_reducible repeat (first | apply Kd.R_alloc | apply Kd.R_drewN | apply Kd.R_drew)); exact HO_8.out, by repeat (first | (with_reducible first | exact HB.out | apply below_alloc | apply pw_below_drewN | apply below_drew1 | refine below_set ?_ GE293.out) | exact HB.out)⟩
        · replace c46 := Bool.eq_false_iff.mpr c46
          subst c46
          have H1 : (some (x8_1, x9_1)) = some (r1, r2) := by rw [if_neg (show ¬ (false = true) by decide)] at H; exact H
          clear H
          have H := H1
          clear H1
          simp only [Option.some.injEq, Prod.mk.injEq] at H
          obtain ⟨rfl, rfl⟩ := H
          have hcz52_0 : wr.cell? ⟨gb293, 0, none⟩ = some (.int .i64 a1_0) := (blk_cell BK293.out 0).trans rfl
          have hcz52_1 : wr.cell? ⟨gb293, 1, none⟩ = some (.int .i64 a1_1) := (blk_cell BK293.out 1).trans rfl
          have hcz52_2 : wr.cell? ⟨gb293, 2, none⟩ = some (.int .i64 a1_2) := (blk_cell BK293.out 2).trans rfl
          have hcz52_3 : wr.cell? ⟨gb293, 3, none⟩ = some (.int .i64 a1_3) := (blk_cell BK293.out 3).trans rfl
          have hcz52_4 : wr.cell? ⟨gb293, 4, none⟩ = some (.int .i64 a1_4) := (blk_cell BK293.out 4).trans rfl
          have hcz52_5 : wr.cell? ⟨gb293, 5, none⟩ = some (.int .i64 a1_5) := (blk_cell BK293.out 5).trans rfl
          have hcz52_6 : wr.cell? ⟨gb293, 6, none⟩ = some (.int .i64 a1_6) := (blk_cell BK293.out 6).trans rfl
          have hfz52_0 := blk_frozen BK293.out 0
          have hfz52_1 := blk_frozen BK293.out 1
          have hfz52_2 := blk_frozen BK293.out 2
          have hfz52_3 := blk_frozen BK293.out 3
          have hfz52_4 := blk_frozen BK293.out 4
          have hfz52_5 := blk_frozen BK293.out 5
          have hfz52_6 := blk_frozen BK293.out 6
          go_wp2
          go_ret2
          exact ⟨_, by first | rfl | (simp [errW_none, errW_some] <;> rfl) | (simp [*, errW_none, errW_some] <;> rfl), by (with_reducible repeat (first | apply Kd.R_alloc | apply Kd.R_drewN | apply Kd.R_drew)); exact HO_8.out, by repeat (first | (with_reducible first | exact HB.out | apply below_alloc | apply pw_below_drewN | apply below_drew1 | refine below_set ?_ GE293.out) | exact HB.out)⟩

end Go.Proofs.Ytigbfcodnbnicaa.P
