-- WRITTEN BY A PROGRAM OF THIS SESSION (wip/xprint.py), over the kit's printer; Lean checks it.
import Derived.Test.YtigbfcodnbnicaaX0
import Derived.Test.YtigbfcodnbnicaaHEnergy
import Derived.Test.YtigbfcodnbnicaaXBase
import Derived.Test.YtigbfcodnbnicaaXF21
import Derived.Test.YtigbfcodnbnicaaXF27
import Derived.Test.YtigbfcodnbnicaaXF55
import Derived.Test.YtigbfcodnbnicaaXF56
import Derived.Test.YtigbfcodnbnicaaXF57
import Derived.Test.YtigbfcodnbnicaaXF58
import Derived.Test.YtigbfcodnbnicaaXF59
import Derived.Test.YtigbfcodnbnicaaXF60
namespace Go.Proofs.Ytigbfcodnbnicaa.P
open Go.RowKit Go.Proofs.YtigbfcodnbnicaaW.PrintWords Go.Proofs.YtigbfcodnbnicaaW.PrintLast Go.Proofs.YtigbfcodnbnicaaW.PrintMore
attribute [local go_sem] max2_int min2_int max_two min_two max_three min_three max_four min_four   -- for this text's walks alone
set_option linter.unusedVariables false
set_option linter.unusedSimpArgs false

/-! ### earshotlaw02_WaveMeasures: function 20 -/
mutual
def earshotlaw02_WaveMeasures.j0 : Nat → List Int → Int → Int → Int → Int → Int → Int → Int → Option (Bool)
  | 0, _, _, _, _, _, _, _, _ => none
  | k + 1, x0, x3, x4, x5, x6, x7, x8, x9 => if x9 = 0 then (if x6 = 0 then (if x8 = 0 then ((earshotref02_Changes.f k x0).bind fun t628 => (if x5 = t628 then ((earshotref02_Peak.f k x0).bind fun t629 => (earshotlaw02_WaveMeasures.j1 k x0 x3 x4 (x7 != t629))) else (earshotlaw02_WaveMeasures.j1 k x0 x3 x4 true))) else (earshotlaw02_WaveMeasures.j1 k x0 x3 x4 true)) else (earshotlaw02_WaveMeasures.j1 k x0 x3 x4 true)) else (if x4 = x9 then (if x6 = x9 then (if x8 = x9 then (if x3 = 0 then (if x5 = 0 then (if x7 = 0 then ((earshotlaw02_known.f k).bind fun t627 => (some t627)) else (some false)) else (some false)) else (some false)) else (some false)) else (some false)) else (some false))
def earshotlaw02_WaveMeasures.j1 : Nat → List Int → Int → Int → Bool → Option (Bool)
  | 0, _, _, _, _ => none
  | k + 1, x0, x3, x4, x83 => if x83 = true then (some false) else ((earshotref02_All.f k x0 (-65536) 65535).bind fun t630 => (if t630 = true then (if x4 = 0 then ((earshotref02_Energy.f k x0).bind fun t631 => (if x3 = t631 then ((earshotlaw02_known.f k).bind fun t632 => (some t632)) else (some false))) else (some false)) else (if x4 = 2 then (if x3 = 0 then ((earshotlaw02_known.f k).bind fun t633 => (some t633)) else (some false)) else (some false))))
end
def earshotlaw02_WaveMeasures.f (k : Nat) (l0 : List Int) : Option (Bool) := (earshotlaw02_short.f (l0.length : Int)).bind fun t618 => (if t618 = true then ((wave_Energy.f l0).bind fun bt620 => ((wave_Changes.f k l0).bind fun bt622 => ((wave_Peak.f k l0).bind fun bt624 => (if (l0.length : Int) > 200000 then (earshotlaw02_WaveMeasures.j0 k l0 bt620.1 bt620.2 bt622.1 bt622.2 bt624.1 bt624.2 5) else ((earshotref02_Values.f k l0).bind fun t626 => (if t626 = true then (earshotlaw02_WaveMeasures.j0 k l0 bt620.1 bt620.2 bt622.1 bt622.2 bt624.1 bt624.2 0) else (earshotlaw02_WaveMeasures.j0 k l0 bt620.1 bt620.2 bt622.1 bt622.2 bt624.1 bt624.2 2))))))) else ((earshotlaw02_known.f k).bind fun t619 => (some t619)))
theorem earshotlaw02_WaveMeasures.mono_l : ∀ k, (∀ y0 y1 y2 y3 y4 y5 y6 y7, LeO (earshotlaw02_WaveMeasures.j0 k y0 y1 y2 y3 y4 y5 y6 y7) (earshotlaw02_WaveMeasures.j0 (k + 1) y0 y1 y2 y3 y4 y5 y6 y7)) ∧ (∀ y0 y1 y2 y3, LeO (earshotlaw02_WaveMeasures.j1 k y0 y1 y2 y3) (earshotlaw02_WaveMeasures.j1 (k + 1) y0 y1 y2 y3))
  | 0 => ⟨fun _ _ _ _ _ _ _ _ r h => by simp [earshotlaw02_WaveMeasures.j0] at h, fun _ _ _ _ r h => by simp [earshotlaw02_WaveMeasures.j1] at h⟩
  | k + 1 => by
    obtain ⟨ih0, ih1⟩ := earshotlaw02_WaveMeasures.mono_l k
    refine ⟨?_, ?_⟩
    · intro y0 y1 y2 y3 y4 y5 y6 y7
      unfold earshotlaw02_WaveMeasures.j0
      repeat' first
      | (with_reducible exact ih0 _ _ _ _ _ _ _ _)
      | (with_reducible exact ih1 _ _ _ _)
      | (with_reducible exact earshotlaw02_known.mono _)
      | (with_reducible exact earshotref02_All.mono _ _ _ _)
      | (with_reducible exact earshotref02_Changes.mono _ _)
      | (with_reducible exact earshotref02_Energy.mono _ _)
      | (with_reducible exact earshotref02_Peak.mono _ _)
      | (with_reducible exact earshotref02_Values.mono _ _)
      | (with_reducible exact wave_Changes.mono _ _)
      | (with_reducible exact wave_Peak.mono _ _)
      | (with_reducible exact LeO.refl _)
      | (with_reducible exact LeO.none _)
      | (with_reducible refine LeO.ite ?_ ?_)
      | (with_reducible refine LeO.bind ?_ (fun _ => ?_))
      | exact ih0 _ _ _ _ _ _ _ _
      | exact ih1 _ _ _ _
      | exact earshotlaw02_known.mono _
      | exact earshotref02_All.mono _ _ _ _
      | exact earshotref02_Changes.mono _ _
      | exact earshotref02_Energy.mono _ _
      | exact earshotref02_Peak.mono _ _
      | exact earshotref02_Values.mono _ _
      | exact wave_Changes.mono _ _
      | exact wave_Peak.mono _ _
      | exact LeO.none _
      | refine LeO.ite ?_ ?_
      | refine LeO.bind ?_ (fun _ => ?_)
    · intro y0 y1 y2 y3
      unfold earshotlaw02_WaveMeasures.j1
      repeat' first
      | (with_reducible exact ih0 _ _ _ _ _ _ _ _)
      | (with_reducible exact ih1 _ _ _ _)
      | (with_reducible exact earshotlaw02_known.mono _)
      | (with_reducible exact earshotref02_All.mono _ _ _ _)
      | (with_reducible exact earshotref02_Changes.mono _ _)
      | (with_reducible exact earshotref02_Energy.mono _ _)
      | (with_reducible exact earshotref02_Peak.mono _ _)
      | (with_reducible exact earshotref02_Values.mono _ _)
      | (with_reducible exact wave_Changes.mono _ _)
      | (with_reducible exact wave_Peak.mono _ _)
      | (with_reducible exact LeO.refl _)
      | (with_reducible exact LeO.none _)
      | (with_reducible refine LeO.ite ?_ ?_)
      | (with_reducible refine LeO.bind ?_ (fun _ => ?_))
      | exact ih0 _ _ _ _ _ _ _ _
      | exact ih1 _ _ _ _
      | exact earshotlaw02_known.mono _
      | exact earshotref02_All.mono _ _ _ _
      | exact earshotref02_Changes.mono _ _
      | exact earshotref02_Energy.mono _ _
      | exact earshotref02_Peak.mono _ _
      | exact earshotref02_Values.mono _ _
      | exact wave_Changes.mono _ _
      | exact wave_Peak.mono _ _
      | exact LeO.none _
      | refine LeO.ite ?_ ?_
      | refine LeO.bind ?_ (fun _ => ?_)
theorem earshotlaw02_WaveMeasures.mono : ∀ a0 k, LeO (earshotlaw02_WaveMeasures.f k a0) (earshotlaw02_WaveMeasures.f (k + 1) a0) := by
  intro a0 k
  obtain ⟨ih0, ih1⟩ := earshotlaw02_WaveMeasures.mono_l k
  unfold earshotlaw02_WaveMeasures.f
  repeat' first
      | (with_reducible exact ih0 _ _ _ _ _ _ _ _)
      | (with_reducible exact ih1 _ _ _ _)
      | (with_reducible exact earshotlaw02_known.mono _)
      | (with_reducible exact earshotref02_All.mono _ _ _ _)
      | (with_reducible exact earshotref02_Changes.mono _ _)
      | (with_reducible exact earshotref02_Energy.mono _ _)
      | (with_reducible exact earshotref02_Peak.mono _ _)
      | (with_reducible exact earshotref02_Values.mono _ _)
      | (with_reducible exact wave_Changes.mono _ _)
      | (with_reducible exact wave_Peak.mono _ _)
      | (with_reducible exact LeO.refl _)
      | (with_reducible exact LeO.none _)
      | (with_reducible refine LeO.ite ?_ ?_)
      | (with_reducible refine LeO.bind ?_ (fun _ => ?_))
      | exact ih0 _ _ _ _ _ _ _ _
      | exact ih1 _ _ _ _
      | exact earshotlaw02_known.mono _
      | exact earshotref02_All.mono _ _ _ _
      | exact earshotref02_Changes.mono _ _
      | exact earshotref02_Energy.mono _ _
      | exact earshotref02_Peak.mono _ _
      | exact earshotref02_Values.mono _ _
      | exact wave_Changes.mono _ _
      | exact wave_Peak.mono _ _
      | exact LeO.none _
      | refine LeO.ite ?_ ?_
      | refine LeO.bind ?_ (fun _ => ?_)
set_option maxHeartbeats 8000000 in
set_option maxRecDepth 100000 in
theorem earshotlaw02_WaveMeasures.calls (k : Nat) (A0 : Option Addr) (c0 : Nat) (l0 : List Int) (r : Bool) (w : World) (hr0 : Kd.C (Kd.int .i64) w A0 l0.length l0) (hc0 : l0.length ≤ c0) (h : earshotlaw02_WaveMeasures.f k l0 = some r) :
    Calls Try.prog 20 #[.slice A0 l0.length c0] w fun e w' => e = .returned (.bool r) ∧ Below w.heap.size w w' := by
  have HR0 := Aside0.mk hr0
  have HC0 := Aside0.mk hc0
  clear hr0 hc0
  have HB := Aside0.mk (Below.refl w.heap.size w)
  have H : ((earshotlaw02_short.f (l0.length : Int)).bind fun t618 => (if t618 = true then ((wave_Energy.f l0).bind fun bt620 => ((wave_Changes.f k l0).bind fun bt622 => ((wave_Peak.f k l0).bind fun bt624 => (if (l0.length : Int) > 200000 then (earshotlaw02_WaveMeasures.j0 k l0 bt620.1 bt620.2 bt622.1 bt622.2 bt624.1 bt624.2 5) else ((earshotref02_Values.f k l0).bind fun t626 => (if t626 = true then (earshotlaw02_WaveMeasures.j0 k l0 bt620.1 bt620.2 bt622.1 bt622.2 bt624.1 bt624.2 0) else (earshotlaw02_WaveMeasures.j0 k l0 bt620.1 bt620.2 bt622.1 bt622.2 bt624.1 bt624.2 2))))))) else ((earshotlaw02_known.f k).bind fun t619 => (some t619)))) = some r := h
  clear h
  replace H := Option.bind_eq_some_iff.mp H
  obtain ⟨t618, A20, H⟩ := H
  replace H : (if t618 = true then ((wave_Energy.f l0).bind fun bt620 => ((wave_Changes.f k l0).bind fun bt622 => ((wave_Peak.f k l0).bind fun bt624 => (if (l0.length : Int) > 200000 then (earshotlaw02_WaveMeasures.j0 k l0 bt620.1 bt620.2 bt622.1 bt622.2 bt624.1 bt624.2 5) else ((earshotref02_Values.f k l0).bind fun t626 => (if t626 = true then (earshotlaw02_WaveMeasures.j0 k l0 bt620.1 bt620.2 bt622.1 bt622.2 bt624.1 bt624.2 0) else (earshotlaw02_WaveMeasures.j0 k l0 bt620.1 bt620.2 bt622.1 bt622.2 bt624.1 bt624.2 2))))))) else ((earshotlaw02_known.f k).bind fun t619 => (some t619))) = some r := H
  have A2 := Aside0.mk A20
  clear A20
  by_cases c3 : t618 = true
  · subst c3
    have H1 : ((wave_Energy.f l0).bind fun bt620 => ((wave_Changes.f k l0).bind fun bt622 => ((wave_Peak.f k l0).bind fun bt624 => (if (l0.length : Int) > 200000 then (earshotlaw02_WaveMeasures.j0 k l0 bt620.1 bt620.2 bt622.1 bt622.2 bt624.1 bt624.2 5) else ((earshotref02_Values.f k l0).bind fun t626 => (if t626 = true then (earshotlaw02_WaveMeasures.j0 k l0 bt620.1 bt620.2 bt622.1 bt622.2 bt624.1 bt624.2 0) else (earshotlaw02_WaveMeasures.j0 k l0 bt620.1 bt620.2 bt622.1 bt622.2 bt624.1 bt624.2 2))))))) = some r := by rw [if_pos rfl] at H; exact H
    clear H
    have H := H1
    clear H1
    replace H := Option.bind_eq_some_iff.mp H
    obtain ⟨⟨t620, t621⟩, A40, H⟩ := H
    replace H : ((wave_Changes.f k l0).bind fun bt622 => ((wave_Peak.f k l0).bind fun bt624 => (if (l0.length : Int) > 200000 then (earshotlaw02_WaveMeasures.j0 k l0 t620 t621 bt622.1 bt622.2 bt624.1 bt624.2 5) else ((earshotref02_Values.f k l0).bind fun t626 => (if t626 = true then (earshotlaw02_WaveMeasures.j0 k l0 t620 t621 bt622.1 bt622.2 bt624.1 bt624.2 0) else (earshotlaw02_WaveMeasures.j0 k l0 t620 t621 bt622.1 bt622.2 bt624.1 bt624.2 2)))))) = some r := H
    have A4 := Aside0.mk A40
    clear A40
    replace H := Option.bind_eq_some_iff.mp H
    obtain ⟨⟨t622, t623⟩, A50, H⟩ := H
    replace H : ((wave_Peak.f k l0).bind fun bt624 => (if (l0.length : Int) > 200000 then (earshotlaw02_WaveMeasures.j0 k l0 t620 t621 t622 t623 bt624.1 bt624.2 5) else ((earshotref02_Values.f k l0).bind fun t626 => (if t626 = true then (earshotlaw02_WaveMeasures.j0 k l0 t620 t621 t622 t623 bt624.1 bt624.2 0) else (earshotlaw02_WaveMeasures.j0 k l0 t620 t621 t622 t623 bt624.1 bt624.2 2))))) = some r := H
    have A5 := Aside0.mk A50
    clear A50
    replace H := Option.bind_eq_some_iff.mp H
    obtain ⟨⟨t624, t625⟩, A60, H⟩ := H
    replace H : (if (l0.length : Int) > 200000 then (earshotlaw02_WaveMeasures.j0 k l0 t620 t621 t622 t623 t624 t625 5) else ((earshotref02_Values.f k l0).bind fun t626 => (if t626 = true then (earshotlaw02_WaveMeasures.j0 k l0 t620 t621 t622 t623 t624 t625 0) else (earshotlaw02_WaveMeasures.j0 k l0 t620 t621 t622 t623 t624 t625 2)))) = some r := H
    have A6 := Aside0.mk A60
    clear A60
    have HC7 := Aside0.mk H
    clear H
    go_enter Try.func20, Try.ntmps20
    go_upto_if 32 with (first | ((with_reducible refine gate_callee (f := 21) rfl ?_); refine goesL_ (some 12) rfl rfl Try.func21 (by kernel_rfl) rfl #[.int .i64 (l0.length : Int)] rfl (by (try simp only [List.map_toArray, List.map_cons, List.map_nil]); first | done | rfl | (simp only [List.length_drop, List.length_take]; rfl)) ?_; (with_reducible refine (earshotlaw02_short.calls (l0.length : Int) true _ A2.out).mono ?_); rintro e w' ⟨rfl, ⟨nd, rfl⟩⟩; refine ⟨_, rfl, ?_⟩) | ((with_reducible refine gate_callee (f := 44) rfl ?_); refine goesL_ (some 17) rfl rfl Try.func44 (by kernel_rfl) rfl #[.slice A0 l0.length c0] rfl (by (try simp only [List.map_toArray, List.map_cons, List.map_nil]); first | done | rfl | (simp only [List.length_drop, List.length_take]; rfl)) ?_; (with_reducible refine (wave_Energy.calls _ _ l0 t620 t621 _ ?side1 ?side2 A4.out).mono ?_); (case side1 => repeat (first | exact HR0.out | (with_reducible refine Kd.C_alloc ?_ _) | (with_reducible refine Kd.C_drewN ?_ _) | (with_reducible refine Kd.C_drew ?_))); (case side2 => exact HC0.out); rintro e w' ⟨rfl, ⟨nd, rfl⟩⟩; refine ⟨_, rfl, ?_⟩) | ((with_reducible refine gate_callee (f := 56) rfl ?_); refine goesL_ (some 22) rfl rfl Try.func56 (by kernel_rfl) rfl #[.slice A0 l0.length c0] rfl (by (try simp only [List.map_toArray, List.map_cons, List.map_nil]); first | done | rfl | (simp only [List.length_drop, List.length_take]; rfl)) ?_; (with_reducible refine (wave_Changes.calls k _ _ l0 t622 t623 _ ?side1 ?side2 A5.out).mono ?_); (case side1 => repeat (first | exact HR0.out | (with_reducible refine Kd.C_alloc ?_ _) | (with_reducible refine Kd.C_drewN ?_ _) | (with_reducible refine Kd.C_drew ?_))); (case side2 => exact HC0.out); rintro e w' ⟨rfl, ⟨nd, rfl⟩⟩; refine ⟨_, rfl, ?_⟩) | ((with_reducible refine gate_callee (f := 57) rfl ?_); refine goesL_ (some 27) rfl rfl Try.func57 (by kernel_rfl) rfl #[.slice A0 l0.length c0] rfl (by (try simp only [List.map_toArray, List.map_cons, List.map_nil]); first | done | rfl | (simp only [List.length_drop, List.length_take]; rfl)) ?_; (with_reducible refine (wave_Peak.calls k _ _ l0 t624 t625 _ ?side1 ?side2 A6.out).mono ?_); (case side1 => repeat (first | exact HR0.out | (with_reducible refine Kd.C_alloc ?_ _) | (with_reducible refine Kd.C_drewN ?_ _) | (with_reducible refine Kd.C_drew ?_))); (case side2 => exact HC0.out); rintro e w8 ⟨rfl, hb⟩; refine ⟨_, rfl, ?_⟩; have n0_ := Aside0.mk (below_step (by repeat (first | (with_reducible first | exact HB.out | apply below_alloc | apply pw_below_drewN | apply below_drew1) | exact HB.out)) hb); clear HB; have HB := n0_; clear n0_; (try clear hb); (try clear hb2); (try clear hk); (try clear hi)))
    (try simp only [Act.put, List.setIfInBounds_toArray, List.set_cons_zero, List.set_cons_succ])
    go_cut [9] (fun v9 wc => ∃ (kq : Nat) (x9_6 : Int), v9 = .int .i64 x9_6 ∧ Aside0 (earshotlaw02_WaveMeasures.j0 kq l0 t620 t621 t622 t623 t624 t625 x9_6 = some r) ∧ Aside0 (kq ≤ k) ∧ Aside0 (Below w.heap.size w wc))
    case first =>
      have H := HC7.out
      clear HC7
      by_cases c9 : (l0.length : Int) > 200000
      · rw [if_pos c9] at H
        have c9b0 : decide (200000 < (l0.length : Int)) = true := decide_eq_true c9
        have c9b1 : decide (200000 < l0.length) = true := decide_eq_true (by omega)
        clear c9
        (first | rw [c9b0] | (simp only [i64_w, i32_w]; rw [c9b0]) | skip)
        have H' := Aside0.mk H
        clear H
        go_wp2
        go_meet
        case rel => exact ⟨_, (5), (by first | rfl | (simp; done) | (simp [*]; done)), H', ⟨by first | omega | exact Nat.le_refl _⟩, ⟨by repeat (first | (with_reducible first | exact HB.out | apply below_alloc | apply pw_below_drewN | apply below_drew1) | exact HB.out)⟩⟩
      · rw [if_neg c9] at H
        have c9b0 : decide (200000 < (l0.length : Int)) = false := decide_eq_false c9
        have c9b1 : decide (200000 < l0.length) = false := decide_eq_false (by omega)
        clear c9
        (first | rw [c9b0] | (simp only [i64_w, i32_w]; rw [c9b0]) | skip)
        replace H := Option.bind_eq_some_iff.mp H
        obtain ⟨t626, A100, H⟩ := H
        replace H : (if t626 = true then (earshotlaw02_WaveMeasures.j0 k l0 t620 t621 t622 t623 t624 t625 0) else (earshotlaw02_WaveMeasures.j0 k l0 t620 t621 t622 t623 t624 t625 2)) = some r := H
        have A10 := Aside0.mk A100
        clear A100
        by_cases c11 : t626 = true
        · subst c11
          have H1 : (earshotlaw02_WaveMeasures.j0 k l0 t620 t621 t622 t623 t624 t625 0) = some r := by rw [if_pos rfl] at H; exact H
          clear H
          have H := H1
          clear H1
          have H' := Aside0.mk H
          clear H
          go_wp2_with (first | ((with_reducible refine gate_callee (f := 55) rfl ?_); refine goesL_ (some 34) rfl rfl Try.func55 (by kernel_rfl) rfl #[.slice A0 l0.length c0] rfl (by (try simp only [List.map_toArray, List.map_cons, List.map_nil]); first | done | rfl | (simp only [List.length_drop, List.length_take]; rfl)) ?_; (with_reducible refine (earshotref02_Values.calls k _ _ l0 true _ ?side1 ?side2 A10.out).mono ?_); (case side1 => repeat (first | exact (Kd.C_below HR0.out HB.out) | (with_reducible refine Kd.C_alloc ?_ _) | (with_reducible refine Kd.C_drewN ?_ _) | (with_reducible refine Kd.C_drew ?_))); (case side2 => exact HC0.out); rintro e w' ⟨rfl, ⟨nd, rfl⟩⟩; refine ⟨_, rfl, ?_⟩))
          go_meet
          case rel => exact ⟨_, (0), (by first | rfl | (simp; done) | (simp [*]; done)), H', ⟨by first | omega | exact Nat.le_refl _⟩, ⟨by repeat (first | (with_reducible first | exact HB.out | apply below_alloc | apply pw_below_drewN | apply below_drew1) | exact HB.out)⟩⟩
        · replace c11 := Bool.eq_false_iff.mpr c11
          subst c11
          have H1 : (earshotlaw02_WaveMeasures.j0 k l0 t620 t621 t622 t623 t624 t625 2) = some r := by rw [if_neg (show ¬ (false = true) by decide)] at H; exact H
          clear H
          have H := H1
          clear H1
          have H' := Aside0.mk H
          clear H
          go_wp2_with (first | ((with_reducible refine gate_callee (f := 55) rfl ?_); refine goesL_ (some 34) rfl rfl Try.func55 (by kernel_rfl) rfl #[.slice A0 l0.length c0] rfl (by (try simp only [List.map_toArray, List.map_cons, List.map_nil]); first | done | rfl | (simp only [List.length_drop, List.length_take]; rfl)) ?_; (with_reducible refine (earshotref02_Values.calls k _ _ l0 false _ ?side1 ?side2 A10.out).mono ?_); (case side1 => repeat (first | exact (Kd.C_below HR0.out HB.out) | (with_reducible refine Kd.C_alloc ?_ _) | (with_reducible refine Kd.C_drewN ?_ _) | (with_reducible refine Kd.C_drew ?_))); (case side2 => exact HC0.out); rintro e w' ⟨rfl, ⟨nd, rfl⟩⟩; refine ⟨_, rfl, ?_⟩))
          go_meet
          case rel => exact ⟨_, (2), (by first | rfl | (simp; done) | (simp [*]; done)), H', ⟨by first | omega | exact Nat.le_refl _⟩, ⟨by repeat (first | (with_reducible first | exact HB.out | apply below_alloc | apply pw_below_drewN | apply below_drew1) | exact HB.out)⟩⟩
    case rest =>
      clear HC7
      try clear c1
      try clear c2
      try clear p2
      try clear c3
      try clear c4
      try clear c5
      try clear c9
      try clear c9b0
      try clear c9b1
      try clear c11
      obtain ⟨kq, x9_6, rfl, HA, HJ6, HB⟩ := hcut
      cases kq with
      | zero => exact absurd HA.out (by simp [earshotlaw02_WaveMeasures.j0])
      | succ kj6 =>
        have H := HA.out
        clear HA
        simp only [earshotlaw02_WaveMeasures.j0] at H
        by_cases c12 : x9_6 = 0
        · rw [if_pos c12] at H
          have c12b0 : (x9_6 == 0) = true := beq_iff_eq.mpr c12
          have c12b1 : (x9_6 != 0) = false := bne_eq_false_iff_eq.mpr c12
          clear c12
          have HC13 := Aside0.mk H
          clear H
          go_upto_region 13 with (fail)
          go_cut [83] (fun v83 wc => ∃ (kq : Nat) (x83_12 : Bool), v83 = .bool x83_12 ∧ Aside0 (earshotlaw02_WaveMeasures.j1 kq l0 t620 t621 x83_12 = some r) ∧ Aside0 (kq ≤ kj6) ∧ Aside0 (Below w.heap.size w wc))
          case first =>
            have H := HC13.out
            clear HC13
            by_cases c14 : t623 = 0
            · rw [if_pos c14] at H
              have c14b0 : (t623 == 0) = true := beq_iff_eq.mpr c14
              have c14b1 : (t623 != 0) = false := bne_eq_false_iff_eq.mpr c14
              clear c14
              (first | rw [c14b0] | (simp only [i64_w, i32_w]; rw [c14b0]) | skip)
              by_cases c15 : t625 = 0
              · rw [if_pos c15] at H
                have c15b0 : (t625 == 0) = true := beq_iff_eq.mpr c15
                have c15b1 : (t625 != 0) = false := bne_eq_false_iff_eq.mpr c15
                clear c15
                replace H := Option.bind_eq_some_iff.mp H
                obtain ⟨t628, A160, H⟩ := H
                replace H : (if t622 = t628 then ((earshotref02_Peak.f kj6 l0).bind fun t629 => (earshotlaw02_WaveMeasures.j1 kj6 l0 t620 t621 (t624 != t629))) else (earshotlaw02_WaveMeasures.j1 kj6 l0 t620 t621 true)) = some r := H
                have A16 := Aside0.mk A160
                clear A160
                by_cases c17 : t622 = t628
                · rw [if_pos c17] at H
                  have c17b0 : (t622 == t628) = true := beq_iff_eq.mpr c17
                  have c17b1 : (t622 != t628) = false := bne_eq_false_iff_eq.mpr c17
                  clear c17
                  replace H := Option.bind_eq_some_iff.mp H
                  obtain ⟨t629, A180, H⟩ := H
                  replace H : (earshotlaw02_WaveMeasures.j1 kj6 l0 t620 t621 (t624 != t629)) = some r := H
                  have A18 := Aside0.mk A180
                  clear A180
                  have H' := Aside0.mk H
                  clear H
                  go_wp2_with (first | (go_at_call 58; (with_reducible refine (earshotref02_Changes.calls kj6 _ _ l0 t628 _ ?side1 ?side2 A16.out).mono ?_); (case side1 => repeat (first | exact (Kd.C_below HR0.out HB.out) | (with_reducible refine Kd.C_alloc ?_ _) | (with_reducible refine Kd.C_drewN ?_ _) | (with_reducible refine Kd.C_drew ?_))); (case side2 => exact HC0.out); rintro e w' ⟨rfl, ⟨nd, rfl⟩⟩) | (go_at_call 59; (with_reducible refine (earshotref02_Peak.calls kj6 _ _ l0 t629 _ ?side1 ?side2 A18.out).mono ?_); (case side1 => repeat (first | exact (Kd.C_below HR0.out (by repeat (first | (with_reducible first | exact HB.out | apply below_alloc | apply pw_below_drewN | apply below_drew1) | exact HB.out))) | (with_reducible refine Kd.C_alloc ?_ _) | (with_reducible refine Kd.C_drewN ?_ _) | (with_reducible refine Kd.C_drew ?_))); (case side2 => exact HC0.out); rintro e w19 ⟨rfl, hb⟩; have n0_ := Aside0.mk (below_step (by repeat (first | (with_reducible first | exact HB.out | apply below_alloc | apply pw_below_drewN | apply below_drew1) | exact HB.out)) hb); clear HB; have HB := n0_; clear n0_; (try clear hb); (try clear hb2); (try clear hk); (try clear hi)))
                  go_meet
                  case rel => exact ⟨_, ((t624 != t629)), (by first | rfl | (simp; done) | (simp [*]; done)), H', ⟨by have := HJ6.out; first | omega | exact Nat.le_refl _⟩, ⟨by repeat (first | (with_reducible first | exact HB.out | apply below_alloc | apply pw_below_drewN | apply below_drew1) | exact HB.out)⟩⟩
                · rw [if_neg c17] at H
                  have c17b0 : (t622 == t628) = false := beq_eq_false_iff_ne.mpr c17
                  have c17b1 : (t622 != t628) = true := bne_iff_ne.mpr c17
                  have H' := Aside0.mk H
                  clear H
                  go_wp2_with (first | (go_at_call 58; (with_reducible refine (earshotref02_Changes.calls kj6 _ _ l0 t628 _ ?side1 ?side2 A16.out).mono ?_); (case side1 => repeat (first | exact (Kd.C_below HR0.out HB.out) | (with_reducible refine Kd.C_alloc ?_ _) | (with_reducible refine Kd.C_drewN ?_ _) | (with_reducible refine Kd.C_drew ?_))); (case side2 => exact HC0.out); rintro e w' ⟨rfl, ⟨nd, rfl⟩⟩))
                  go_meet
                  case rel => exact ⟨_, (true), (by first | rfl | (simp; done) | (simp [*]; done)), H', ⟨by have := HJ6.out; first | omega | exact Nat.le_refl _⟩, ⟨by repeat (first | (with_reducible first | exact HB.out | apply below_alloc | apply pw_below_drewN | apply below_drew1) | exact HB.out)⟩⟩
              · rw [if_neg c15] at H
                have c15b0 : (t625 == 0) = false := beq_eq_false_iff_ne.mpr c15
                have c15b1 : (t625 != 0) = true := bne_iff_ne.mpr c15
                have H' := Aside0.mk H
                clear H
                go_wp2
                go_meet
                case rel => exact ⟨_, (true), (by first | rfl | (simp; done) | (simp [*]; done)), H', ⟨by have := HJ6.out; first | omega | exact Nat.le_refl _⟩, ⟨by repeat (first | (with_reducible first | exact HB.out | apply below_alloc | apply pw_below_drewN | apply below_drew1) | exact HB.out)⟩⟩
            · rw [if_neg c14] at H
              have c14b0 : (t623 == 0) = false := beq_eq_false_iff_ne.mpr c14
              have c14b1 : (t623 != 0) = true := bne_iff_ne.mpr c14
              (first | rw [c14b0] | (simp only [i64_w, i32_w]; rw [c14b0]) | skip)
              have H' := Aside0.mk H
              clear H
              go_wp2
              go_meet
              case rel => exact ⟨_, (true), (by first | rfl | (simp; done) | (simp [*]; done)), H', ⟨by have := HJ6.out; first | omega | exact Nat.le_refl _⟩, ⟨by repeat (first | (with_reducible first | exact HB.out | apply below_alloc | apply pw_below_drewN | apply below_drew1) | exact HB.out)⟩⟩
          case rest =>
            clear HC13
            try clear c1
            try clear c2
            try clear p2
            try clear c3
            try clear c4
            try clear c5
            try clear c9
            try clear c9b0
            try clear c9b1
            try clear c11
            try clear c12
            try clear c12b0
            try clear c12b1
            try clear c14
            try clear c14b0
            try clear c14b1
            try clear c15
            try clear c15b0
            try clear c15b1
            try clear c17
            try clear c17b0
            try clear c17b1
            try clear p2
            obtain ⟨kq, x83_12, rfl, HA, HJ12, HB⟩ := hcut
            cases kq with
            | zero => exact absurd HA.out (by simp [earshotlaw02_WaveMeasures.j1])
            | succ kj12 =>
              have H := HA.out
              clear HA
              simp only [earshotlaw02_WaveMeasures.j1] at H
              by_cases c20 : x83_12 = true
              · subst c20
                have H1 : (some false) = some r := by rw [if_pos rfl] at H; exact H
                clear H
                have H := H1
                clear H1
                obtain rfl := Option.some.inj H
                go_wp2
                go_ret
                exact ⟨by first | rfl | (simp [errW_none, errW_some] <;> rfl) | (simp [*, errW_none, errW_some] <;> rfl), by repeat (first | (with_reducible first | exact HB.out | apply below_alloc | apply pw_below_drewN | apply below_drew1) | exact HB.out)⟩
              · replace c20 := Bool.eq_false_iff.mpr c20
                subst c20
                have H1 : ((earshotref02_All.f kj12 l0 (-65536) 65535).bind fun t630 => (if t630 = true then (if t621 = 0 then ((earshotref02_Energy.f kj12 l0).bind fun t631 => (if t620 = t631 then ((earshotlaw02_known.f kj12).bind fun t632 => (some t632)) else (some false))) else (some false)) else (if t621 = 2 then (if t620 = 0 then ((earshotlaw02_known.f kj12).bind fun t633 => (some t633)) else (some false)) else (some false)))) = some r := by rw [if_neg (show ¬ (false = true) by decide)] at H; exact H
                clear H
                have H := H1
                clear H1
                replace H := Option.bind_eq_some_iff.mp H
                obtain ⟨t630, A210, H⟩ := H
                replace H : (if t630 = true then (if t621 = 0 then ((earshotref02_Energy.f kj12 l0).bind fun t631 => (if t620 = t631 then ((earshotlaw02_known.f kj12).bind fun t632 => (some t632)) else (some false))) else (some false)) else (if t621 = 2 then (if t620 = 0 then ((earshotlaw02_known.f kj12).bind fun t633 => (some t633)) else (some false)) else (some false))) = some r := H
                have A21 := Aside0.mk A210
                clear A210
                by_cases c22 : t630 = true
                · subst c22
                  have H1 : (if t621 = 0 then ((earshotref02_Energy.f kj12 l0).bind fun t631 => (if t620 = t631 then ((earshotlaw02_known.f kj12).bind fun t632 => (some t632)) else (some false))) else (some false)) = some r := by rw [if_pos rfl] at H; exact H
                  clear H
                  have H := H1
                  clear H1
                  by_cases c23 : t621 = 0
                  · rw [if_pos c23] at H
                    have c23b0 : (t621 == 0) = true := beq_iff_eq.mpr c23
                    have c23b1 : (t621 != 0) = false := bne_eq_false_iff_eq.mpr c23
                    clear c23
                    replace H := Option.bind_eq_some_iff.mp H
                    obtain ⟨t631, A240, H⟩ := H
                    replace H : (if t620 = t631 then ((earshotlaw02_known.f kj12).bind fun t632 => (some t632)) else (some false)) = some r := H
                    have A24 := Aside0.mk A240
                    clear A240
                    by_cases c25 : t620 = t631
                    · rw [if_pos c25] at H
                      have c25b0 : (t620 == t631) = true := beq_iff_eq.mpr c25
                      have c25b1 : (t620 != t631) = false := bne_eq_false_iff_eq.mpr c25
                      clear c25
                      replace H := Option.bind_eq_some_iff.mp H
                      obtain ⟨t632, A260, H⟩ := H
                      replace H : (some t632) = some r := H
                      have A26 := Aside0.mk A260
                      clear A260
                      obtain rfl := Option.some.inj H
                      go_wp2_with (first | ((with_reducible refine gate_callee (f := 27) rfl ?_); refine goesL_ (some 85) rfl rfl Try.func27 (by kernel_rfl) rfl #[.slice A0 l0.length c0, .int .i64 (-65536), .int .i64 65535] rfl (by (try simp only [List.map_toArray, List.map_cons, List.map_nil]); first | done | rfl | (simp only [List.length_drop, List.length_take]; rfl)) ?_; (with_reducible refine (earshotref02_All.calls kj12 _ _ l0 (-65536) 65535 true _ ?side1 ?side2 A21.out).mono ?_); (case side1 => repeat (first | exact (Kd.C_below HR0.out HB.out) | (with_reducible refine Kd.C_alloc ?_ _) | (with_reducible refine Kd.C_drewN ?_ _) | (with_reducible refine Kd.C_drew ?_))); (case side2 => exact HC0.out); rintro e w' ⟨rfl, ⟨nd, rfl⟩⟩; refine ⟨_, rfl, ?_⟩) | (go_at_call 60; (with_reducible refine (earshotref02_Energy.calls kj12 _ _ l0 t631 _ ?side1 ?side2 A24.out).mono ?_); (case side1 => repeat (first | exact (Kd.C_below HR0.out (by repeat (first | (with_reducible first | exact HB.out | apply below_alloc | apply pw_below_drewN | apply below_drew1) | exact HB.out))) | (with_reducible refine Kd.C_alloc ?_ _) | (with_reducible refine Kd.C_drewN ?_ _) | (with_reducible refine Kd.C_drew ?_))); (case side2 => exact HC0.out); rintro e w' ⟨rfl, ⟨nd, rfl⟩⟩) | (go_at_call 22; (with_reducible refine (earshotlaw02_known.calls kj12  t632 _ A26.out).mono ?_); rintro e w27 ⟨rfl, hb⟩; have n0_ := Aside0.mk (below_step (by repeat (first | (with_reducible first | exact HB.out | apply below_alloc | apply pw_below_drewN | apply below_drew1) | exact HB.out)) hb); clear HB; have HB := n0_; clear n0_; (try clear hb); (try clear hb2); (try clear hk); (try clear hi)))
                      go_ret
                      exact ⟨by first | rfl | (simp [errW_none, errW_some] <;> rfl) | (simp [*, errW_none, errW_some] <;> rfl), by repeat (first | (with_reducible first | exact HB.out | apply below_alloc | apply pw_below_drewN | apply below_drew1) | exact HB.out)⟩
                    · rw [if_neg c25] at H
                      have c25b0 : (t620 == t631) = false := beq_eq_false_iff_ne.mpr c25
                      have c25b1 : (t620 != t631) = true := bne_iff_ne.mpr c25
                      obtain rfl := Option.some.inj H
                      go_wp2_with (first | ((with_reducible refine gate_callee (f := 27) rfl ?_); refine goesL_ (some 85) rfl rfl Try.func27 (by kernel_rfl) rfl #[.slice A0 l0.length c0, .int .i64 (-65536), .int .i64 65535] rfl (by (try simp only [List.map_toArray, List.map_cons, List.map_nil]); first | done | rfl | (simp only [List.length_drop, List.length_take]; rfl)) ?_; (with_reducible refine (earshotref02_All.calls kj12 _ _ l0 (-65536) 65535 true _ ?side1 ?side2 A21.out).mono ?_); (case side1 => repeat (first | exact (Kd.C_below HR0.out HB.out) | (with_reducible refine Kd.C_alloc ?_ _) | (with_reducible refine Kd.C_drewN ?_ _) | (with_reducible refine Kd.C_drew ?_))); (case side2 => exact HC0.out); rintro e w' ⟨rfl, ⟨nd, rfl⟩⟩; refine ⟨_, rfl, ?_⟩) | (go_at_call 60; (with_reducible refine (earshotref02_Energy.calls kj12 _ _ l0 t631 _ ?side1 ?side2 A24.out).mono ?_); (case side1 => repeat (first | exact (Kd.C_below HR0.out (by repeat (first | (with_reducible first | exact HB.out | apply below_alloc | apply pw_below_drewN | apply below_drew1) | exact HB.out))) | (with_reducible refine Kd.C_alloc ?_ _) | (with_reducible refine Kd.C_drewN ?_ _) | (with_reducible refine Kd.C_drew ?_))); (case side2 => exact HC0.out); rintro e w' ⟨rfl, ⟨nd, rfl⟩⟩))
                      go_ret
                      exact ⟨by first | rfl | (simp [errW_none, errW_some] <;> rfl) | (simp [*, errW_none, errW_some] <;> rfl), by repeat (first | (with_reducible first | exact HB.out | apply below_alloc | apply pw_below_drewN | apply below_drew1) | exact HB.out)⟩
                  · rw [if_neg c23] at H
                    have c23b0 : (t621 == 0) = false := beq_eq_false_iff_ne.mpr c23
                    have c23b1 : (t621 != 0) = true := bne_iff_ne.mpr c23
                    obtain rfl := Option.some.inj H
                    go_wp2_with (first | ((with_reducible refine gate_callee (f := 27) rfl ?_); refine goesL_ (some 85) rfl rfl Try.func27 (by kernel_rfl) rfl #[.slice A0 l0.length c0, .int .i64 (-65536), .int .i64 65535] rfl (by (try simp only [List.map_toArray, List.map_cons, List.map_nil]); first | done | rfl | (simp only [List.length_drop, List.length_take]; rfl)) ?_; (with_reducible refine (earshotref02_All.calls kj12 _ _ l0 (-65536) 65535 true _ ?side1 ?side2 A21.out).mono ?_); (case side1 => repeat (first | exact (Kd.C_below HR0.out HB.out) | (with_reducible refine Kd.C_alloc ?_ _) | (with_reducible refine Kd.C_drewN ?_ _) | (with_reducible refine Kd.C_drew ?_))); (case side2 => exact HC0.out); rintro e w' ⟨rfl, ⟨nd, rfl⟩⟩; refine ⟨_, rfl, ?_⟩))
                    go_ret
                    exact ⟨by first | rfl | (simp [errW_none, errW_some] <;> rfl) | (simp [*, errW_none, errW_some] <;> rfl), by repeat (first | (with_reducible first | exact HB.out | apply below_alloc | apply pw_below_drewN | apply below_drew1) | exact HB.out)⟩
                · replace c22 := Bool.eq_false_iff.mpr c22
                  subst c22
                  have H1 : (if t621 = 2 then (if t620 = 0 then ((earshotlaw02_known.f kj12).bind fun t633 => (some t633)) else (some false)) else (some false)) = some r := by rw [if_neg (show ¬ (false = true) by decide)] at H; exact H
                  clear H
                  have H := H1
                  clear H1
                  by_cases c28 : t621 = 2
                  · rw [if_pos c28] at H
                    have c28b0 : (t621 == 2) = true := beq_iff_eq.mpr c28
                    have c28b1 : (t621 != 2) = false := bne_eq_false_iff_eq.mpr c28
                    clear c28
                    by_cases c29 : t620 = 0
                    · rw [if_pos c29] at H
                      have c29b0 : (t620 == 0) = true := beq_iff_eq.mpr c29
                      have c29b1 : (t620 != 0) = false := bne_eq_false_iff_eq.mpr c29
                      clear c29
                      replace H := Option.bind_eq_some_iff.mp H
                      obtain ⟨t633, A300, H⟩ := H
                      replace H : (some t633) = some r := H
                      have A30 := Aside0.mk A300
                      clear A300
                      obtain rfl := Option.some.inj H
                      go_wp2_with (first | ((with_reducible refine gate_callee (f := 27) rfl ?_); refine goesL_ (some 85) rfl rfl Try.func27 (by kernel_rfl) rfl #[.slice A0 l0.length c0, .int .i64 (-65536), .int .i64 65535] rfl (by (try simp only [List.map_toArray, List.map_cons, List.map_nil]); first | done | rfl | (simp only [List.length_drop, List.length_take]; rfl)) ?_; (with_reducible refine (earshotref02_All.calls kj12 _ _ l0 (-65536) 65535 false _ ?side1 ?side2 A21.out).mono ?_); (case side1 => repeat (first | exact (Kd.C_below HR0.out HB.out) | (with_reducible refine Kd.C_alloc ?_ _) | (with_reducible refine Kd.C_drewN ?_ _) | (with_reducible refine Kd.C_drew ?_))); (case side2 => exact HC0.out); rintro e w' ⟨rfl, ⟨nd, rfl⟩⟩; refine ⟨_, rfl, ?_⟩) | (go_at_call 22; (with_reducible refine (earshotlaw02_known.calls kj12  t633 _ A30.out).mono ?_); rintro e w31 ⟨rfl, hb⟩; have n0_ := Aside0.mk (below_step (by repeat (first | (with_reducible first | exact HB.out | apply below_alloc | apply pw_below_drewN | apply below_drew1) | exact HB.out)) hb); clear HB; have HB := n0_; clear n0_; (try clear hb); (try clear hb2); (try clear hk); (try clear hi)))
                      go_ret
                      exact ⟨by first | rfl | (simp [errW_none, errW_some] <;> rfl) | (simp [*, errW_none, errW_some] <;> rfl), by repeat (first | (with_reducible first | exact HB.out | apply below_alloc | apply pw_below_drewN | apply below_drew1) | exact HB.out)⟩
                    · rw [if_neg c29] at H
                      have c29b0 : (t620 == 0) = false := beq_eq_false_iff_ne.mpr c29
                      have c29b1 : (t620 != 0) = true := bne_iff_ne.mpr c29
                      obtain rfl := Option.some.inj H
                      go_wp2_with (first | ((with_reducible refine gate_callee (f := 27) rfl ?_); refine goesL_ (some 85) rfl rfl Try.func27 (by kernel_rfl) rfl #[.slice A0 l0.length c0, .int .i64 (-65536), .int .i64 65535] rfl (by (try simp only [List.map_toArray, List.map_cons, List.map_nil]); first | done | rfl | (simp only [List.length_drop, List.length_take]; rfl)) ?_; (with_reducible refine (earshotref02_All.calls kj12 _ _ l0 (-65536) 65535 false _ ?side1 ?side2 A21.out).mono ?_); (case side1 => repeat (first | exact (Kd.C_below HR0.out HB.out) | (with_reducible refine Kd.C_alloc ?_ _) | (with_reducible refine Kd.C_drewN ?_ _) | (with_reducible refine Kd.C_drew ?_))); (case side2 => exact HC0.out); rintro e w' ⟨rfl, ⟨nd, rfl⟩⟩; refine ⟨_, rfl, ?_⟩))
                      go_ret
                      exact ⟨by first | rfl | (simp [errW_none, errW_some] <;> rfl) | (simp [*, errW_none, errW_some] <;> rfl), by repeat (first | (with_reducible first | exact HB.out | apply below_alloc | apply pw_below_drewN | apply below_drew1) | exact HB.out)⟩
                  · rw [if_neg c28] at H
                    have c28b0 : (t621 == 2) = false := beq_eq_false_iff_ne.mpr c28
                    have c28b1 : (t621 != 2) = true := bne_iff_ne.mpr c28
                    obtain rfl := Option.some.inj H
                    go_wp2_with (first | ((with_reducible refine gate_callee (f := 27) rfl ?_); refine goesL_ (some 85) rfl rfl Try.func27 (by kernel_rfl) rfl #[.slice A0 l0.length c0, .int .i64 (-65536), .int .i64 65535] rfl (by (try simp only [List.map_toArray, List.map_cons, List.map_nil]); first | done | rfl | (simp only [List.length_drop, List.length_take]; rfl)) ?_; (with_reducible refine (earshotref02_All.calls kj12 _ _ l0 (-65536) 65535 false _ ?side1 ?side2 A21.out).mono ?_); (case side1 => repeat (first | exact (Kd.C_below HR0.out HB.out) | (with_reducible refine Kd.C_alloc ?_ _) | (with_reducible refine Kd.C_drewN ?_ _) | (with_reducible refine Kd.C_drew ?_))); (case side2 => exact HC0.out); rintro e w' ⟨rfl, ⟨nd, rfl⟩⟩; refine ⟨_, rfl, ?_⟩))
                    go_ret
                    exact ⟨by first | rfl | (simp [errW_none, errW_some] <;> rfl) | (simp [*, errW_none, errW_some] <;> rfl), by repeat (first | (with_reducible first | exact HB.out | apply below_alloc | apply pw_below_drewN | apply below_drew1) | exact HB.out)⟩
        · rw [if_neg c12] at H
          have c12b0 : (x9_6 == 0) = false := beq_eq_false_iff_ne.mpr c12
          have c12b1 : (x9_6 != 0) = true := bne_iff_ne.mpr c12
          by_cases c32 : t621 = x9_6
          · rw [if_pos c32] at H
            have c32b0 : (t621 == x9_6) = true := beq_iff_eq.mpr c32
            have c32b1 : (t621 != x9_6) = false := bne_eq_false_iff_eq.mpr c32
            clear c32
            by_cases c33 : t623 = x9_6
            · rw [if_pos c33] at H
              have c33b0 : (t623 == x9_6) = true := beq_iff_eq.mpr c33
              have c33b1 : (t623 != x9_6) = false := bne_eq_false_iff_eq.mpr c33
              clear c33
              by_cases c34 : t625 = x9_6
              · rw [if_pos c34] at H
                have c34b0 : (t625 == x9_6) = true := beq_iff_eq.mpr c34
                have c34b1 : (t625 != x9_6) = false := bne_eq_false_iff_eq.mpr c34
                clear c34
                by_cases c35 : t620 = 0
                · rw [if_pos c35] at H
                  have c35b0 : (t620 == 0) = true := beq_iff_eq.mpr c35
                  have c35b1 : (t620 != 0) = false := bne_eq_false_iff_eq.mpr c35
                  clear c35
                  by_cases c36 : t622 = 0
                  · rw [if_pos c36] at H
                    have c36b0 : (t622 == 0) = true := beq_iff_eq.mpr c36
                    have c36b1 : (t622 != 0) = false := bne_eq_false_iff_eq.mpr c36
                    clear c36
                    by_cases c37 : t624 = 0
                    · rw [if_pos c37] at H
                      have c37b0 : (t624 == 0) = true := beq_iff_eq.mpr c37
                      have c37b1 : (t624 != 0) = false := bne_eq_false_iff_eq.mpr c37
                      clear c37
                      replace H := Option.bind_eq_some_iff.mp H
                      obtain ⟨t627, A380, H⟩ := H
                      replace H : (some t627) = some r := H
                      have A38 := Aside0.mk A380
                      clear A380
                      obtain rfl := Option.some.inj H
                      go_wp2_with (first | (go_at_call 22; (with_reducible refine (earshotlaw02_known.calls kj6  t627 _ A38.out).mono ?_); rintro e w39 ⟨rfl, hb⟩; have n0_ := Aside0.mk (below_step (by repeat (first | (with_reducible first | exact HB.out | apply below_alloc | apply pw_below_drewN | apply below_drew1) | exact HB.out)) hb); clear HB; have HB := n0_; clear n0_; (try clear hb); (try clear hb2); (try clear hk); (try clear hi)))
                      go_ret
                      exact ⟨by first | rfl | (simp [errW_none, errW_some] <;> rfl) | (simp [*, errW_none, errW_some] <;> rfl), by repeat (first | (with_reducible first | exact HB.out | apply below_alloc | apply pw_below_drewN | apply below_drew1) | exact HB.out)⟩
                    · rw [if_neg c37] at H
                      have c37b0 : (t624 == 0) = false := beq_eq_false_iff_ne.mpr c37
                      have c37b1 : (t624 != 0) = true := bne_iff_ne.mpr c37
                      obtain rfl := Option.some.inj H
                      go_wp2
                      go_ret
                      exact ⟨by first | rfl | (simp [errW_none, errW_some] <;> rfl) | (simp [*, errW_none, errW_some] <;> rfl), by repeat (first | (with_reducible first | exact HB.out | apply below_alloc | apply pw_below_drewN | apply below_drew1) | exact HB.out)⟩
                  · rw [if_neg c36] at H
                    have c36b0 : (t622 == 0) = false := beq_eq_false_iff_ne.mpr c36
                    have c36b1 : (t622 != 0) = true := bne_iff_ne.mpr c36
                    obtain rfl := Option.some.inj H
                    go_wp2
                    go_ret
                    exact ⟨by first | rfl | (simp [errW_none, errW_some] <;> rfl) | (simp [*, errW_none, errW_some] <;> rfl), by repeat (first | (with_reducible first | exact HB.out | apply below_alloc | apply pw_below_drewN | apply below_drew1) | exact HB.out)⟩
                · rw [if_neg c35] at H
                  have c35b0 : (t620 == 0) = false := beq_eq_false_iff_ne.mpr c35
                  have c35b1 : (t620 != 0) = true := bne_iff_ne.mpr c35
                  obtain rfl := Option.some.inj H
                  go_wp2
                  go_ret
                  exact ⟨by first | rfl | (simp [errW_none, errW_some] <;> rfl) | (simp [*, errW_none, errW_some] <;> rfl), by repeat (first | (with_reducible first | exact HB.out | apply below_alloc | apply pw_below_drewN | apply below_drew1) | exact HB.out)⟩
              · rw [if_neg c34] at H
                have c34b0 : (t625 == x9_6) = false := beq_eq_false_iff_ne.mpr c34
                have c34b1 : (t625 != x9_6) = true := bne_iff_ne.mpr c34
                obtain rfl := Option.some.inj H
                go_wp2
                go_ret
                exact ⟨by first | rfl | (simp [errW_none, errW_some] <;> rfl) | (simp [*, errW_none, errW_some] <;> rfl), by repeat (first | (with_reducible first | exact HB.out | apply below_alloc | apply pw_below_drewN | apply below_drew1) | exact HB.out)⟩
            · rw [if_neg c33] at H
              have c33b0 : (t623 == x9_6) = false := beq_eq_false_iff_ne.mpr c33
              have c33b1 : (t623 != x9_6) = true := bne_iff_ne.mpr c33
              obtain rfl := Option.some.inj H
              go_wp2
              go_ret
              exact ⟨by first | rfl | (simp [errW_none, errW_some] <;> rfl) | (simp [*, errW_none, errW_some] <;> rfl), by repeat (first | (with_reducible first | exact HB.out | apply below_alloc | apply pw_below_drewN | apply below_drew1) | exact HB.out)⟩
          · rw [if_neg c32] at H
            have c32b0 : (t621 == x9_6) = false := beq_eq_false_iff_ne.mpr c32
            have c32b1 : (t621 != x9_6) = true := bne_iff_ne.mpr c32
            obtain rfl := Option.some.inj H
            go_wp2
            go_ret
            exact ⟨by first | rfl | (simp [errW_none, errW_some] <;> rfl) | (simp [*, errW_none, errW_some] <;> rfl), by repeat (first | (with_reducible first | exact HB.out | apply below_alloc | apply pw_below_drewN | apply below_drew1) | exact HB.out)⟩
  · replace c3 := Bool.eq_false_iff.mpr c3
    subst c3
    have H1 : ((earshotlaw02_known.f k).bind fun t619 => (some t619)) = some r := by rw [if_neg (show ¬ (false = true) by decide)] at H; exact H
    clear H
    have H := H1
    clear H1
    replace H := Option.bind_eq_some_iff.mp H
    obtain ⟨t619, A400, H⟩ := H
    replace H : (some t619) = some r := H
    have A40 := Aside0.mk A400
    clear A400
    obtain rfl := Option.some.inj H
    go_enter Try.func20, Try.ntmps20
    go_wp2_with (first | ((with_reducible refine gate_callee (f := 21) rfl ?_); refine goesL_ (some 12) rfl rfl Try.func21 (by kernel_rfl) rfl #[.int .i64 (l0.length : Int)] rfl (by (try simp only [List.map_toArray, List.map_cons, List.map_nil]); first | done | rfl | (simp only [List.length_drop, List.length_take]; rfl)) ?_; (with_reducible refine (earshotlaw02_short.calls (l0.length : Int) false _ A2.out).mono ?_); rintro e w' ⟨rfl, ⟨nd, rfl⟩⟩; refine ⟨_, rfl, ?_⟩) | ((with_reducible refine gate_callee (f := 22) rfl ?_); refine goesL_ (some 14) rfl rfl Try.func22 (by kernel_rfl) rfl #[] rfl (by (try simp only [List.map_toArray, List.map_cons, List.map_nil]); first | done | rfl | (simp only [List.length_drop, List.length_take]; rfl)) ?_; (with_reducible refine (earshotlaw02_known.calls k  t619 _ A40.out).mono ?_); rintro e w41 ⟨rfl, hb⟩; refine ⟨_, rfl, ?_⟩; have n0_ := Aside0.mk (below_step (by repeat (first | (with_reducible first | exact HB.out | apply below_alloc | apply pw_below_drewN | apply below_drew1) | exact HB.out)) hb); clear HB; have HB := n0_; clear n0_; (try clear hb); (try clear hb2); (try clear hk); (try clear hi)))
    go_ret
    exact ⟨by first | rfl | (simp [errW_none, errW_some] <;> rfl) | (simp [*, errW_none, errW_some] <;> rfl), by repeat (first | (with_reducible first | exact HB.out | apply below_alloc | apply pw_below_drewN | apply below_drew1) | exact HB.out)⟩

/-- THE ONE PURE STATEMENT of earshotlaw02_WaveMeasures: yours. -/
def earshotlaw02_WaveMeasures.Pure : Prop := ∀ (l0 : List Int), l0.length ≤ maxLen → l0.length * 8 ≤ 140737488351232 → (∀ x ∈ l0, (Lit.int .i64 x).wf = true) → ∃ k, earshotlaw02_WaveMeasures.f k l0 = some true
theorem earshotlaw02_WaveMeasures.walk (P : earshotlaw02_WaveMeasures.Pure) (a0 : Option Addr) (len0 cap0 : Nat) (z0 : List Int) (w : World) (w0 : (a0 = none ∧ len0 = 0 ∧ cap0 = 0 ∧ z0 = []) ∨ ∃ x, a0 = some x ∧ len0 ≤ cap0 ∧ cap0 ≤ maxLen ∧ z0.length = cap0 ∧ (∀ i, i < z0.length → w.cell? (x.add i) = some (.int .i64 (z0.getD i 0))) ∧ ∀ n ∈ z0, (Lit.int .i64 n).wf = true) (y0 : len0 * 8 ≤ 140737488351232) :
    Calls Try.prog 20 #[.slice a0 len0 cap0] w fun e w' => e = .returned (.bool true) ∧ Below w.heap.size w w' := by
  obtain ⟨l0, rfl, hr0, hm0, hw0, hc0⟩ := ReadsInt.ofRowC w0
  obtain ⟨k, h⟩ := P l0 hm0 y0 hw0
  refine (earshotlaw02_WaveMeasures.calls k _ _ l0 true w (Kd.C_of_reads (d := (0 : Int)) (h1 := fun _ => rfl) hr0) hc0 h).mono ?_
  rintro e w' ⟨rfl, hd⟩
  exact ⟨rfl, hd⟩

end Go.Proofs.Ytigbfcodnbnicaa.P
