-- WRITTEN BY A PROGRAM OF THIS SESSION (wip/xprint.py), over the kit's printer; Lean checks it.
import Derived.Test.YtigbfcodnbnicaaX0
import Derived.Test.YtigbfcodnbnicaaHFrames
import Derived.Test.YtigbfcodnbnicaaXBase
import Derived.Test.YtigbfcodnbnicaaXF27
import Derived.Test.YtigbfcodnbnicaaXF54
import Derived.Test.YtigbfcodnbnicaaXF55
import Derived.Test.YtigbfcodnbnicaaXLeaf
namespace Go.Proofs.Ytigbfcodnbnicaa.P
open Go.RowKit Go.Proofs.YtigbfcodnbnicaaW.PrintWords Go.Proofs.YtigbfcodnbnicaaW.PrintLast Go.Proofs.YtigbfcodnbnicaaW.PrintMore
attribute [local go_sem] max2_int min2_int max_two min_two max_three min_three max_four min_four   -- for this text's walks alone
set_option linter.unusedVariables false
set_option linter.unusedSimpArgs false

/-! ### earshotlaw02_WavePieces: function 19 -/
mutual
def earshotlaw02_WavePieces.j0 : Nat → List Int → Int → Bool → Option (Bool)
  | 0, _, _, _ => none
  | k + 1, x0, x1, x26 => if x26 = true then ((earshotlaw02_known.f k).bind fun t577 => (some t577)) else ((wave_Frames.f x0 x1 x1 true).bind fun bt578 => ((wave_Frames.f x0 x1 x1 false).bind fun bt582 => (earshotlaw02_WavePieces.l0 k x0 x1 bt578.1 bt578.2 bt582.1 bt582.2 ([] : List Int) 0)))
def earshotlaw02_WavePieces.l0 : Nat → List Int → Int → List (List Int) → Int → List (List Int) → Int → List Int → Int → Option (Bool)
  | 0, _, _, _, _, _, _, _, _ => none
  | k + 1, x0, x1, x5, x6, x7, x8, x9, x10 => if x10 < (x5.length : Int) then (if 0 ≤ x10 then (if ((rd_L1 x5 x10).length : Int) = x1 then (if x9.length + (rd_L1 x5 x10).length < 17592186044416 then (earshotlaw02_WavePieces.l0 k x0 x1 x5 x6 x7 x8 (x9 ++ (rd_L1 x5 x10)) (wrap64 (x10 + 1))) else (none)) else (some false)) else (none)) else (if x6 = 0 then (if x8 = 0 then (if (x9.length : Int) < (x0.length : Int) then (earshotlaw02_WavePieces.j2 k x0 x1 x5 x7 true) else (if (wrap64 ((x9.length : Int) - (x0.length : Int))) ≥ x1 then (earshotlaw02_WavePieces.j2 k x0 x1 x5 x7 true) else (if 0 ≤ (x0.length : Int) then (if (x0.length : Int) ≤ (x9.length : Int) then ((earshotref02_Same.f k (x9.take ((x0.length : Int) : Int).toNat) x0).bind fun t595 => (if t595 = true then ((earshotref02_All.f k (x9.drop ((x0.length : Int) : Int).toNat) 0 0).bind fun t600 => (earshotlaw02_WavePieces.j2 k x0 x1 x5 x7 (!t600))) else (earshotlaw02_WavePieces.j2 k x0 x1 x5 x7 true))) else (none)) else (none)))) else (earshotlaw02_WavePieces.j2 k x0 x1 x5 x7 true)) else (earshotlaw02_WavePieces.j2 k x0 x1 x5 x7 true))
def earshotlaw02_WavePieces.j2 : Nat → List Int → Int → List (List Int) → List (List Int) → Bool → Option (Bool)
  | 0, _, _, _, _, _ => none
  | k + 1, x0, x1, x5, x7, x99 => if x99 = true then (some false) else (if x1 = 0 then (none) else (if (x7.length : Int) = (wrap64 ((x0.length : Int) / x1)) then (if 0 ≤ (x7.length : Int) then (if (x7.length : Int) ≤ (x5.length : Int) then ((earshotref02_SameLists.f k x7 (x5.take ((x7.length : Int) : Int).toNat)).bind fun t605 => (if t605 = true then ((earshotlaw02_known.f k).bind fun t606 => (some t606)) else (some false))) else (none)) else (none)) else (some false)))
end
def earshotlaw02_WavePieces.f (k : Nat) (l0 : List Int) (a1 : Int) : Option (Bool) := if (l0.length : Int) > 2000 then (earshotlaw02_WavePieces.j0 k l0 a1 true) else (if a1 < 1 then (earshotlaw02_WavePieces.j0 k l0 a1 true) else (if a1 > 500 then (earshotlaw02_WavePieces.j0 k l0 a1 true) else ((earshotref02_Values.f k l0).bind fun t576 => (earshotlaw02_WavePieces.j0 k l0 a1 (!t576)))))
theorem earshotlaw02_WavePieces.mono_l : ∀ k, (∀ y0 y1 y2, LeO (earshotlaw02_WavePieces.j0 k y0 y1 y2) (earshotlaw02_WavePieces.j0 (k + 1) y0 y1 y2)) ∧ (∀ y0 y1 y2 y3 y4 y5 y6 y7, LeO (earshotlaw02_WavePieces.l0 k y0 y1 y2 y3 y4 y5 y6 y7) (earshotlaw02_WavePieces.l0 (k + 1) y0 y1 y2 y3 y4 y5 y6 y7)) ∧ (∀ y0 y1 y2 y3 y4, LeO (earshotlaw02_WavePieces.j2 k y0 y1 y2 y3 y4) (earshotlaw02_WavePieces.j2 (k + 1) y0 y1 y2 y3 y4))
  | 0 => ⟨fun _ _ _ r h => by simp [earshotlaw02_WavePieces.j0] at h, fun _ _ _ _ _ _ _ _ r h => by simp [earshotlaw02_WavePieces.l0] at h, fun _ _ _ _ _ r h => by simp [earshotlaw02_WavePieces.j2] at h⟩
  | k + 1 => by
    obtain ⟨ih0, ih1, ih2⟩ := earshotlaw02_WavePieces.mono_l k
    refine ⟨?_, ?_, ?_⟩
    · intro y0 y1 y2
      unfold earshotlaw02_WavePieces.j0
      repeat' first
      | (with_reducible exact ih0 _ _ _)
      | (with_reducible exact ih1 _ _ _ _ _ _ _ _)
      | (with_reducible exact ih2 _ _ _ _ _)
      | (with_reducible exact earshotlaw02_known.mono _)
      | (with_reducible exact earshotref02_All.mono _ _ _ _)
      | (with_reducible exact earshotref02_Same.mono _ _ _)
      | (with_reducible exact earshotref02_SameLists.mono _ _ _)
      | (with_reducible exact earshotref02_Values.mono _ _)
      | (with_reducible exact LeO.refl _)
      | (with_reducible exact LeO.none _)
      | (with_reducible refine LeO.ite ?_ ?_)
      | (with_reducible refine LeO.bind ?_ (fun _ => ?_))
      | exact ih0 _ _ _
      | exact ih1 _ _ _ _ _ _ _ _
      | exact ih2 _ _ _ _ _
      | exact earshotlaw02_known.mono _
      | exact earshotref02_All.mono _ _ _ _
      | exact earshotref02_Same.mono _ _ _
      | exact earshotref02_SameLists.mono _ _ _
      | exact earshotref02_Values.mono _ _
      | exact LeO.none _
      | refine LeO.ite ?_ ?_
      | refine LeO.bind ?_ (fun _ => ?_)
    · intro y0 y1 y2 y3 y4 y5 y6 y7
      unfold earshotlaw02_WavePieces.l0
      repeat' first
      | (with_reducible exact ih0 _ _ _)
      | (with_reducible exact ih1 _ _ _ _ _ _ _ _)
      | (with_reducible exact ih2 _ _ _ _ _)
      | (with_reducible exact earshotlaw02_known.mono _)
      | (with_reducible exact earshotref02_All.mono _ _ _ _)
      | (with_reducible exact earshotref02_Same.mono _ _ _)
      | (with_reducible exact earshotref02_SameLists.mono _ _ _)
      | (with_reducible exact earshotref02_Values.mono _ _)
      | (with_reducible exact LeO.refl _)
      | (with_reducible exact LeO.none _)
      | (with_reducible refine LeO.ite ?_ ?_)
      | (with_reducible refine LeO.bind ?_ (fun _ => ?_))
      | exact ih0 _ _ _
      | exact ih1 _ _ _ _ _ _ _ _
      | exact ih2 _ _ _ _ _
      | exact earshotlaw02_known.mono _
      | exact earshotref02_All.mono _ _ _ _
      | exact earshotref02_Same.mono _ _ _
      | exact earshotref02_SameLists.mono _ _ _
      | exact earshotref02_Values.mono _ _
      | exact LeO.none _
      | refine LeO.ite ?_ ?_
      | refine LeO.bind ?_ (fun _ => ?_)
    · intro y0 y1 y2 y3 y4
      unfold earshotlaw02_WavePieces.j2
      repeat' first
      | (with_reducible exact ih0 _ _ _)
      | (with_reducible exact ih1 _ _ _ _ _ _ _ _)
      | (with_reducible exact ih2 _ _ _ _ _)
      | (with_reducible exact earshotlaw02_known.mono _)
      | (with_reducible exact earshotref02_All.mono _ _ _ _)
      | (with_reducible exact earshotref02_Same.mono _ _ _)
      | (with_reducible exact earshotref02_SameLists.mono _ _ _)
      | (with_reducible exact earshotref02_Values.mono _ _)
      | (with_reducible exact LeO.refl _)
      | (with_reducible exact LeO.none _)
      | (with_reducible refine LeO.ite ?_ ?_)
      | (with_reducible refine LeO.bind ?_ (fun _ => ?_))
      | exact ih0 _ _ _
      | exact ih1 _ _ _ _ _ _ _ _
      | exact ih2 _ _ _ _ _
      | exact earshotlaw02_known.mono _
      | exact earshotref02_All.mono _ _ _ _
      | exact earshotref02_Same.mono _ _ _
      | exact earshotref02_SameLists.mono _ _ _
      | exact earshotref02_Values.mono _ _
      | exact LeO.none _
      | refine LeO.ite ?_ ?_
      | refine LeO.bind ?_ (fun _ => ?_)
theorem earshotlaw02_WavePieces.mono : ∀ a0 a1 k, LeO (earshotlaw02_WavePieces.f k a0 a1) (earshotlaw02_WavePieces.f (k + 1) a0 a1) := by
  intro a0 a1 k
  obtain ⟨ih0, ih1, ih2⟩ := earshotlaw02_WavePieces.mono_l k
  unfold earshotlaw02_WavePieces.f
  repeat' first
      | (with_reducible exact ih0 _ _ _)
      | (with_reducible exact ih1 _ _ _ _ _ _ _ _)
      | (with_reducible exact ih2 _ _ _ _ _)
      | (with_reducible exact earshotlaw02_known.mono _)
      | (with_reducible exact earshotref02_All.mono _ _ _ _)
      | (with_reducible exact earshotref02_Same.mono _ _ _)
      | (with_reducible exact earshotref02_SameLists.mono _ _ _)
      | (with_reducible exact earshotref02_Values.mono _ _)
      | (with_reducible exact LeO.refl _)
      | (with_reducible exact LeO.none _)
      | (with_reducible refine LeO.ite ?_ ?_)
      | (with_reducible refine LeO.bind ?_ (fun _ => ?_))
      | exact ih0 _ _ _
      | exact ih1 _ _ _ _ _ _ _ _
      | exact ih2 _ _ _ _ _
      | exact earshotlaw02_known.mono _
      | exact earshotref02_All.mono _ _ _ _
      | exact earshotref02_Same.mono _ _ _
      | exact earshotref02_SameLists.mono _ _ _
      | exact earshotref02_Values.mono _ _
      | exact LeO.none _
      | refine LeO.ite ?_ ?_
      | refine LeO.bind ?_ (fun _ => ?_)
set_option maxHeartbeats 8000000 in
set_option maxRecDepth 100000 in
theorem earshotlaw02_WavePieces.calls (k : Nat) (A0 : Option Addr) (c0 : Nat) (l0 : List Int) (a1 : Int) (r : Bool) (w : World) (hr0 : Kd.C (Kd.int .i64) w A0 l0.length l0) (hc0 : l0.length ≤ c0) (h : earshotlaw02_WavePieces.f k l0 a1 = some r) :
    Calls Try.prog 19 #[.slice A0 l0.length c0, .int .i64 a1] w fun e w' => e = .returned (.bool r) ∧ Below w.heap.size w w' := by
  have HR0 := Aside0.mk hr0
  have HC0 := Aside0.mk hc0
  clear hr0 hc0
  have HB := Aside0.mk (Below.refl w.heap.size w)
  have H : (if (l0.length : Int) > 2000 then (earshotlaw02_WavePieces.j0 k l0 a1 true) else (if a1 < 1 then (earshotlaw02_WavePieces.j0 k l0 a1 true) else (if a1 > 500 then (earshotlaw02_WavePieces.j0 k l0 a1 true) else ((earshotref02_Values.f k l0).bind fun t576 => (earshotlaw02_WavePieces.j0 k l0 a1 (!t576)))))) = some r := h
  clear h
  have HC3 := Aside0.mk H
  clear H
  go_enter Try.func19, Try.ntmps19
  go_upto_region 1 with (fail)
  go_cut [26] (fun v26 wc => ∃ (kq : Nat) (x26_2 : Bool), v26 = .bool x26_2 ∧ Aside0 (earshotlaw02_WavePieces.j0 kq l0 a1 x26_2 = some r) ∧ Aside0 (kq ≤ k) ∧ Aside0 (Below w.heap.size w wc))
  case first =>
    have H := HC3.out
    clear HC3
    by_cases c4 : (l0.length : Int) > 2000
    · rw [if_pos c4] at H
      have c4b0 : decide (2000 < (l0.length : Int)) = true := decide_eq_true c4
      have c4b1 : decide (2000 < l0.length) = true := decide_eq_true (by omega)
      clear c4
      (first | rw [c4b0] | (simp only [i64_w, i32_w]; rw [c4b0]) | skip)
      have H' := Aside0.mk H
      clear H
      go_wp2
      go_meet
      case rel => exact ⟨_, (true), (by first | rfl | (simp; done) | (simp [*]; done)), H', ⟨by first | omega | exact Nat.le_refl _⟩, ⟨by repeat (first | (with_reducible first | exact HB.out | apply below_alloc | apply pw_below_drewN | apply below_drew1) | exact HB.out)⟩⟩
    · rw [if_neg c4] at H
      have c4b0 : decide (2000 < (l0.length : Int)) = false := decide_eq_false c4
      have c4b1 : decide (2000 < l0.length) = false := decide_eq_false (by omega)
      clear c4
      (first | rw [c4b0] | (simp only [i64_w, i32_w]; rw [c4b0]) | skip)
      by_cases c5 : a1 < 1
      · rw [if_pos c5] at H
        have c5b0 : decide (a1 < 1) = true := decide_eq_true c5
        clear c5
        have H' := Aside0.mk H
        clear H
        go_wp2
        go_meet
        case rel => exact ⟨_, (true), (by first | rfl | (simp; done) | (simp [*]; done)), H', ⟨by first | omega | exact Nat.le_refl _⟩, ⟨by repeat (first | (with_reducible first | exact HB.out | apply below_alloc | apply pw_below_drewN | apply below_drew1) | exact HB.out)⟩⟩
      · rw [if_neg c5] at H
        have c5b0 : decide (a1 < 1) = false := decide_eq_false c5
        clear c5
        by_cases c6 : a1 > 500
        · rw [if_pos c6] at H
          have c6b0 : decide (500 < a1) = true := decide_eq_true c6
          clear c6
          have H' := Aside0.mk H
          clear H
          go_wp2
          go_meet
          case rel => exact ⟨_, (true), (by first | rfl | (simp; done) | (simp [*]; done)), H', ⟨by first | omega | exact Nat.le_refl _⟩, ⟨by repeat (first | (with_reducible first | exact HB.out | apply below_alloc | apply pw_below_drewN | apply below_drew1) | exact HB.out)⟩⟩
        · rw [if_neg c6] at H
          have c6b0 : decide (500 < a1) = false := decide_eq_false c6
          clear c6
          replace H := Option.bind_eq_some_iff.mp H
          obtain ⟨t576, A70, H⟩ := H
          replace H : (earshotlaw02_WavePieces.j0 k l0 a1 (!t576)) = some r := H
          have A7 := Aside0.mk A70
          clear A70
          have H' := Aside0.mk H
          clear H
          go_wp2_with (first | (go_at_call 55; (with_reducible refine (earshotref02_Values.calls k _ _ l0 t576 _ ?side1 ?side2 A7.out).mono ?_); (case side1 => repeat (first | exact (Kd.C_below HR0.out HB.out) | (with_reducible refine Kd.C_alloc ?_ _) | (with_reducible refine Kd.C_drewN ?_ _) | (with_reducible refine Kd.C_drew ?_))); (case side2 => exact HC0.out); rintro e w' ⟨rfl, ⟨nd, rfl⟩⟩))
          go_meet
          case rel => exact ⟨_, (!t576), (by first | rfl | (simp; done) | (simp [*]; done)), H', ⟨by first | omega | exact Nat.le_refl _⟩, ⟨by repeat (first | (with_reducible first | exact HB.out | apply below_alloc | apply pw_below_drewN | apply below_drew1) | exact HB.out)⟩⟩
  case rest =>
    clear HC3
    try clear c1
    try clear p2
    try clear c4
    try clear c4b0
    try clear c4b1
    try clear c5
    try clear c5b0
    try clear c6
    try clear c6b0
    obtain ⟨kq, x26_2, rfl, HA, HJ2, HB⟩ := hcut
    cases kq with
    | zero => exact absurd HA.out (by simp [earshotlaw02_WavePieces.j0])
    | succ kj2 =>
      have H := HA.out
      clear HA
      simp only [earshotlaw02_WavePieces.j0] at H
      by_cases c8 : x26_2 = true
      · subst c8
        have H1 : ((earshotlaw02_known.f kj2).bind fun t577 => (some t577)) = some r := by rw [if_pos rfl] at H; exact H
        clear H
        have H := H1
        clear H1
        replace H := Option.bind_eq_some_iff.mp H
        obtain ⟨t577, A90, H⟩ := H
        replace H : (some t577) = some r := H
        have A9 := Aside0.mk A90
        clear A90
        obtain rfl := Option.some.inj H
        go_wp2_with (first | ((with_reducible refine gate_callee (f := 22) rfl ?_); refine goesL_ (some 27) rfl rfl Try.func22 (by kernel_rfl) rfl #[] rfl (by (try simp only [List.map_toArray, List.map_cons, List.map_nil]); first | done | rfl | (simp only [List.length_drop, List.length_take]; rfl)) ?_; (with_reducible refine (earshotlaw02_known.calls kj2  t577 _ A9.out).mono ?_); rintro e w10 ⟨rfl, hb⟩; refine ⟨_, rfl, ?_⟩; have n0_ := Aside0.mk (below_step (by repeat (first | (with_reducible first | exact HB.out | apply below_alloc | apply pw_below_drewN | apply below_drew1) | exact HB.out)) hb); clear HB; have HB := n0_; clear n0_; (try clear hb); (try clear hb2); (try clear hk); (try clear hi)))
        go_ret
        exact ⟨by first | rfl | (simp [errW_none, errW_some] <;> rfl) | (simp [*, errW_none, errW_some] <;> rfl), by repeat (first | (with_reducible first | exact HB.out | apply below_alloc | apply pw_below_drewN | apply below_drew1) | exact HB.out)⟩
      · replace c8 := Bool.eq_false_iff.mpr c8
        subst c8
        have H1 : ((wave_Frames.f l0 a1 a1 true).bind fun bt578 => ((wave_Frames.f l0 a1 a1 false).bind fun bt582 => (earshotlaw02_WavePieces.l0 kj2 l0 a1 bt578.1 bt578.2 bt582.1 bt582.2 ([] : List Int) 0))) = some r := by rw [if_neg (show ¬ (false = true) by decide)] at H; exact H
        clear H
        have H := H1
        clear H1
        replace H := Option.bind_eq_some_iff.mp H
        obtain ⟨⟨t578, t579⟩, A110, H⟩ := H
        replace H : ((wave_Frames.f l0 a1 a1 false).bind fun bt582 => (earshotlaw02_WavePieces.l0 kj2 l0 a1 t578 t579 bt582.1 bt582.2 ([] : List Int) 0)) = some r := H
        have A11 := Aside0.mk A110
        clear A110
        replace H := Option.bind_eq_some_iff.mp H
        obtain ⟨⟨t582, t583⟩, A120, H⟩ := H
        replace H : (earshotlaw02_WavePieces.l0 kj2 l0 a1 t578 t579 t582 t583 ([] : List Int) 0) = some r := H
        have A12 := Aside0.mk A120
        clear A120
        have H' := Aside0.mk H
        clear H
        go_wp2_with (first | ((with_reducible refine gate_callee (f := 52) rfl ?_); refine goesL_ (some 32) rfl rfl Try.func52 (by kernel_rfl) rfl #[.slice A0 l0.length c0, .int .i64 a1, .int .i64 a1, .bool true] rfl (by (try simp only [List.map_toArray, List.map_cons, List.map_nil]); first | done | rfl | (simp only [List.length_drop, List.length_take]; rfl)) ?_; (with_reducible refine (wave_Frames.calls _ _ l0 a1 a1 true t578 t579 _ ?side1 ?side2 A11.out).mono ?_); (case side1 => repeat (first | exact (Kd.C_below HR0.out HB.out) | (with_reducible refine Kd.C_alloc ?_ _) | (with_reducible refine Kd.C_drewN ?_ _) | (with_reducible refine Kd.C_drew ?_))); (case side2 => exact HC0.out); rintro e w13 ⟨v580, rfl, ho0, hb⟩; refine ⟨_, rfl, ?_⟩; have n0_ := Aside0.mk (Kd.S_lower ho0 (below_size (by repeat (first | (with_reducible first | exact HB.out | apply below_alloc | apply pw_below_drewN | apply below_drew1) | exact HB.out)))); have n1_ := Aside0.mk (below_step (by repeat (first | (with_reducible first | exact HB.out | apply below_alloc | apply pw_below_drewN | apply below_drew1) | exact HB.out)) hb); clear HB; have HO581 := n0_; have HB := n1_; clear n0_ n1_; (try clear hb); (try clear hb2); (try clear hk); (try clear hi); (try clear ho0)) | ((with_reducible refine gate_callee (f := 52) rfl ?_); refine goesL_ (some 39) rfl rfl Try.func52 (by kernel_rfl) rfl #[.slice A0 l0.length c0, .int .i64 a1, .int .i64 a1, .bool false] rfl (by (try simp only [List.map_toArray, List.map_cons, List.map_nil]); first | done | rfl | (simp only [List.length_drop, List.length_take]; rfl)) ?_; (with_reducible refine (wave_Frames.calls _ _ l0 a1 a1 false t582 t583 _ ?side1 ?side2 A12.out).mono ?_); (case side1 => repeat (first | exact (Kd.C_below HR0.out HB.out) | (with_reducible refine Kd.C_alloc ?_ _) | (with_reducible refine Kd.C_drewN ?_ _) | (with_reducible refine Kd.C_drew ?_))); (case side2 => exact HC0.out); rintro e w14 ⟨v584, rfl, ho0, hb⟩; refine ⟨_, rfl, ?_⟩; have n0_ := Aside0.mk (Kd.S_elder' (by (with_reducible repeat (first | apply Kd.S_alloc | apply Kd.S_drewN | apply Kd.S_drew)); exact HO581.out) (Kd.S_base ho0) hb); have n1_ := Aside0.mk (Kd.S_lower (Kd.S_new' ho0 (Kd.S_lt (by (with_reducible repeat (first | apply Kd.S_alloc | apply Kd.S_drewN | apply Kd.S_drew)); exact HO581.out))) (below_size (by repeat (first | (with_reducible first | exact HB.out | apply below_alloc | apply pw_below_drewN | apply below_drew1) | exact HB.out)))); have n2_ := Aside0.mk (below_step (by repeat (first | (with_reducible first | exact HB.out | apply below_alloc | apply pw_below_drewN | apply below_drew1) | exact HB.out)) hb); clear HO581; clear HB; have HO581 := n0_; have HO585 := n1_; have HB := n2_; clear n0_ n1_ n2_; (try clear hb); (try clear hb2); (try clear hk); (try clear hi); (try clear ho0)))
        go_loopg [9, 10] kj2 (fun kq v9 v10 w' => ∃ (x9_2 : List Int) (x10_2 : Int), v10 = .int .i64 x10_2 ∧ Aside0 (earshotlaw02_WavePieces.l0 kq l0 a1 t578 t579 t582 t583 x9_2 x10_2 = some r) ∧ Aside0 (kq ≤ kj2) ∧ Aside0 (Kd.S (Kd.slice 3 (Kd.int .i64)) 22 w' w.heap.size (fun k_ => some k_ ≠ (v584 : Value).ownBlock ∧ some k_ ≠ (v9 : Value).ownBlock) v580 t578) ∧ Aside0 (Kd.S (Kd.slice 3 (Kd.int .i64)) 22 w' w.heap.size (fun k_ => some k_ ≠ (v580 : Value).ownBlock ∧ some k_ ≠ (v9 : Value).ownBlock) v584 t582) ∧ Aside0 (Kd.R (Kd.int .i64) 3 w' w.heap.size (fun _ => True) v9 x9_2) ∧ Aside0 (Below w.heap.size w w'))
        case atStart => exact ⟨(([] : List Int)), (0), (by first | rfl | (simp; done) | (simp [*]; done)), H', ⟨Nat.le_refl _⟩, ⟨by (with_reducible repeat (first | apply Kd.S_alloc | apply Kd.S_drewN | apply Kd.S_drew)); exact Kd.S_mono HO581.out (fun _ hk => ⟨hk.2, (by simp [Value.ownBlock])⟩)⟩, ⟨by (with_reducible repeat (first | apply Kd.S_alloc | apply Kd.S_drewN | apply Kd.S_drew)); exact Kd.S_mono HO585.out (fun _ hk => ⟨hk.2, (by simp [Value.ownBlock])⟩)⟩, ⟨by first | exact Kd.R_nil _ _ _ _ _ | exact Kd.N_nil _ _ _ _ _ | exact Kd.V_nil _ _ _ _ _ | exact Kd.Q_nil _ _ _ _ _ | exact Kd.S_nil _ _ _ _ _⟩, ⟨by repeat (first | (with_reducible first | exact HB.out | apply below_alloc | apply pw_below_drewN | apply below_drew1) | exact HB.out)⟩⟩
        case round =>
          clear H'
          try clear c1
          try clear c2
          try clear p2
          try clear c4
          try clear c4b0
          try clear c4b1
          try clear c5
          try clear c5b0
          try clear c6
          try clear c6b0
          try clear c8
          try clear p2
          obtain ⟨x9_2, x10_2, rfl, HA, HK2, HO_5, HO_7, HO_9, HB⟩ := hrel
          cases gk with
          | zero => exact absurd HA.out (by simp [earshotlaw02_WavePieces.l0])
          | succ k2 =>
            have H := HA.out
            clear HA
            simp only [earshotlaw02_WavePieces.l0] at H
            by_cases c15 : x10_2 < (t578.length : Int)
            · rw [if_pos c15] at H
              have c15b0 : decide (x10_2 < (t578.length : Int)) = true := decide_eq_true c15
              clear c15
              by_cases c16 : 0 ≤ x10_2
              · rw [if_pos c16] at H
                have c16b0 : decide (0 ≤ x10_2) = true := decide_eq_true c16
                clear c16
                by_cases c17 : ((rd_L1 t578 x10_2).length : Int) = a1
                · rw [if_pos c17] at H
                  have c17b0 : (((rd_L1 t578 x10_2).length : Int) == a1) = true := beq_iff_eq.mpr c17
                  have c17b1 : (((rd_L1 t578 x10_2).length : Int) != a1) = false := bne_eq_false_iff_eq.mpr c17
                  clear c17
                  by_cases c18 : x9_2.length + (rd_L1 t578 x10_2).length < 17592186044416
                  · rw [if_pos c18] at H
                    have LMc18 := Aside0.mk c18
                    clear c18
                    obtain ⟨y588, hy588⟩ : ∃ y_ : List Int, y_ = (x9_2 ++ (rd_L1 t578 x10_2)) := ⟨_, rfl⟩
                    replace H : (earshotlaw02_WavePieces.l0 k2 l0 a1 t578 t579 t582 t583 y588 (wrap64 (x10_2 + 1))) = some r := by first | (rw [hy588]; with_reducible exact H) | (have H2_ := (Option.bind_some _ _).symm.trans H; rw [hy588]; with_reducible exact H2_) | (have H2_ := (Option.bind_some _ _).symm.trans H; with_reducible exact H2_) | with_reducible exact H | (rw [hy588]; exact H) | exact H
                    have Ny588 := Aside0.mk hy588
                    clear hy588
                    have H' := Aside0.mk H
                    clear H
                    obtain ⟨Ao19, co19, eo19⟩ := Kd.S_slice HO_5.out
                    subst eo19
                    have p586 : 0 ≤ (x10_2 : Int) := of_decide_eq_true (by first | (with_reducible assumption) | assumption)
                    have q586 : x10_2 < (t578.length : Int) := of_decide_eq_true (by first | (with_reducible assumption) | assumption)
                    obtain ⟨ad586, A586_0, c586_0, e586, hx586_0, hl586_0, hi586_0⟩ := at_L1 (Kd.S_reads' HO_5.out).2.2 x10_2 p586 q586
                    cases e586
                    obtain ⟨ce586, hce586, hMe586, hcc586⟩ := Kd.S_get HO_5.out [] x10_2 p586 (by first | exact q586 | exact of_decide_eq_true (by first | (with_reducible assumption) | assumption) | (have e_ := (Kd.S_reads' HO_5.out).1; omega))
                    obtain ⟨ve586_0, rfl, ge586_0⟩ := hMe586
                    have hv586_0 := hcc586 0 _ rfl
                    rw [Nat.add_zero, show ((Kd.slice 3 (Kd.int .i64))).sz = 1 from rfl, Nat.mul_one] at hv586_0
                    replace hv586_0 := Option.some.inj (hv586_0.symm.trans hx586_0)
                    rw [hv586_0] at ge586_0
                    have HL586_0 := Aside0.mk (show Kd.R (Kd.int .i64) 3 _ _ _ _ (rd_L1 t578 x10_2) from ge586_0)
                    clear hv586_0 ge586_0
                    clear hcc586 hce586
                    have HR586_0 := Aside0.mk hi586_0
                    have HC586_0 := Aside0.mk hl586_0
                    clear hi586_0 hl586_0
                    replace p586 := eq_true p586
                    replace q586 := eq_true q586
                    have p587 : 0 ≤ (x10_2 : Int) := of_decide_eq_true (by first | (with_reducible assumption) | assumption)
                    have q587 : x10_2 < (t578.length : Int) := of_decide_eq_true (by first | (with_reducible assumption) | assumption)
                    obtain ⟨ad587, A587_0, c587_0, e587, hx587_0, hl587_0, hi587_0⟩ := at_L1 (Kd.S_reads' HO_5.out).2.2 x10_2 p587 q587
                    obtain rfl : ad586 = ad587 := (by injection e587)
                    obtain ⟨ce587, hce587, hMe587, hcc587⟩ := Kd.S_get HO_5.out [] x10_2 p587 (by first | exact q587 | exact of_decide_eq_true (by first | (with_reducible assumption) | assumption) | (have e_ := (Kd.S_reads' HO_5.out).1; omega))
                    obtain ⟨ve587_0, rfl, ge587_0⟩ := hMe587
                    have hv587_0 := hcc587 0 _ rfl
                    rw [Nat.add_zero, show ((Kd.slice 3 (Kd.int .i64))).sz = 1 from rfl, Nat.mul_one] at hv587_0
                    replace hv587_0 := Option.some.inj (hv587_0.symm.trans hx587_0)
                    rw [hv587_0] at ge587_0
                    have HL587_0 := Aside0.mk (show Kd.R (Kd.int .i64) 3 _ _ _ _ (rd_L1 t578 x10_2) from ge587_0)
                    clear hv587_0 ge587_0
                    clear hcc587 hce587
                    have HR587_0 := Aside0.mk hi587_0
                    have HC587_0 := Aside0.mk hl587_0
                    clear hi587_0 hl587_0
                    replace p587 := eq_true p587
                    replace q587 := eq_true q587
                    have ea_ := Option.some.inj (hx586_0.symm.trans hx587_0)
                    injection ea_ with ea_ en_ ec_
                    subst ea_
                    subst ec_
                    clear en_
                    go_wp2_with (first | ((with_reducible refine gate_builtin (b := .append) (xs := #[.tmp 55, .tmp 59]) rfl ?_); (try (refine gate_guard (by rfl) ?_; dsimp only)); at_builtin; refine Kd.R_append_rows (Kd.int .i64) (w0 := w) w.heap.size rfl (.tmp 55) (.tmp 59) 22 3 (.int .i64 0) 8 rfl Try.underlying22 info3 rfl (by decide) (by omega) u9 x9_2 (rd_L1 t578 x10_2) _ _ _ (fun _ => True) (fun _ => False) rfl rfl ?aO ?aR (fun _ _ h => h) (fun _ h => h.elim) ?aF ?aB ?aS ?aL ?_; (case aR => repeat (first | exact (by repeat (first | (with_reducible exact HR587_0.out) | (with_reducible refine Kd.C_alloc ?_ _) | (with_reducible refine Kd.C_drewN ?_ _) | (with_reducible refine Kd.C_drew ?_) | exact HR587_0.out)) | (with_reducible refine Kd.C_alloc ?_ _) | (with_reducible refine Kd.C_drewN ?_ _) | (with_reducible refine Kd.C_drew ?_))); (case aB => exact (by repeat (first | (with_reducible first | exact HB.out | apply below_alloc | apply pw_below_drewN | apply below_drew1) | exact HB.out))); (case aF => exact (fun _ _ => trivial)); (case aO => exact (by (with_reducible repeat (first | apply Kd.R_alloc | apply Kd.R_drewN | apply Kd.R_drew)); exact HO_9.out)); (case aS => exact (below_size (by repeat (first | (with_reducible first | exact HB.out | apply below_alloc | apply pw_below_drewN | apply below_drew1) | exact HB.out)))); (case aL => have := LMc18.out; omega); intro v589 w20 ho hb hg hat; rw [← Ny588.out] at ho; have n0_ := Aside0.mk (Kd.S_after (ok := (fun k_ => some k_ ≠ (v584 : Value).ownBlock)) (by (with_reducible repeat (first | apply Kd.S_alloc | apply Kd.S_drewN | apply Kd.S_drew)); exact HO_5.out) hg hat); have n1_ := Aside0.mk (Kd.S_after (ok := (fun k_ => some k_ ≠ (.slice (some ad586) t578.length co19 : Value).ownBlock)) (by (with_reducible repeat (first | apply Kd.S_alloc | apply Kd.S_drewN | apply Kd.S_drew)); exact HO_7.out) hg hat); have n2_ := Aside0.mk (Kd.R_after (ok := (fun k_ => some k_ ≠ (.slice (some ad586) t578.length co19 : Value).ownBlock ∧ some k_ ≠ (v584 : Value).ownBlock)) (by (with_reducible repeat (first | apply Kd.R_alloc | apply Kd.R_drewN | apply Kd.R_drew)); exact Kd.R_mono HL586_0.out (fun _ hk => ⟨⟨hk.2, hk.1.1⟩, hk.1.2⟩)) hg hat); have n3_ := Aside0.mk (Kd.R_after (ok := (fun k_ => some k_ ≠ (.slice (some ad586) t578.length co19 : Value).ownBlock ∧ some k_ ≠ (v584 : Value).ownBlock)) (by (with_reducible repeat (first | apply Kd.R_alloc | apply Kd.R_drewN | apply Kd.R_drew)); exact Kd.R_mono HL587_0.out (fun _ hk => ⟨⟨hk.2, hk.1.1⟩, hk.1.2⟩)) hg hat); have n4_ := Aside0.mk (hb); have n5_ := Aside0.mk (ho); clear HO_5; clear HO_7; clear HL586_0; clear HL587_0; clear HB; clear HO_9; have HO_5 := n0_; have HO_7 := n1_; have HL586_0 := n2_; have HL587_0 := n3_; have HB := n4_; have HO590 := n5_; clear n0_ n1_ n2_ n3_ n4_ n5_; clear ho hb hg hat))
                    go_roundg k2
                    case measure => have := HJ2.out; have := HK2.out; omega
                    case rel => exact ⟨(y588), (wrap64 (x10_2 + 1)), (by first | rfl | (simp; done) | (simp [*]; done)), H', ⟨by have := HJ2.out; have := HK2.out; omega⟩, ⟨by (with_reducible repeat (first | apply Kd.S_alloc | apply Kd.S_drewN | apply Kd.S_drew)); exact HO_5.out⟩, ⟨by (with_reducible repeat (first | apply Kd.S_alloc | apply Kd.S_drewN | apply Kd.S_drew)); exact HO_7.out⟩, ⟨by (with_reducible repeat (first | apply Kd.R_alloc | apply Kd.R_drewN | apply Kd.R_drew)); exact HO590.out⟩, ⟨by repeat (first | (with_reducible first | exact HB.out | apply below_alloc | apply pw_below_drewN | apply below_drew1) | exact HB.out)⟩⟩
                  · rw [if_neg c18] at H
                    exact absurd H (by simp)
                · rw [if_neg c17] at H
                  have c17b0 : (((rd_L1 t578 x10_2).length : Int) == a1) = false := beq_eq_false_iff_ne.mpr c17
                  have c17b1 : (((rd_L1 t578 x10_2).length : Int) != a1) = true := bne_iff_ne.mpr c17
                  obtain rfl := Option.some.inj H
                  obtain ⟨Ao21, co21, eo21⟩ := Kd.S_slice HO_5.out
                  subst eo21
                  have p586 : 0 ≤ (x10_2 : Int) := of_decide_eq_true (by first | (with_reducible assumption) | assumption)
                  have q586 : x10_2 < (t578.length : Int) := of_decide_eq_true (by first | (with_reducible assumption) | assumption)
                  obtain ⟨ad586, A586_0, c586_0, e586, hx586_0, hl586_0, hi586_0⟩ := at_L1 (Kd.S_reads' HO_5.out).2.2 x10_2 p586 q586
                  cases e586
                  obtain ⟨ce586, hce586, hMe586, hcc586⟩ := Kd.S_get HO_5.out [] x10_2 p586 (by first | exact q586 | exact of_decide_eq_true (by first | (with_reducible assumption) | assumption) | (have e_ := (Kd.S_reads' HO_5.out).1; omega))
                  obtain ⟨ve586_0, rfl, ge586_0⟩ := hMe586
                  have hv586_0 := hcc586 0 _ rfl
                  rw [Nat.add_zero, show ((Kd.slice 3 (Kd.int .i64))).sz = 1 from rfl, Nat.mul_one] at hv586_0
                  replace hv586_0 := Option.some.inj (hv586_0.symm.trans hx586_0)
                  rw [hv586_0] at ge586_0
                  have HL586_0 := Aside0.mk (show Kd.R (Kd.int .i64) 3 _ _ _ _ (rd_L1 t578 x10_2) from ge586_0)
                  clear hv586_0 ge586_0
                  clear hcc586 hce586
                  have HR586_0 := Aside0.mk hi586_0
                  have HC586_0 := Aside0.mk hl586_0
                  clear hi586_0 hl586_0
                  replace p586 := eq_true p586
                  replace q586 := eq_true q586
                  go_wp2
                  go_ret
                  exact ⟨by first | rfl | (simp [errW_none, errW_some] <;> rfl) | (simp [*, errW_none, errW_some] <;> rfl), by repeat (first | (with_reducible first | exact HB.out | apply below_alloc | apply pw_below_drewN | apply below_drew1) | exact HB.out)⟩
              · rw [if_neg c16] at H
                exact absurd H (by simp)
            · rw [if_neg c15] at H
              have c15b0 : decide (x10_2 < (t578.length : Int)) = false := decide_eq_false c15
              clear c15
              have HC22 := Aside0.mk H
              clear H
              obtain ⟨Ao23, co23, eo23⟩ := Kd.S_slice HO_5.out
              subst eo23
              go_upto_region 12 with (fail)
              go_cut [99] (fun v99 wc => ∃ (kq : Nat) (x99_21 : Bool), v99 = .bool x99_21 ∧ Aside0 (earshotlaw02_WavePieces.j2 kq l0 a1 t578 t582 x99_21 = some r) ∧ Aside0 (kq ≤ k2) ∧ Aside0 (Kd.S (Kd.slice 3 (Kd.int .i64)) 22 wc w.heap.size (fun k_ => some k_ ≠ (v584 : Value).ownBlock) (.slice Ao23 t578.length co23) t578) ∧ Aside0 (Kd.S (Kd.slice 3 (Kd.int .i64)) 22 wc w.heap.size (fun k_ => some k_ ≠ ((.slice Ao23 t578.length co23) : Value).ownBlock) v584 t582) ∧ Aside0 (Below w.heap.size w wc))
              case first =>
                have H := HC22.out
                clear HC22
                by_cases c24 : t579 = 0
                · rw [if_pos c24] at H
                  have c24b0 : (t579 == 0) = true := beq_iff_eq.mpr c24
                  have c24b1 : (t579 != 0) = false := bne_eq_false_iff_eq.mpr c24
                  clear c24
                  (first | rw [c24b0] | (simp only [i64_w, i32_w]; rw [c24b0]) | skip)
                  by_cases c25 : t583 = 0
                  · rw [if_pos c25] at H
                    have c25b0 : (t583 == 0) = true := beq_iff_eq.mpr c25
                    have c25b1 : (t583 != 0) = false := bne_eq_false_iff_eq.mpr c25
                    clear c25
                    by_cases c26 : (x9_2.length : Int) < (l0.length : Int)
                    · rw [if_pos c26] at H
                      have c26b0 : decide ((x9_2.length : Int) < (l0.length : Int)) = true := decide_eq_true c26
                      have c26b1 : decide (x9_2.length < l0.length) = true := decide_eq_true (Int.ofNat_lt.mp c26)
                      clear c26
                      have H' := Aside0.mk H
                      clear H
                      obtain ⟨Ao27, co27, eo27⟩ := Kd.R_slice HO_9.out
                      subst eo27
                      go_wp2
                      go_meet
                      case rel => exact ⟨_, (true), (by first | rfl | (simp; done) | (simp [*]; done)), H', ⟨by have := HJ2.out; have := HK2.out; first | omega | exact Nat.le_refl _⟩, ⟨by (with_reducible repeat (first | apply Kd.S_alloc | apply Kd.S_drewN | apply Kd.S_drew)); exact Kd.S_mono HO_5.out (fun _ hk => hk.1)⟩, ⟨by (with_reducible repeat (first | apply Kd.S_alloc | apply Kd.S_drewN | apply Kd.S_drew)); exact Kd.S_mono HO_7.out (fun _ hk => hk.1)⟩, ⟨by repeat (first | (with_reducible first | exact HB.out | apply below_alloc | apply pw_below_drewN | apply below_drew1) | exact HB.out)⟩⟩
                    · rw [if_neg c26] at H
                      have c26b0 : decide ((x9_2.length : Int) < (l0.length : Int)) = false := decide_eq_false c26
                      have c26b1 : decide (x9_2.length < l0.length) = false := decide_eq_false (fun h => c26 (Int.ofNat_lt.mpr h))
                      clear c26
                      by_cases c28 : (wrap64 ((x9_2.length : Int) - (l0.length : Int))) ≥ a1
                      · rw [if_pos c28] at H
                        have c28b0 : decide (a1 ≤ (wrap64 ((x9_2.length : Int) - (l0.length : Int)))) = true := decide_eq_true c28
                        clear c28
                        have H' := Aside0.mk H
                        clear H
                        obtain ⟨Ao29, co29, eo29⟩ := Kd.R_slice HO_9.out
                        subst eo29
                        go_wp2
                        go_meet
                        case rel => exact ⟨_, (true), (by first | rfl | (simp; done) | (simp [*]; done)), H', ⟨by have := HJ2.out; have := HK2.out; first | omega | exact Nat.le_refl _⟩, ⟨by (with_reducible repeat (first | apply Kd.S_alloc | apply Kd.S_drewN | apply Kd.S_drew)); exact Kd.S_mono HO_5.out (fun _ hk => hk.1)⟩, ⟨by (with_reducible repeat (first | apply Kd.S_alloc | apply Kd.S_drewN | apply Kd.S_drew)); exact Kd.S_mono HO_7.out (fun _ hk => hk.1)⟩, ⟨by repeat (first | (with_reducible first | exact HB.out | apply below_alloc | apply pw_below_drewN | apply below_drew1) | exact HB.out)⟩⟩
                      · rw [if_neg c28] at H
                        have c28b0 : decide (a1 ≤ (wrap64 ((x9_2.length : Int) - (l0.length : Int)))) = false := decide_eq_false c28
                        clear c28
                        by_cases c30 : 0 ≤ (l0.length : Int)
                        · rw [if_pos c30] at H
                          have c30b0 := eq_true c30
                          have c30b1 : decide (0 ≤ (l0.length : Int)) = true := decide_eq_true c30
                          clear c30
                          by_cases c31 : (l0.length : Int) ≤ (x9_2.length : Int)
                          · rw [if_pos c31] at H
                            have c31b0 := eq_true c31
                            have c31b1 : decide ((l0.length : Int) ≤ (x9_2.length : Int)) = true := decide_eq_true c31
                            clear c31
                            obtain ⟨y591, hy591⟩ : ∃ y_ : List Int, y_ = (x9_2.take ((l0.length : Int) : Int).toNat) := ⟨_, rfl⟩
                            replace H : ((earshotref02_Same.f k2 y591 l0).bind fun t595 => (if t595 = true then ((earshotref02_All.f k2 (x9_2.drop ((l0.length : Int) : Int).toNat) 0 0).bind fun t600 => (earshotlaw02_WavePieces.j2 k2 l0 a1 t578 t582 (!t600))) else (earshotlaw02_WavePieces.j2 k2 l0 a1 t578 t582 true))) = some r := by first | (rw [hy591]; with_reducible exact H) | (have H2_ := (Option.bind_some _ _).symm.trans H; rw [hy591]; with_reducible exact H2_) | (have H2_ := (Option.bind_some _ _).symm.trans H; with_reducible exact H2_) | with_reducible exact H | (rw [hy591]; exact H) | exact H
                            have Ny591 := Aside0.mk hy591
                            clear hy591
                            replace H := Option.bind_eq_some_iff.mp H
                            obtain ⟨t595, A320, H⟩ := H
                            replace H : (if t595 = true then ((earshotref02_All.f k2 (x9_2.drop ((l0.length : Int) : Int).toNat) 0 0).bind fun t600 => (earshotlaw02_WavePieces.j2 k2 l0 a1 t578 t582 (!t600))) else (earshotlaw02_WavePieces.j2 k2 l0 a1 t578 t582 true)) = some r := H
                            have A32 := Aside0.mk A320
                            clear A320
                            by_cases c33 : t595 = true
                            · subst c33
                              have H1 : ((earshotref02_All.f k2 (x9_2.drop ((l0.length : Int) : Int).toNat) 0 0).bind fun t600 => (earshotlaw02_WavePieces.j2 k2 l0 a1 t578 t582 (!t600))) = some r := by rw [if_pos rfl] at H; exact H
                              clear H
                              have H := H1
                              clear H1
                              have c34b0 := eq_true (of_decide_eq_true (by first | (with_reducible assumption) | assumption) : 0 ≤ (l0.length : Int))
                              have c35b0 := eq_true (of_decide_eq_true (by first | (with_reducible assumption) | assumption) : (l0.length : Int) ≤ (x9_2.length : Int))
                              obtain ⟨y596, hy596⟩ : ∃ y_ : List Int, y_ = (x9_2.drop ((l0.length : Int) : Int).toNat) := ⟨_, rfl⟩
                              replace H : ((earshotref02_All.f k2 y596 0 0).bind fun t600 => (earshotlaw02_WavePieces.j2 k2 l0 a1 t578 t582 (!t600))) = some r := by first | (rw [hy596]; with_reducible exact H) | (have H2_ := (Option.bind_some _ _).symm.trans H; rw [hy596]; with_reducible exact H2_) | (have H2_ := (Option.bind_some _ _).symm.trans H; with_reducible exact H2_) | with_reducible exact H | (rw [hy596]; exact H) | exact H
                              have Ny596 := Aside0.mk hy596
                              clear hy596
                              replace H := Option.bind_eq_some_iff.mp H
                              obtain ⟨t600, A360, H⟩ := H
                              replace H : (earshotlaw02_WavePieces.j2 k2 l0 a1 t578 t582 (!t600)) = some r := H
                              have A36 := Aside0.mk A360
                              clear A360
                              have H' := Aside0.mk H
                              clear H
                              obtain ⟨Ao37, co37, eo37⟩ := Kd.R_slice HO_9.out
                              subst eo37
                              have q38 : ((l0.length : Int) : Int) ≤ ((x9_2.length : Int) : Int) := of_decide_eq_true (by first | (with_reducible assumption) | assumption)
                              obtain ⟨i038, hi038, _, hsz38, _⟩ := info_parts info3
                              have hroom38 : x9_2.length ≤ co37 := (Kd.R_reads' HO_9.out).2.1
                              have hC38 : Kd.C (Kd.int .i64) _ Ao37 x9_2.length x9_2 := (Kd.R_reads' HO_9.out).2.2
                              have hcut38 := cut_to (P := Try.prog) 22 3 .i64 Try.underlying22 hi038 Ao37 x9_2.length co37 (l0.length : Int) (of_decide_eq_true (by first | (with_reducible assumption) | assumption)) q38 hroom38
                              have hr38 := Kd.C_take (m := ((l0.length : Int) : Int).toNat) hC38 (by omega)
                              have hy38 : y591.length = ((l0.length : Int) : Int).toNat := (by rw [Ny591.out, List.length_take]; omega)
                              rw [← Ny591.out] at hr38
                              rw [← hy38] at hcut38
                              have HR594 := Aside0.mk hr38
                              have HC594 := Aside0.mk (show y591.length ≤ co37 from by omega)
                              clear hr38 hC38 hroom38 hi038 hsz38
                              have KY38 := Aside0.mk hy38
                              clear hy38
                              have KL38 := Aside0.mk (show ((l0.length : Int) : Int).toNat ≤ x9_2.length from by omega)
                              replace q38 := eq_true q38
                              go_wp2_with (first | (go_at_call 25; (with_reducible refine (earshotref02_Same.calls k2 _ _ y591 _ _ l0 true _ ?side1 ?side2 ?side3 ?side4 A32.out).mono ?_); (case side1 => repeat (first | exact (by repeat (first | (with_reducible exact HR594.out) | (with_reducible refine Kd.C_alloc ?_ _) | (with_reducible refine Kd.C_drewN ?_ _) | (with_reducible refine Kd.C_drew ?_) | exact HR594.out)) | (with_reducible refine Kd.C_alloc ?_ _) | (with_reducible refine Kd.C_drewN ?_ _) | (with_reducible refine Kd.C_drew ?_))); (case side2 => exact HC594.out); (case side3 => repeat (first | exact (Kd.C_below HR0.out HB.out) | (with_reducible refine Kd.C_alloc ?_ _) | (with_reducible refine Kd.C_drewN ?_ _) | (with_reducible refine Kd.C_drew ?_))); (case side4 => exact HC0.out); rintro e w' ⟨rfl, ⟨nd, rfl⟩⟩; have q39 : ((l0.length : Int) : Int) ≤ ((x9_2.length : Int) : Int) := of_decide_eq_true (by first | (with_reducible assumption) | assumption); obtain ⟨i039, hi039, _, hsz39, _⟩ := info_parts info3; have hroom39 : x9_2.length ≤ co37 := (Kd.R_reads' HO_9.out).2.1; have hC39 : Kd.C (Kd.int .i64) _ Ao37 x9_2.length x9_2 := (Kd.R_reads' HO_9.out).2.2; have q039 : (0 : Int) ≤ ((l0.length : Int) : Int) := of_decide_eq_true (by first | (with_reducible assumption) | assumption); have hcut39 := cut_from (P := Try.prog) 22 3 .i64 Try.underlying22 hi039 1 hsz39 Ao37 x9_2.length co37 (l0.length : Int) q039 q39; have hr39 := Kd.C_drop (m := ((l0.length : Int) : Int).toNat) (c := co37) hC39 (by omega) hroom39; obtain ⟨A39, hA39⟩ : ∃ A1, A1 = (if co37 = ((l0.length : Int) : Int).toNat then Ao37 else (Ao37 : Option Addr).map (·.add (((l0.length : Int) : Int).toNat * 1))) := ⟨_, rfl⟩; obtain ⟨c39, hc39⟩ : ∃ c1, c1 = co37 - ((l0.length : Int) : Int).toNat := ⟨_, rfl⟩; have hy39 : y596.length = x9_2.length - ((l0.length : Int) : Int).toNat := (by rw [Ny596.out, List.length_drop] <;> omega); rw [show (x9_2).drop ((l0.length : Int) : Int).toNat = y596 from Ny596.out.symm] at hr39; replace hr39 : Kd.C (Kd.int .i64) _ A39 y596.length y596 := (by rw [hA39]; exact hr39); rw [← hy39, ← hA39, ← hc39] at hcut39; have HR599 := Aside0.mk hr39; have HC599 := Aside0.mk (show y596.length ≤ c39 from by rw [hy39, hc39]; exact Nat.sub_le_sub_right hroom39 _); clear hr39 hC39 hroom39 hi039 hsz39 hc39; have KY39 := Aside0.mk hy39; have KA39 := Aside0.mk hA39; clear hy39 hA39; have KL39 := Aside0.mk (show ((l0.length : Int) : Int).toNat ≤ x9_2.length from by omega); replace q39 := eq_true q39) | (go_at_call 27; (with_reducible refine (earshotref02_All.calls k2 _ _ y596 0 0 t600 _ ?side1 ?side2 A36.out).mono ?_); (case side1 => repeat (first | exact (by repeat (first | (with_reducible exact HR599.out) | (with_reducible refine Kd.C_alloc ?_ _) | (with_reducible refine Kd.C_drewN ?_ _) | (with_reducible refine Kd.C_drew ?_) | exact HR599.out)) | (with_reducible refine Kd.C_alloc ?_ _) | (with_reducible refine Kd.C_drewN ?_ _) | (with_reducible refine Kd.C_drew ?_))); (case side2 => exact HC599.out); rintro e w' ⟨rfl, ⟨nd, rfl⟩⟩))
                              go_meet
                              case rel => exact ⟨_, (!t600), (by first | rfl | (simp; done) | (simp [*]; done)), H', ⟨by have := HJ2.out; have := HK2.out; first | omega | exact Nat.le_refl _⟩, ⟨by (with_reducible repeat (first | apply Kd.S_alloc | apply Kd.S_drewN | apply Kd.S_drew)); exact Kd.S_mono HO_5.out (fun _ hk => hk.1)⟩, ⟨by (with_reducible repeat (first | apply Kd.S_alloc | apply Kd.S_drewN | apply Kd.S_drew)); exact Kd.S_mono HO_7.out (fun _ hk => hk.1)⟩, ⟨by repeat (first | (with_reducible first | exact HB.out | apply below_alloc | apply pw_below_drewN | apply below_drew1) | exact HB.out)⟩⟩
                            · replace c33 := Bool.eq_false_iff.mpr c33
                              subst c33
                              have H1 : (earshotlaw02_WavePieces.j2 k2 l0 a1 t578 t582 true) = some r := by rw [if_neg (show ¬ (false = true) by decide)] at H; exact H
                              clear H
                              have H := H1
                              clear H1
                              have H' := Aside0.mk H
                              clear H
                              obtain ⟨Ao40, co40, eo40⟩ := Kd.R_slice HO_9.out
                              subst eo40
                              have q41 : ((l0.length : Int) : Int) ≤ ((x9_2.length : Int) : Int) := of_decide_eq_true (by first | (with_reducible assumption) | assumption)
                              obtain ⟨i041, hi041, _, hsz41, _⟩ := info_parts info3
                              have hroom41 : x9_2.length ≤ co40 := (Kd.R_reads' HO_9.out).2.1
                              have hC41 : Kd.C (Kd.int .i64) _ Ao40 x9_2.length x9_2 := (Kd.R_reads' HO_9.out).2.2
                              have hcut41 := cut_to (P := Try.prog) 22 3 .i64 Try.underlying22 hi041 Ao40 x9_2.length co40 (l0.length : Int) (of_decide_eq_true (by first | (with_reducible assumption) | assumption)) q41 hroom41
                              have hr41 := Kd.C_take (m := ((l0.length : Int) : Int).toNat) hC41 (by omega)
                              have hy41 : y591.length = ((l0.length : Int) : Int).toNat := (by rw [Ny591.out, List.length_take]; omega)
                              rw [← Ny591.out] at hr41
                              rw [← hy41] at hcut41
                              have HR594 := Aside0.mk hr41
                              have HC594 := Aside0.mk (show y591.length ≤ co40 from by omega)
                              clear hr41 hC41 hroom41 hi041 hsz41
                              have KY41 := Aside0.mk hy41
                              clear hy41
                              have KL41 := Aside0.mk (show ((l0.length : Int) : Int).toNat ≤ x9_2.length from by omega)
                              replace q41 := eq_true q41
                              go_wp2_with (first | (go_at_call 25; (with_reducible refine (earshotref02_Same.calls k2 _ _ y591 _ _ l0 false _ ?side1 ?side2 ?side3 ?side4 A32.out).mono ?_); (case side1 => repeat (first | exact (by repeat (first | (with_reducible exact HR594.out) | (with_reducible refine Kd.C_alloc ?_ _) | (with_reducible refine Kd.C_drewN ?_ _) | (with_reducible refine Kd.C_drew ?_) | exact HR594.out)) | (with_reducible refine Kd.C_alloc ?_ _) | (with_reducible refine Kd.C_drewN ?_ _) | (with_reducible refine Kd.C_drew ?_))); (case side2 => exact HC594.out); (case side3 => repeat (first | exact (Kd.C_below HR0.out HB.out) | (with_reducible refine Kd.C_alloc ?_ _) | (with_reducible refine Kd.C_drewN ?_ _) | (with_reducible refine Kd.C_drew ?_))); (case side4 => exact HC0.out); rintro e w' ⟨rfl, ⟨nd, rfl⟩⟩))
                              go_meet
                              case rel => exact ⟨_, (true), (by first | rfl | (simp; done) | (simp [*]; done)), H', ⟨by have := HJ2.out; have := HK2.out; first | omega | exact Nat.le_refl _⟩, ⟨by (with_reducible repeat (first | apply Kd.S_alloc | apply Kd.S_drewN | apply Kd.S_drew)); exact Kd.S_mono HO_5.out (fun _ hk => hk.1)⟩, ⟨by (with_reducible repeat (first | apply Kd.S_alloc | apply Kd.S_drewN | apply Kd.S_drew)); exact Kd.S_mono HO_7.out (fun _ hk => hk.1)⟩, ⟨by repeat (first | (with_reducible first | exact HB.out | apply below_alloc | apply pw_below_drewN | apply below_drew1) | exact HB.out)⟩⟩
                          · rw [if_neg c31] at H
                            exact absurd H (by simp)
                        · rw [if_neg c30] at H
                          exact absurd H (by simp)
                  · rw [if_neg c25] at H
                    have c25b0 : (t583 == 0) = false := beq_eq_false_iff_ne.mpr c25
                    have c25b1 : (t583 != 0) = true := bne_iff_ne.mpr c25
                    have H' := Aside0.mk H
                    clear H
                    go_wp2
                    go_meet
                    case rel => exact ⟨_, (true), (by first | rfl | (simp; done) | (simp [*]; done)), H', ⟨by have := HJ2.out; have := HK2.out; first | omega | exact Nat.le_refl _⟩, ⟨by (with_reducible repeat (first | apply Kd.S_alloc | apply Kd.S_drewN | apply Kd.S_drew)); exact Kd.S_mono HO_5.out (fun _ hk => hk.1)⟩, ⟨by (with_reducible repeat (first | apply Kd.S_alloc | apply Kd.S_drewN | apply Kd.S_drew)); exact Kd.S_mono HO_7.out (fun _ hk => hk.1)⟩, ⟨by repeat (first | (with_reducible first | exact HB.out | apply below_alloc | apply pw_below_drewN | apply below_drew1) | exact HB.out)⟩⟩
                · rw [if_neg c24] at H
                  have c24b0 : (t579 == 0) = false := beq_eq_false_iff_ne.mpr c24
                  have c24b1 : (t579 != 0) = true := bne_iff_ne.mpr c24
                  (first | rw [c24b0] | (simp only [i64_w, i32_w]; rw [c24b0]) | skip)
                  have H' := Aside0.mk H
                  clear H
                  go_wp2
                  go_meet
                  case rel => exact ⟨_, (true), (by first | rfl | (simp; done) | (simp [*]; done)), H', ⟨by have := HJ2.out; have := HK2.out; first | omega | exact Nat.le_refl _⟩, ⟨by (with_reducible repeat (first | apply Kd.S_alloc | apply Kd.S_drewN | apply Kd.S_drew)); exact Kd.S_mono HO_5.out (fun _ hk => hk.1)⟩, ⟨by (with_reducible repeat (first | apply Kd.S_alloc | apply Kd.S_drewN | apply Kd.S_drew)); exact Kd.S_mono HO_7.out (fun _ hk => hk.1)⟩, ⟨by repeat (first | (with_reducible first | exact HB.out | apply below_alloc | apply pw_below_drewN | apply below_drew1) | exact HB.out)⟩⟩
              case rest =>
                clear HC22
                try clear c1
                try clear c2
                try clear p2
                try clear c3
                try clear q3
                try clear c4
                try clear c4b0
                try clear c4b1
                try clear q4
                try clear c5
                try clear c5b0
                try clear p5
                try clear q5
                try clear hx5
                try clear c6
                try clear c6b0
                try clear p6
                try clear c8
                try clear c15
                try clear c15b0
                try clear c16
                try clear c16b0
                try clear c17
                try clear c17b0
                try clear c17b1
                try clear c18
                try clear c19
                try clear c22
                try clear c24
                try clear c24b0
                try clear c24b1
                try clear c25
                try clear c25b0
                try clear c25b1
                try clear c26
                try clear c26b0
                try clear c26b1
                try clear c28
                try clear c28b0
                try clear c30
                try clear c30b0
                try clear c30b1
                try clear c31
                try clear c31b0
                try clear c31b1
                try clear c33
                try clear c34
                try clear c34b0
                try clear c35
                try clear c35b0
                try clear q38
                try clear c39
                try clear q39
                try clear q41
                try clear hx586_0
                try clear hx587_0
                try clear p2
                try clear p586
                try clear p587
                try clear q039
                try clear q38
                try clear q39
                try clear q41
                try clear q586
                try clear q587
                obtain ⟨kq, x99_21, rfl, HA, HJ21, HO_5, HO_7, HB⟩ := hcut
                cases kq with
                | zero => exact absurd HA.out (by simp [earshotlaw02_WavePieces.j2])
                | succ kj21 =>
                  have H := HA.out
                  clear HA
                  simp only [earshotlaw02_WavePieces.j2] at H
                  by_cases c42 : x99_21 = true
                  · subst c42
                    have H1 : (some false) = some r := by rw [if_pos rfl] at H; exact H
                    clear H
                    have H := H1
                    clear H1
                    obtain rfl := Option.some.inj H
                    go_wp2
                    go_ret
                    exact ⟨by first | rfl | (simp [errW_none, errW_some] <;> rfl) | (simp [*, errW_none, errW_some] <;> rfl), by repeat (first | (with_reducible first | exact HB.out | apply below_alloc | apply pw_below_drewN | apply below_drew1) | exact HB.out)⟩
                  · replace c42 := Bool.eq_false_iff.mpr c42
                    subst c42
                    have H1 : (if a1 = 0 then (none) else (if (t582.length : Int) = (wrap64 ((l0.length : Int) / a1)) then (if 0 ≤ (t582.length : Int) then (if (t582.length : Int) ≤ (t578.length : Int) then ((earshotref02_SameLists.f kj21 t582 (t578.take ((t582.length : Int) : Int).toNat)).bind fun t605 => (if t605 = true then ((earshotlaw02_known.f kj21).bind fun t606 => (some t606)) else (some false))) else (none)) else (none)) else (some false))) = some r := by rw [if_neg (show ¬ (false = true) by decide)] at H; exact H
                    clear H
                    have H := H1
                    clear H1
                    by_cases c43 : a1 = 0
                    · rw [if_pos c43] at H
                      exact absurd H (by simp)
                    · rw [if_neg c43] at H
                      have c43b0 : (a1 == 0) = false := beq_eq_false_iff_ne.mpr c43
                      have c43b1 : (a1 != 0) = true := bne_iff_ne.mpr c43
                      by_cases c44 : (t582.length : Int) = (wrap64 ((l0.length : Int) / a1))
                      · rw [if_pos c44] at H
                        have c44b0 : ((t582.length : Int) == (wrap64 ((l0.length : Int) / a1))) = true := beq_iff_eq.mpr c44
                        have c44b1 : ((t582.length : Int) != (wrap64 ((l0.length : Int) / a1))) = false := bne_eq_false_iff_eq.mpr c44
                        clear c44
                        by_cases c45 : 0 ≤ (t582.length : Int)
                        · rw [if_pos c45] at H
                          have c45b0 := eq_true c45
                          have c45b1 : decide (0 ≤ (t582.length : Int)) = true := decide_eq_true c45
                          clear c45
                          by_cases c46 : (t582.length : Int) ≤ (t578.length : Int)
                          · rw [if_pos c46] at H
                            have c46b0 := eq_true c46
                            have c46b1 : decide ((t582.length : Int) ≤ (t578.length : Int)) = true := decide_eq_true c46
                            clear c46
                            obtain ⟨y601, hy601⟩ : ∃ y_ : List (List Int), y_ = (t578.take ((t582.length : Int) : Int).toNat) := ⟨_, rfl⟩
                            replace H : ((earshotref02_SameLists.f kj21 t582 y601).bind fun t605 => (if t605 = true then ((earshotlaw02_known.f kj21).bind fun t606 => (some t606)) else (some false))) = some r := by first | (rw [hy601]; with_reducible exact H) | (have H2_ := (Option.bind_some _ _).symm.trans H; rw [hy601]; with_reducible exact H2_) | (have H2_ := (Option.bind_some _ _).symm.trans H; with_reducible exact H2_) | with_reducible exact H | (rw [hy601]; exact H) | exact H
                            have Ny601 := Aside0.mk hy601
                            clear hy601
                            replace H := Option.bind_eq_some_iff.mp H
                            obtain ⟨t605, A470, H⟩ := H
                            replace H : (if t605 = true then ((earshotlaw02_known.f kj21).bind fun t606 => (some t606)) else (some false)) = some r := H
                            have A47 := Aside0.mk A470
                            clear A470
                            by_cases c48 : t605 = true
                            · subst c48
                              have H1 : ((earshotlaw02_known.f kj21).bind fun t606 => (some t606)) = some r := by rw [if_pos rfl] at H; exact H
                              clear H
                              have H := H1
                              clear H1
                              replace H := Option.bind_eq_some_iff.mp H
                              obtain ⟨t606, A490, H⟩ := H
                              replace H : (some t606) = some r := H
                              have A49 := Aside0.mk A490
                              clear A490
                              obtain rfl := Option.some.inj H
                              obtain ⟨Ao50, co50, eo50⟩ := Kd.S_slice HO_7.out
                              subst eo50
                              have q51 : ((t582.length : Int) : Int) ≤ ((t578.length : Int) : Int) := of_decide_eq_true (by first | (with_reducible assumption) | assumption)
                              obtain ⟨i051, hi051, _, hsz51, _⟩ := info_parts info22
                              have hroom51 : t578.length ≤ co23 := (Kd.S_reads' HO_5.out).2.1
                              have hC51 : Kd.C (Kd.slice 3 (Kd.int .i64)) _ Ao23 t578.length t578 := (Kd.S_reads' HO_5.out).2.2
                              have hcut51 := cut_to (P := Try.prog) 66 22 .i64 Try.underlying66 hi051 Ao23 t578.length co23 (t582.length : Int) (of_decide_eq_true (by first | (with_reducible assumption) | assumption)) q51 hroom51
                              have hr51 := Kd.C_take (m := ((t582.length : Int) : Int).toNat) hC51 (by omega)
                              have hy51 : y601.length = ((t582.length : Int) : Int).toNat := (by rw [Ny601.out, List.length_take]; omega)
                              rw [← Ny601.out] at hr51
                              rw [← hy51] at hcut51
                              have HR604 := Aside0.mk hr51
                              have HC604 := Aside0.mk (show y601.length ≤ co23 from by omega)
                              clear hr51 hC51 hroom51 hi051 hsz51
                              have KY51 := Aside0.mk hy51
                              clear hy51
                              have KL51 := Aside0.mk (show ((t582.length : Int) : Int).toNat ≤ t578.length from by omega)
                              replace q51 := eq_true q51
                              go_wp2_with (first | (go_at_call 54; (with_reducible refine (earshotref02_SameLists.calls kj21 _ _ t582 _ _ y601 true _ ?side1 ?side2 ?side3 ?side4 A47.out).mono ?_); (case side1 => repeat (first | exact (Kd.S_reads' HO_7.out).2.2 | (with_reducible refine Kd.C_alloc ?_ _) | (with_reducible refine Kd.C_drewN ?_ _) | (with_reducible refine Kd.C_drew ?_))); (case side2 => exact (Kd.S_reads' HO_7.out).2.1); (case side3 => repeat (first | exact (by repeat (first | (with_reducible exact HR604.out) | (with_reducible refine Kd.C_alloc ?_ _) | (with_reducible refine Kd.C_drewN ?_ _) | (with_reducible refine Kd.C_drew ?_) | exact HR604.out)) | (with_reducible refine Kd.C_alloc ?_ _) | (with_reducible refine Kd.C_drewN ?_ _) | (with_reducible refine Kd.C_drew ?_))); (case side4 => exact HC604.out); rintro e w' ⟨rfl, ⟨nd, rfl⟩⟩) | (go_at_call 22; (with_reducible refine (earshotlaw02_known.calls kj21  t606 _ A49.out).mono ?_); rintro e w52 ⟨rfl, hb⟩; have n0_ := Aside0.mk (Kd.S_below (by (with_reducible repeat (first | apply Kd.S_alloc | apply Kd.S_drewN | apply Kd.S_drew)); exact HO_5.out) hb); have n1_ := Aside0.mk (Kd.S_below (by (with_reducible repeat (first | apply Kd.S_alloc | apply Kd.S_drewN | apply Kd.S_drew)); exact HO_7.out) hb); have n2_ := Aside0.mk (Kd.C_below (by repeat (first | (with_reducible exact HR604.out) | (with_reducible refine Kd.C_alloc ?_ _) | (with_reducible refine Kd.C_drewN ?_ _) | (with_reducible refine Kd.C_drew ?_) | exact HR604.out)) hb); have n3_ := Aside0.mk (below_step (by repeat (first | (with_reducible first | exact HB.out | apply below_alloc | apply pw_below_drewN | apply below_drew1) | exact HB.out)) hb); clear HO_5; clear HO_7; clear HR604; clear HB; have HO_5 := n0_; have HO_7 := n1_; have HR604 := n2_; have HB := n3_; clear n0_ n1_ n2_ n3_; (try clear hb); (try clear hb2); (try clear hk); (try clear hi)))
                              go_ret
                              exact ⟨by first | rfl | (simp [errW_none, errW_some] <;> rfl) | (simp [*, errW_none, errW_some] <;> rfl), by repeat (first | (with_reducible first | exact HB.out | apply below_alloc | apply pw_below_drewN | apply below_drew1) | exact HB.out)⟩
                            · replace c48 := Bool.eq_false_iff.mpr c48
                              subst c48
                              have H1 : (some false) = some r := by rw [if_neg (show ¬ (false = true) by decide)] at H; exact H
                              clear H
                              have H := H1
                              clear H1
                              obtain rfl := Option.some.inj H
                              obtain ⟨Ao53, co53, eo53⟩ := Kd.S_slice HO_7.out
                              subst eo53
                              have q54 : ((t582.length : Int) : Int) ≤ ((t578.length : Int) : Int) := of_decide_eq_true (by first | (with_reducible assumption) | assumption)
                              obtain ⟨i054, hi054, _, hsz54, _⟩ := info_parts info22
                              have hroom54 : t578.length ≤ co23 := (Kd.S_reads' HO_5.out).2.1
                              have hC54 : Kd.C (Kd.slice 3 (Kd.int .i64)) _ Ao23 t578.length t578 := (Kd.S_reads' HO_5.out).2.2
                              have hcut54 := cut_to (P := Try.prog) 66 22 .i64 Try.underlying66 hi054 Ao23 t578.length co23 (t582.length : Int) (of_decide_eq_true (by first | (with_reducible assumption) | assumption)) q54 hroom54
                              have hr54 := Kd.C_take (m := ((t582.length : Int) : Int).toNat) hC54 (by omega)
                              have hy54 : y601.length = ((t582.length : Int) : Int).toNat := (by rw [Ny601.out, List.length_take]; omega)
                              rw [← Ny601.out] at hr54
                              rw [← hy54] at hcut54
                              have HR604 := Aside0.mk hr54
                              have HC604 := Aside0.mk (show y601.length ≤ co23 from by omega)
                              clear hr54 hC54 hroom54 hi054 hsz54
                              have KY54 := Aside0.mk hy54
                              clear hy54
                              have KL54 := Aside0.mk (show ((t582.length : Int) : Int).toNat ≤ t578.length from by omega)
                              replace q54 := eq_true q54
                              go_wp2_with (first | (go_at_call 54; (with_reducible refine (earshotref02_SameLists.calls kj21 _ _ t582 _ _ y601 false _ ?side1 ?side2 ?side3 ?side4 A47.out).mono ?_); (case side1 => repeat (first | exact (Kd.S_reads' HO_7.out).2.2 | (with_reducible refine Kd.C_alloc ?_ _) | (with_reducible refine Kd.C_drewN ?_ _) | (with_reducible refine Kd.C_drew ?_))); (case side2 => exact (Kd.S_reads' HO_7.out).2.1); (case side3 => repeat (first | exact (by repeat (first | (with_reducible exact HR604.out) | (with_reducible refine Kd.C_alloc ?_ _) | (with_reducible refine Kd.C_drewN ?_ _) | (with_reducible refine Kd.C_drew ?_) | exact HR604.out)) | (with_reducible refine Kd.C_alloc ?_ _) | (with_reducible refine Kd.C_drewN ?_ _) | (with_reducible refine Kd.C_drew ?_))); (case side4 => exact HC604.out); rintro e w' ⟨rfl, ⟨nd, rfl⟩⟩))
                              go_ret
                              exact ⟨by first | rfl | (simp [errW_none, errW_some] <;> rfl) | (simp [*, errW_none, errW_some] <;> rfl), by repeat (first | (with_reducible first | exact HB.out | apply below_alloc | apply pw_below_drewN | apply below_drew1) | exact HB.out)⟩
                          · rw [if_neg c46] at H
                            exact absurd H (by simp)
                        · rw [if_neg c45] at H
                          exact absurd H (by simp)
                      · rw [if_neg c44] at H
                        have c44b0 : ((t582.length : Int) == (wrap64 ((l0.length : Int) / a1))) = false := beq_eq_false_iff_ne.mpr c44
                        have c44b1 : ((t582.length : Int) != (wrap64 ((l0.length : Int) / a1))) = true := bne_iff_ne.mpr c44
                        obtain rfl := Option.some.inj H
                        obtain ⟨Ao55, co55, eo55⟩ := Kd.S_slice HO_7.out
                        subst eo55
                        go_wp2
                        go_ret
                        exact ⟨by first | rfl | (simp [errW_none, errW_some] <;> rfl) | (simp [*, errW_none, errW_some] <;> rfl), by repeat (first | (with_reducible first | exact HB.out | apply below_alloc | apply pw_below_drewN | apply below_drew1) | exact HB.out)⟩

/-- THE ONE PURE STATEMENT of earshotlaw02_WavePieces: yours. -/
def earshotlaw02_WavePieces.Pure : Prop := ∀ (l0 : List Int) (a1 : Int), l0.length ≤ maxLen → l0.length * 8 ≤ 140737488351232 → (∀ x ∈ l0, (Lit.int .i64 x).wf = true) → (Lit.int .i64 a1).wf = true → ∃ k, earshotlaw02_WavePieces.f k l0 a1 = some true
theorem earshotlaw02_WavePieces.walk (P : earshotlaw02_WavePieces.Pure) (a0 : Option Addr) (len0 cap0 : Nat) (z0 : List Int) (a1 : Int) (w : World) (w0 : (a0 = none ∧ len0 = 0 ∧ cap0 = 0 ∧ z0 = []) ∨ ∃ x, a0 = some x ∧ len0 ≤ cap0 ∧ cap0 ≤ maxLen ∧ z0.length = cap0 ∧ (∀ i, i < z0.length → w.cell? (x.add i) = some (.int .i64 (z0.getD i 0))) ∧ ∀ n ∈ z0, (Lit.int .i64 n).wf = true) (y0 : len0 * 8 ≤ 140737488351232) (w1 : (Lit.int .i64 a1).wf = true) :
    Calls Try.prog 19 #[.slice a0 len0 cap0, .int .i64 a1] w fun e w' => e = .returned (.bool true) ∧ Below w.heap.size w w' := by
  obtain ⟨l0, rfl, hr0, hm0, hw0, hc0⟩ := ReadsInt.ofRowC w0
  obtain ⟨k, h⟩ := P l0 a1 hm0 y0 hw0 w1
  refine (earshotlaw02_WavePieces.calls k _ _ l0 a1 true w (Kd.C_of_reads (d := (0 : Int)) (h1 := fun _ => rfl) hr0) hc0 h).mono ?_
  rintro e w' ⟨rfl, hd⟩
  exact ⟨rfl, hd⟩

end Go.Proofs.Ytigbfcodnbnicaa.P
