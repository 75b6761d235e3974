/- The weights of the windows: what Window returns, for every kind and size; no condition. -/
import Derived.Test.YtigbfcodnbnicaaHRound
import Derived.Lib.SliceRun
set_option linter.unusedVariables false
set_option linter.unusedSimpArgs false
namespace Go.Proofs.Ytigbfcodnbnicaa.P
open Go.RowKit Go.Proofs.YtigbfcodnbnicaaW.PrintWords Go.Proofs.YtigbfcodnbnicaaW.PrintLast Go.Proofs.YtigbfcodnbnicaaW.PrintMore
attribute [local go_sem] max2_int min2_int max_two min_two max_three min_three max_four min_four

theorem ret64 {a b : Int} (h : a = b) : Ending.returned (.int .i64 a) = .returned (.int .i64 b) := by rw [h]
theorem shapes_calls (w : World) : Calls Try.prog 68 #[] w fun e w' => e = .returned (.slice (some ⟨w.heap.size, 0, none⟩) 3 3) ∧ w' = w.alloc (.cells #[.int .i64 1, .func (.func 90) #[] #[], .int .i64 2, .func (.func 91) #[] #[], .int .i64 3, .func (.func 92) #[] #[]] 98) := by
  go_enter Try.func68, Try.ntmps68
  go_wp2
  go_ret
  exact ⟨rfl, rfl⟩
theorem weight90 (n d : Int) (w : World) (h1 : 1 ≤ n) (h2 : n ≤ 4096) (h3 : -4096 ≤ d) (h4 : d ≤ 4096) : Calls Try.prog 90 #[.int .i64 n, .int .i64 d] w fun e w' => e = .returned (.int .i64 (winW 1 n d)) ∧ Drawn0 w w' := by
  go_enter Try.func90, Try.ntmps90
  go_wp2
  go_ret
  exact ⟨rfl, Drawn0.refl _⟩
theorem weight91 (n d : Int) (w : World) (h1 : 1 ≤ n) (h2 : n ≤ 4096) (h3 : -4096 ≤ d) (h4 : d ≤ 4096) : Calls Try.prog 91 #[.int .i64 n, .int .i64 d] w fun e w' => e = .returned (.int .i64 (winW 2 n d)) ∧ Drawn0 w w' := by
  by_cases hd : 0 ≤ d
  · have e : winW 2 n d = rnd (4096 * (n + 1 - d)) (n + 1) := by unfold winW; rw [if_neg (by omega), if_pos rfl, Int.max_eq_left (by omega)]
    have H := Aside0.mk (rounded_some (k := 0) (a := 4096 * (n + 1 - d)) (b := n + 1) (by omega) (by omega) (by omega) (by omega))
    have E := Aside0.mk e
    clear e
    go_enter Try.func91, Try.ntmps91
    go_wp2_with (go_at_call 64; refine (wave_rounded.calls _ _ _ _ _ H.out).mono ?_; rintro e w' ⟨rfl, ⟨nd, rfl⟩⟩)
    go_ret
    exact ⟨ret64 E.out.symm, Drawn0.step (Drawn0.refl _) _⟩
  · have hd' : d < 0 := by omega
    have e : winW 2 n d = rnd (4096 * (n + 1 + d)) (n + 1) := by unfold winW; rw [if_neg (by omega), if_pos rfl, Int.max_eq_right (by omega), show n + 1 - -d = n + 1 + d from by omega]
    have H := Aside0.mk (rounded_some (k := 0) (a := 4096 * (n + 1 + d)) (b := n + 1) (by omega) (by omega) (by omega) (by omega))
    have E := Aside0.mk e
    clear e
    go_enter Try.func91, Try.ntmps91
    go_wp2_with (go_at_call 64; refine (wave_rounded.calls _ _ _ _ _ H.out).mono ?_; rintro e w' ⟨rfl, ⟨nd, rfl⟩⟩)
    go_ret
    exact ⟨ret64 E.out.symm, Drawn0.step (Drawn0.refl _) _⟩
theorem sq_bd {x m : Int} (h1 : -m ≤ x) (h2 : x ≤ m) : 0 ≤ x * x ∧ x * x ≤ m * m := by
  have h0 : 0 ≤ m := by omega
  rcases Int.le_total 0 x with h | h
  · exact ⟨Int.mul_nonneg h h, Int.mul_le_mul h2 h2 h h0⟩
  · have e : x * x = -x * -x := by rw [Int.neg_mul_neg]
    rw [e]
    exact ⟨Int.mul_nonneg (by omega) (by omega), Int.mul_le_mul (by omega) (by omega) (by omega) h0⟩
theorem weight92 (n d : Int) (w : World) (h1 : 1 ≤ n) (h2 : n ≤ 4096) (h3 : -4096 ≤ d) (h4 : d ≤ 4096) : Calls Try.prog 92 #[.int .i64 n, .int .i64 d] w fun e w' => e = .returned (.int .i64 (winW 3 n d)) ∧ Drawn0 w w' := by
  have b1 := (sq_bd (x := n + 1) (m := 4097) (by omega) (by omega)).1
  have b2 := (sq_bd (x := n + 1) (m := 4097) (by omega) (by omega)).2
  have b3 := (sq_bd (x := d) (m := 4096) (by omega) (by omega)).1
  have b4 := (sq_bd (x := d) (m := 4096) (by omega) (by omega)).2
  have b5 : 1 ≤ (n + 1) * (n + 1) := by
    have := Int.mul_le_mul (show (1 : Int) ≤ n + 1 by omega) (show (1 : Int) ≤ n + 1 by omega) (by omega) (by omega)
    omega
  have E : Aside0 (winW 3 n d = rnd (4096 * ((n + 1) * (n + 1) - d * d)) ((n + 1) * (n + 1))) := ⟨by unfold winW; rw [if_neg (by omega), if_neg (by omega)]⟩
  have H := Aside0.mk (rounded_some (k := 0) (a := 4096 * ((n + 1) * (n + 1) - d * d)) (b := (n + 1) * (n + 1)) (by omega) (by omega) (by omega) (by omega))
  go_enter Try.func92, Try.ntmps92
  go_wp2_with (go_at_call 64; refine (wave_rounded.calls _ _ _ _ _ H.out).mono ?_; rintro e w' ⟨rfl, ⟨nd, rfl⟩⟩)
  go_ret
  exact ⟨ret64 E.out.symm, Drawn0.step (Drawn0.refl _) _⟩
theorem test70 (s k : Int) (g : Nat) (B : Nat) (w : World) (hB : w.cell? ⟨B, 0, none⟩ = some (.int .i64 k)) : Calls Try.prog 70 #[.agg #[.int .i64 s, .func (.func g) #[] #[]], .pointer (some ⟨B, 0, none⟩)] w fun e w' => e = .returned (.bool (s == k)) ∧ w' = w.alloc (.cells #[.int .i64 s, .func (.func g) #[] #[]] 98) := by
  have hB2 : ∀ o, (w.alloc o).cell? ⟨B, 0, none⟩ = some (.int .i64 k) := fun o => Lib.cell?_alloc_some o hB
  go_enter Try.func70, Try.ntmps70
  go_wp2
  go_ret
  exact ⟨rfl, rfl⟩
/-- Where the kind stands in the table, or -1. -/
def kindAt (k : Int) : Int := if 1 ≤ k ∧ k ≤ 3 then k - 1 else -1
theorem idx69 (S B : Nat) (k : Int) (w : World) (hB : w.cell? ⟨B, 0, none⟩ = some (.int .i64 k)) (hb : B < w.heap.size) (hs : S < w.heap.size)
    (h0 : w.cell? ⟨S, 0, none⟩ = some (.int .i64 1)) (h1 : w.cell? ⟨S, 1, none⟩ = some (.func (.func 90) #[] #[])) (h2 : w.cell? ⟨S, 2, none⟩ = some (.int .i64 2)) (h3 : w.cell? ⟨S, 3, none⟩ = some (.func (.func 91) #[] #[])) (h4 : w.cell? ⟨S, 4, none⟩ = some (.int .i64 3)) (h5 : w.cell? ⟨S, 5, none⟩ = some (.func (.func 92) #[] #[])) :
    Calls Try.prog 69 #[.slice (some ⟨S, 0, none⟩) 3 3, .func (.func 70) #[] #[.pointer (some ⟨B, 0, none⟩)]] w fun e w' => e = .returned (.int .i64 (kindAt k)) ∧ Below w.heap.size w w' := by
  have HH := Aside0.mk (And.intro hB (And.intro h0 (And.intro h1 (And.intro h2 (And.intro h3 (And.intro h4 h5))))))
  clear hB h0 h1 h2 h3 h4 h5
  go_enter Try.func69, Try.ntmps69
  go_wp2
  go_loopw [8] (fun v8 wr => ∃ j : Nat, j ≤ 3 ∧ v8 = .int .i64 j ∧ Aside0 (∀ i : Nat, i < j → k ≠ i + 1) ∧ Aside0 (Below w.heap.size w wr)) (fun v8 _ => 3 - (intOf v8).toNat)
  case atStart => exact ⟨0, Nat.zero_le _, rfl, ⟨fun j hj => absurd hj (Nat.not_lt_zero _)⟩, ⟨Below.refl _ _⟩⟩
  case round =>
    obtain ⟨j, hj, rfl, HA, HB⟩ := hrel
    have hB := (HB.out.cell (p := ⟨B, 0, none⟩) hb).trans HH.out.1
    rcases (show j = 0 ∨ j = 1 ∨ j = 2 ∨ j = 3 by omega) with rfl | rfl | rfl | rfl
    · have hx := (HB.out.cell (p := ⟨S, 0, none⟩) hs).trans HH.out.2.1
      have hy := (HB.out.cell (p := ⟨S, 1, none⟩) hs).trans HH.out.2.2.1
      by_cases hk : k = 1
      · have K := Aside0.mk hk
        have hq : (((1 : Int)) == k) = true := beq_iff_eq.2 hk.symm
        clear hk
        go_wp2_with (go_at_call 70; refine (test70 _ _ _ _ _ hB).mono ?_; rintro e w' ⟨rfl, rfl⟩)
        go_ret
        exact ⟨by rw [K.out]; rfl, HB.out.alloc HB.out.size _⟩
      · have K := Aside0.mk hk
        have hq : (((1 : Int)) == k) = false := beq_eq_false_iff_ne.2 (fun h => hk h.symm)
        clear hk
        go_wp2_with (go_at_call 70; refine (test70 _ _ _ _ _ hB).mono ?_; rintro e w' ⟨rfl, rfl⟩)
        go_roundw
        case rel => exact ⟨1, by omega, by go_num, ⟨fun i hi => by
          rcases Nat.lt_or_ge i 0 with h | h
          · exact HA.out i h
          · obtain rfl : i = 0 := by omega
            exact K.out⟩, ⟨HB.out.alloc HB.out.size _⟩⟩
        case measure => simp [intOf]
    · have hx := (HB.out.cell (p := ⟨S, 2, none⟩) hs).trans HH.out.2.2.2.1
      have hy := (HB.out.cell (p := ⟨S, 3, none⟩) hs).trans HH.out.2.2.2.2.1
      by_cases hk : k = 2
      · have K := Aside0.mk hk
        have hq : (((2 : Int)) == k) = true := beq_iff_eq.2 hk.symm
        clear hk
        go_wp2_with (go_at_call 70; refine (test70 _ _ _ _ _ hB).mono ?_; rintro e w' ⟨rfl, rfl⟩)
        go_ret
        exact ⟨by rw [K.out]; rfl, HB.out.alloc HB.out.size _⟩
      · have K := Aside0.mk hk
        have hq : (((2 : Int)) == k) = false := beq_eq_false_iff_ne.2 (fun h => hk h.symm)
        clear hk
        go_wp2_with (go_at_call 70; refine (test70 _ _ _ _ _ hB).mono ?_; rintro e w' ⟨rfl, rfl⟩)
        go_roundw
        case rel => exact ⟨2, by omega, by go_num, ⟨fun i hi => by
          rcases Nat.lt_or_ge i 1 with h | h
          · exact HA.out i h
          · obtain rfl : i = 1 := by omega
            exact K.out⟩, ⟨HB.out.alloc HB.out.size _⟩⟩
        case measure => simp [intOf]
    · have hx := (HB.out.cell (p := ⟨S, 4, none⟩) hs).trans HH.out.2.2.2.2.2.1
      have hy := (HB.out.cell (p := ⟨S, 5, none⟩) hs).trans HH.out.2.2.2.2.2.2
      by_cases hk : k = 3
      · have K := Aside0.mk hk
        have hq : (((3 : Int)) == k) = true := beq_iff_eq.2 hk.symm
        clear hk
        go_wp2_with (go_at_call 70; refine (test70 _ _ _ _ _ hB).mono ?_; rintro e w' ⟨rfl, rfl⟩)
        go_ret
        exact ⟨by rw [K.out]; rfl, HB.out.alloc HB.out.size _⟩
      · have K := Aside0.mk hk
        have hq : (((3 : Int)) == k) = false := beq_eq_false_iff_ne.2 (fun h => hk h.symm)
        clear hk
        go_wp2_with (go_at_call 70; refine (test70 _ _ _ _ _ hB).mono ?_; rintro e w' ⟨rfl, rfl⟩)
        go_roundw
        case rel => exact ⟨3, by omega, by go_num, ⟨fun i hi => by
          rcases Nat.lt_or_ge i 2 with h | h
          · exact HA.out i h
          · obtain rfl : i = 2 := by omega
            exact K.out⟩, ⟨HB.out.alloc HB.out.size _⟩⟩
        case measure => simp [intOf]
    · go_wp2
      go_ret
      exact ⟨ret64 (by have a := HA.out 0 (by omega); have b := HA.out 1 (by omega); have c := HA.out 2 (by omega); unfold kindAt; rw [if_neg (by omega)]), HB.out⟩

theorem winList_succ (k : Int) (n j : Nat) : (List.range (j + 1)).map (fun (i : Nat) => winW k n (2 * (i : Int) - (n - 1))) = (List.range j).map (fun (i : Nat) => winW k n (2 * (i : Int) - (n - 1))) ++ [winW k n (2 * (j : Int) - (n - 1))] := by
  rw [List.range_succ, List.map_append]
  rfl
/-- What Window has put together after j rounds. -/
def winPart (k : Int) (n j : Nat) : List Int := (List.range j).map (fun (i : Nat) => winW k n (2 * (i : Int) - (n - 1)))
theorem winPart_succ (k : Int) (n j : Nat) : winPart k n (j + 1) = winPart k n j ++ [winW k n (2 * (j : Int) - (n - 1))] := winList_succ k n j
theorem winPart_length (k : Int) (n j : Nat) : (winPart k n j).length = j := by simp [winPart]
def WinPost (r1 : List Int) (r2 : Int) (w : World) (e : Ending) (w' : World) : Prop := ∃ v0_ : Value, e = .returned (.tuple #[v0_, .int .i64 r2]) ∧ Kd.R (Kd.int .i64) 3 w' w.heap.size (fun _ => True) v0_ r1 ∧ Below w.heap.size w w'

set_option maxHeartbeats 8000000 in
set_option maxRecDepth 100000 in
theorem win_bad (a0 a1 : Int) (w : World) (h : ¬ (1 ≤ a0 ∧ a0 ≤ 3)) : Calls Try.prog 28 #[.int .i64 a0, .int .i64 a1] w (WinPost [] 2 w) := by
  have q1 : decide (kindAt a0 < 0) = true := decide_eq_true (by unfold kindAt; rw [if_neg h]; omega)
  clear h
  have hu22 := Try.underlying22
  go_enter Try.func28, Try.ntmps28
  go_wp2_with (first | (go_at_call 68; refine (shapes_calls _).mono ?_; rintro e w' ⟨rfl, rfl⟩) | (go_at_call 69; refine (idx69 (w.heap.size + 1) w.heap.size a0 _ (by first | rfl | simp) (by simp; omega) (by simp) (by first | rfl | simp) (by first | rfl | simp) (by first | rfl | simp) (by first | rfl | simp) (by first | rfl | simp) (by first | rfl | simp)).mono ?_; rintro e w2 ⟨rfl, hb2⟩; have HB := Aside0.mk ((((Below.refl _ _).alloc (Nat.le_refl _) _).alloc (by simp) _).trans (hb2.mono (by simp; omega)) : Below w.heap.size w w2); have BK : Aside0 (w2.heap[w.heap.size + 1]? = some (.cells #[.int .i64 1, .func (.func 90) #[] #[], .int .i64 2, .func (.func 91) #[] #[], .int .i64 3, .func (.func 92) #[] #[]] 98 (0, 0))) := ⟨by rw [hb2.block _ (by simp)]; have h0 := blk_new (w.alloc (.cells #[.int .i64 a0] 36)) (.cells #[.int .i64 1, .func (.func 90) #[] #[], .int .i64 2, .func (.func 91) #[] #[], .int .i64 3, .func (.func 92) #[] #[]] 98 (0, 0)); rw [show (w.alloc (.cells #[.int .i64 a0] 36)).heap.size = w.heap.size + 1 from by simp] at h0; exact h0⟩; clear hb2))
  go_ret2
  exact ⟨_, rfl, Kd.R_nil _ _ _ _ _, HB.out⟩

set_option maxHeartbeats 8000000 in
set_option maxRecDepth 100000 in
theorem win_small (a0 a1 : Int) (w : World) (h : 1 ≤ a0 ∧ a0 ≤ 3) (h1 : a1 < 1) : Calls Try.prog 28 #[.int .i64 a0, .int .i64 a1] w (WinPost [] 2 w) := by
  have q1 : decide (kindAt a0 < 0) = false := decide_eq_false (by unfold kindAt; rw [if_pos h]; omega)
  have q2 : decide (a1 < 1) = true := decide_eq_true h1
  clear h h1
  have hu22 := Try.underlying22
  go_enter Try.func28, Try.ntmps28
  go_wp2_with (first | (go_at_call 68; refine (shapes_calls _).mono ?_; rintro e w' ⟨rfl, rfl⟩) | (go_at_call 69; refine (idx69 (w.heap.size + 1) w.heap.size a0 _ (by first | rfl | simp) (by simp; omega) (by simp) (by first | rfl | simp) (by first | rfl | simp) (by first | rfl | simp) (by first | rfl | simp) (by first | rfl | simp) (by first | rfl | simp)).mono ?_; rintro e w2 ⟨rfl, hb2⟩; have HB := Aside0.mk ((((Below.refl _ _).alloc (Nat.le_refl _) _).alloc (by simp) _).trans (hb2.mono (by simp; omega)) : Below w.heap.size w w2); have BK : Aside0 (w2.heap[w.heap.size + 1]? = some (.cells #[.int .i64 1, .func (.func 90) #[] #[], .int .i64 2, .func (.func 91) #[] #[], .int .i64 3, .func (.func 92) #[] #[]] 98 (0, 0))) := ⟨by rw [hb2.block _ (by simp)]; have h0 := blk_new (w.alloc (.cells #[.int .i64 a0] 36)) (.cells #[.int .i64 1, .func (.func 90) #[] #[], .int .i64 2, .func (.func 91) #[] #[], .int .i64 3, .func (.func 92) #[] #[]] 98 (0, 0)); rw [show (w.alloc (.cells #[.int .i64 a0] 36)).heap.size = w.heap.size + 1 from by simp] at h0; exact h0⟩; clear hb2))
  go_ret2
  exact ⟨_, rfl, Kd.R_nil _ _ _ _ _, HB.out⟩

set_option maxHeartbeats 8000000 in
set_option maxRecDepth 100000 in
theorem win_great (a0 a1 : Int) (w : World) (h : 1 ≤ a0 ∧ a0 ≤ 3) (h1 : 4096 < a1) : Calls Try.prog 28 #[.int .i64 a0, .int .i64 a1] w (WinPost [] 2 w) := by
  have q1 : decide (kindAt a0 < 0) = false := decide_eq_false (by unfold kindAt; rw [if_pos h]; omega)
  have q2 : decide (a1 < 1) = false := decide_eq_false (by omega)
  have q3 : decide (4096 < a1) = true := decide_eq_true h1
  clear h h1
  have hu22 := Try.underlying22
  go_enter Try.func28, Try.ntmps28
  go_wp2_with (first | (go_at_call 68; refine (shapes_calls _).mono ?_; rintro e w' ⟨rfl, rfl⟩) | (go_at_call 69; refine (idx69 (w.heap.size + 1) w.heap.size a0 _ (by first | rfl | simp) (by simp; omega) (by simp) (by first | rfl | simp) (by first | rfl | simp) (by first | rfl | simp) (by first | rfl | simp) (by first | rfl | simp) (by first | rfl | simp)).mono ?_; rintro e w2 ⟨rfl, hb2⟩; have HB := Aside0.mk ((((Below.refl _ _).alloc (Nat.le_refl _) _).alloc (by simp) _).trans (hb2.mono (by simp; omega)) : Below w.heap.size w w2); have BK : Aside0 (w2.heap[w.heap.size + 1]? = some (.cells #[.int .i64 1, .func (.func 90) #[] #[], .int .i64 2, .func (.func 91) #[] #[], .int .i64 3, .func (.func 92) #[] #[]] 98 (0, 0))) := ⟨by rw [hb2.block _ (by simp)]; have h0 := blk_new (w.alloc (.cells #[.int .i64 a0] 36)) (.cells #[.int .i64 1, .func (.func 90) #[] #[], .int .i64 2, .func (.func 91) #[] #[], .int .i64 3, .func (.func 92) #[] #[]] 98 (0, 0)); rw [show (w.alloc (.cells #[.int .i64 a0] 36)).heap.size = w.heap.size + 1 from by simp] at h0; exact h0⟩; clear hb2))
  go_ret2
  exact ⟨_, rfl, Kd.R_nil _ _ _ _ _, HB.out⟩

set_option maxHeartbeats 8000000 in
set_option maxRecDepth 100000 in
theorem win_1 (n : Nat) (w : World) (h1 : 1 ≤ n) (h2 : n ≤ 4096) : Calls Try.prog 28 #[.int .i64 1, .int .i64 n] w (WinPost (winPart 1 n n) 0 w) := by
  have q1 : kindAt 1 = 0 := by decide
  have q2 : decide ((n : Int) < 1) = false := decide_eq_false (by omega)
  have q3 : decide (4096 < (n : Int)) = false := decide_eq_false (by omega)
  have hu22 := Try.underlying22
  go_enter Try.func28, Try.ntmps28
  go_wp2_with (first | (go_at_call 68; refine (shapes_calls _).mono ?_; rintro e w' ⟨rfl, rfl⟩) | (go_at_call 69; refine (idx69 (w.heap.size + 1) w.heap.size 1 _ (by first | rfl | simp) (by simp; omega) (by simp) (by first | rfl | simp) (by first | rfl | simp) (by first | rfl | simp) (by first | rfl | simp) (by first | rfl | simp) (by first | rfl | simp)).mono ?_; rintro e w2 ⟨rfl, hb2⟩; have HB := Aside0.mk ((((Below.refl _ _).alloc (Nat.le_refl _) _).alloc (by simp) _).trans (hb2.mono (by simp; omega)) : Below w.heap.size w w2); have BK : Aside0 (w2.heap[w.heap.size + 1]? = some (.cells #[.int .i64 1, .func (.func 90) #[] #[], .int .i64 2, .func (.func 91) #[] #[], .int .i64 3, .func (.func 92) #[] #[]] 98 (0, 0))) := ⟨by rw [hb2.block _ (by simp)]; have h0 := blk_new (w.alloc (.cells #[.int .i64 1] 36)) (.cells #[.int .i64 1, .func (.func 90) #[] #[], .int .i64 2, .func (.func 91) #[] #[], .int .i64 3, .func (.func 92) #[] #[]] 98 (0, 0)); rw [show (w.alloc (.cells #[.int .i64 1] 36)).heap.size = w.heap.size + 1 from by simp] at h0; exact h0⟩; clear hb2))
  clear q1 q2 q3
  go_loopw [8, 25] (fun v8 v25 wr => ∃ j : Nat, j ≤ n ∧ v25 = .int .i64 j ∧ Aside0 (Kd.R (Kd.int .i64) 3 wr w.heap.size (fun _ => True) v8 (winPart 1 n j)) ∧ Aside0 (wr.heap[w.heap.size + 1]? = some (.cells #[.int .i64 1, .func (.func 90) #[] #[], .int .i64 2, .func (.func 91) #[] #[], .int .i64 3, .func (.func 92) #[] #[]] 98 (0, 0))) ∧ Aside0 (Below w.heap.size w wr)) (fun _ v25 _ => n - (intOf v25).toNat)
  case atStart => exact ⟨0, Nat.zero_le _, rfl, ⟨Kd.R_nil _ _ _ _ _⟩, BK, HB⟩
  case round =>
    clear BK HB
    obtain ⟨j, hj, rfl, HO, BK, HB⟩ := hrel
    by_cases hlt : j < n
    · have hy : wr.cell? ⟨w.heap.size + 1, 1, none⟩ = some (.func (.func 90) #[] #[]) := (blk_cell BK.out 1).trans rfl
      go_wp2_with (first | (go_at_call 90; refine (weight90 _ _ _ (by omega) (by omega) (by omega) (by omega)).mono ?_; rintro e w' ⟨rfl, ⟨nd, rfl⟩⟩) | ((with_reducible refine gate_builtin (b := .append) (xs := #[.tmp 28, .tmp 41]) rfl ?_); at_builtin; refine Kd.R_append (Kd.int .i64) (w0 := w) w.heap.size rfl (.tmp 28) (.tmp 41) 22 3 (.int .i64 0) 8 rfl Try.underlying22 info3 rfl (by decide) (by omega) _ (winPart 1 n j) (winW 1 n (2 * (j : Int) - (n - 1))) [.int .i64 (winW 1 n (2 * (j : Int) - (n - 1)))] (fun _ => True) (fun _ => False) rfl rfl ?aP (fun _ hk => hk.elim) ?aF ?aO ?aB ?aS ?aL ?_; (case aP => exact rfl); (case aB => exact (by repeat (first | exact HB.out | apply below_alloc | apply pw_below_drewN | apply below_drew1))); (case aF => exact (fun _ _ => trivial)); (case aO => exact (by (with_reducible repeat (first | apply Kd.R_alloc | apply Kd.R_drewN | apply Kd.R_drew)); exact HO.out)); (case aS => exact HB.out.size); (case aL => have := winPart_length 1 n j; omega); intro v42 w42 ho hb hg hat; rw [← winPart_succ] at ho; have BK2 : Aside0 (w42.heap[w.heap.size + 1]? = some (.cells #[.int .i64 1, .func (.func 90) #[] #[], .int .i64 2, .func (.func 91) #[] #[], .int .i64 3, .func (.func 92) #[] #[]] 98 (0, 0))) := ⟨blk_grown (blk_drewN BK.out _) hg (Kd.R_ne HO.out BK.out (by decide))⟩; have HO2 := Aside0.mk ho; have HB2 := Aside0.mk hb; clear HO HB BK ho hb hg hat))
      go_roundw
      case rel => exact ⟨j + 1, by omega, by go_num, HO2, BK2, HB2⟩
      case measure => simp [intOf]; omega
    · obtain rfl : j = n := by omega
      go_wp2
      go_ret2
      exact ⟨_, rfl, HO.out, HB.out⟩

set_option maxHeartbeats 8000000 in
set_option maxRecDepth 100000 in
theorem win_2 (n : Nat) (w : World) (h1 : 1 ≤ n) (h2 : n ≤ 4096) : Calls Try.prog 28 #[.int .i64 2, .int .i64 n] w (WinPost (winPart 2 n n) 0 w) := by
  have q1 : kindAt 2 = 1 := by decide
  have q2 : decide ((n : Int) < 1) = false := decide_eq_false (by omega)
  have q3 : decide (4096 < (n : Int)) = false := decide_eq_false (by omega)
  have hu22 := Try.underlying22
  go_enter Try.func28, Try.ntmps28
  go_wp2_with (first | (go_at_call 68; refine (shapes_calls _).mono ?_; rintro e w' ⟨rfl, rfl⟩) | (go_at_call 69; refine (idx69 (w.heap.size + 1) w.heap.size 2 _ (by first | rfl | simp) (by simp; omega) (by simp) (by first | rfl | simp) (by first | rfl | simp) (by first | rfl | simp) (by first | rfl | simp) (by first | rfl | simp) (by first | rfl | simp)).mono ?_; rintro e w2 ⟨rfl, hb2⟩; have HB := Aside0.mk ((((Below.refl _ _).alloc (Nat.le_refl _) _).alloc (by simp) _).trans (hb2.mono (by simp; omega)) : Below w.heap.size w w2); have BK : Aside0 (w2.heap[w.heap.size + 1]? = some (.cells #[.int .i64 1, .func (.func 90) #[] #[], .int .i64 2, .func (.func 91) #[] #[], .int .i64 3, .func (.func 92) #[] #[]] 98 (0, 0))) := ⟨by rw [hb2.block _ (by simp)]; have h0 := blk_new (w.alloc (.cells #[.int .i64 2] 36)) (.cells #[.int .i64 1, .func (.func 90) #[] #[], .int .i64 2, .func (.func 91) #[] #[], .int .i64 3, .func (.func 92) #[] #[]] 98 (0, 0)); rw [show (w.alloc (.cells #[.int .i64 2] 36)).heap.size = w.heap.size + 1 from by simp] at h0; exact h0⟩; clear hb2))
  clear q1 q2 q3
  go_loopw [8, 25] (fun v8 v25 wr => ∃ j : Nat, j ≤ n ∧ v25 = .int .i64 j ∧ Aside0 (Kd.R (Kd.int .i64) 3 wr w.heap.size (fun _ => True) v8 (winPart 2 n j)) ∧ Aside0 (wr.heap[w.heap.size + 1]? = some (.cells #[.int .i64 1, .func (.func 90) #[] #[], .int .i64 2, .func (.func 91) #[] #[], .int .i64 3, .func (.func 92) #[] #[]] 98 (0, 0))) ∧ Aside0 (Below w.heap.size w wr)) (fun _ v25 _ => n - (intOf v25).toNat)
  case atStart => exact ⟨0, Nat.zero_le _, rfl, ⟨Kd.R_nil _ _ _ _ _⟩, BK, HB⟩
  case round =>
    clear BK HB
    obtain ⟨j, hj, rfl, HO, BK, HB⟩ := hrel
    by_cases hlt : j < n
    · have hy : wr.cell? ⟨w.heap.size + 1, 3, none⟩ = some (.func (.func 91) #[] #[]) := (blk_cell BK.out 3).trans rfl
      go_wp2_with (first | (go_at_call 91; refine (weight91 _ _ _ (by omega) (by omega) (by omega) (by omega)).mono ?_; rintro e w' ⟨rfl, ⟨nd, rfl⟩⟩) | ((with_reducible refine gate_builtin (b := .append) (xs := #[.tmp 28, .tmp 41]) rfl ?_); at_builtin; refine Kd.R_append (Kd.int .i64) (w0 := w) w.heap.size rfl (.tmp 28) (.tmp 41) 22 3 (.int .i64 0) 8 rfl Try.underlying22 info3 rfl (by decide) (by omega) _ (winPart 2 n j) (winW 2 n (2 * (j : Int) - (n - 1))) [.int .i64 (winW 2 n (2 * (j : Int) - (n - 1)))] (fun _ => True) (fun _ => False) rfl rfl ?aP (fun _ hk => hk.elim) ?aF ?aO ?aB ?aS ?aL ?_; (case aP => exact rfl); (case aB => exact (by repeat (first | exact HB.out | apply below_alloc | apply pw_below_drewN | apply below_drew1))); (case aF => exact (fun _ _ => trivial)); (case aO => exact (by (with_reducible repeat (first | apply Kd.R_alloc | apply Kd.R_drewN | apply Kd.R_drew)); exact HO.out)); (case aS => exact HB.out.size); (case aL => have := winPart_length 2 n j; omega); intro v42 w42 ho hb hg hat; rw [← winPart_succ] at ho; have BK2 : Aside0 (w42.heap[w.heap.size + 1]? = some (.cells #[.int .i64 1, .func (.func 90) #[] #[], .int .i64 2, .func (.func 91) #[] #[], .int .i64 3, .func (.func 92) #[] #[]] 98 (0, 0))) := ⟨blk_grown (blk_drewN BK.out _) hg (Kd.R_ne HO.out BK.out (by decide))⟩; have HO2 := Aside0.mk ho; have HB2 := Aside0.mk hb; clear HO HB BK ho hb hg hat))
      go_roundw
      case rel => exact ⟨j + 1, by omega, by go_num, HO2, BK2, HB2⟩
      case measure => simp [intOf]; omega
    · obtain rfl : j = n := by omega
      go_wp2
      go_ret2
      exact ⟨_, rfl, HO.out, HB.out⟩

set_option maxHeartbeats 8000000 in
set_option maxRecDepth 100000 in
theorem win_3 (n : Nat) (w : World) (h1 : 1 ≤ n) (h2 : n ≤ 4096) : Calls Try.prog 28 #[.int .i64 3, .int .i64 n] w (WinPost (winPart 3 n n) 0 w) := by
  have q1 : kindAt 3 = 2 := by decide
  have q2 : decide ((n : Int) < 1) = false := decide_eq_false (by omega)
  have q3 : decide (4096 < (n : Int)) = false := decide_eq_false (by omega)
  have hu22 := Try.underlying22
  go_enter Try.func28, Try.ntmps28
  go_wp2_with (first | (go_at_call 68; refine (shapes_calls _).mono ?_; rintro e w' ⟨rfl, rfl⟩) | (go_at_call 69; refine (idx69 (w.heap.size + 1) w.heap.size 3 _ (by first | rfl | simp) (by simp; omega) (by simp) (by first | rfl | simp) (by first | rfl | simp) (by first | rfl | simp) (by first | rfl | simp) (by first | rfl | simp) (by first | rfl | simp)).mono ?_; rintro e w2 ⟨rfl, hb2⟩; have HB := Aside0.mk ((((Below.refl _ _).alloc (Nat.le_refl _) _).alloc (by simp) _).trans (hb2.mono (by simp; omega)) : Below w.heap.size w w2); have BK : Aside0 (w2.heap[w.heap.size + 1]? = some (.cells #[.int .i64 1, .func (.func 90) #[] #[], .int .i64 2, .func (.func 91) #[] #[], .int .i64 3, .func (.func 92) #[] #[]] 98 (0, 0))) := ⟨by rw [hb2.block _ (by simp)]; have h0 := blk_new (w.alloc (.cells #[.int .i64 3] 36)) (.cells #[.int .i64 1, .func (.func 90) #[] #[], .int .i64 2, .func (.func 91) #[] #[], .int .i64 3, .func (.func 92) #[] #[]] 98 (0, 0)); rw [show (w.alloc (.cells #[.int .i64 3] 36)).heap.size = w.heap.size + 1 from by simp] at h0; exact h0⟩; clear hb2))
  clear q1 q2 q3
  go_loopw [8, 25] (fun v8 v25 wr => ∃ j : Nat, j ≤ n ∧ v25 = .int .i64 j ∧ Aside0 (Kd.R (Kd.int .i64) 3 wr w.heap.size (fun _ => True) v8 (winPart 3 n j)) ∧ Aside0 (wr.heap[w.heap.size + 1]? = some (.cells #[.int .i64 1, .func (.func 90) #[] #[], .int .i64 2, .func (.func 91) #[] #[], .int .i64 3, .func (.func 92) #[] #[]] 98 (0, 0))) ∧ Aside0 (Below w.heap.size w wr)) (fun _ v25 _ => n - (intOf v25).toNat)
  case atStart => exact ⟨0, Nat.zero_le _, rfl, ⟨Kd.R_nil _ _ _ _ _⟩, BK, HB⟩
  case round =>
    clear BK HB
    obtain ⟨j, hj, rfl, HO, BK, HB⟩ := hrel
    by_cases hlt : j < n
    · have hy : wr.cell? ⟨w.heap.size + 1, 5, none⟩ = some (.func (.func 92) #[] #[]) := (blk_cell BK.out 5).trans rfl
      go_wp2_with (first | (go_at_call 92; refine (weight92 _ _ _ (by omega) (by omega) (by omega) (by omega)).mono ?_; rintro e w' ⟨rfl, ⟨nd, rfl⟩⟩) | ((with_reducible refine gate_builtin (b := .append) (xs := #[.tmp 28, .tmp 41]) rfl ?_); at_builtin; refine Kd.R_append (Kd.int .i64) (w0 := w) w.heap.size rfl (.tmp 28) (.tmp 41) 22 3 (.int .i64 0) 8 rfl Try.underlying22 info3 rfl (by decide) (by omega) _ (winPart 3 n j) (winW 3 n (2 * (j : Int) - (n - 1))) [.int .i64 (winW 3 n (2 * (j : Int) - (n - 1)))] (fun _ => True) (fun _ => False) rfl rfl ?aP (fun _ hk => hk.elim) ?aF ?aO ?aB ?aS ?aL ?_; (case aP => exact rfl); (case aB => exact (by repeat (first | exact HB.out | apply below_alloc | apply pw_below_drewN | apply below_drew1))); (case aF => exact (fun _ _ => trivial)); (case aO => exact (by (with_reducible repeat (first | apply Kd.R_alloc | apply Kd.R_drewN | apply Kd.R_drew)); exact HO.out)); (case aS => exact HB.out.size); (case aL => have := winPart_length 3 n j; omega); intro v42 w42 ho hb hg hat; rw [← winPart_succ] at ho; have BK2 : Aside0 (w42.heap[w.heap.size + 1]? = some (.cells #[.int .i64 1, .func (.func 90) #[] #[], .int .i64 2, .func (.func 91) #[] #[], .int .i64 3, .func (.func 92) #[] #[]] 98 (0, 0))) := ⟨blk_grown (blk_drewN BK.out _) hg (Kd.R_ne HO.out BK.out (by decide))⟩; have HO2 := Aside0.mk ho; have HB2 := Aside0.mk hb; clear HO HB BK ho hb hg hat))
      go_roundw
      case rel => exact ⟨j + 1, by omega, by go_num, HO2, BK2, HB2⟩
      case measure => simp [intOf]; omega
    · obtain rfl : j = n := by omega
      go_wp2
      go_ret2
      exact ⟨_, rfl, HO.out, HB.out⟩

theorem wave_Window.calls (a0 : Int) (a1 : Int) (r1 : List Int) (r2 : Int) (w : World) (h : wave_Window.f a0 a1 = some (r1, r2)) :
    Calls Try.prog 28 #[.int .i64 a0, .int .i64 a1] w fun e w' => ∃ v0_ : Value, e = .returned (.tuple #[v0_, .int .i64 r2]) ∧ Kd.R (Kd.int .i64) 3 w' w.heap.size (fun _ => True) v0_ r1 ∧ Below w.heap.size w w' := by
  unfold wave_Window.f at h
  by_cases hc : 1 ≤ a0 ∧ a0 ≤ 3 ∧ 1 ≤ a1 ∧ a1 ≤ 4096
  · rw [if_pos hc] at h
    obtain ⟨rfl, rfl⟩ := Prod.mk.inj (Option.some.inj h)
    obtain ⟨n, rfl⟩ := Int.eq_ofNat_of_zero_le (show 0 ≤ a1 by omega)
    have e : ∀ k : Int, winList k (n : Int) = winPart k n n := fun k => by unfold winList winPart; rw [Int.toNat_natCast]
    rw [e]
    rcases (show a0 = 1 ∨ a0 = 2 ∨ a0 = 3 by omega) with rfl | rfl | rfl
    · exact win_1 n w (by omega) (by omega)
    · exact win_2 n w (by omega) (by omega)
    · exact win_3 n w (by omega) (by omega)
  · rw [if_neg hc] at h
    obtain ⟨rfl, rfl⟩ := Prod.mk.inj (Option.some.inj h)
    by_cases hk : 1 ≤ a0 ∧ a0 ≤ 3
    · by_cases h1 : a1 < 1
      · exact win_small a0 a1 w hk h1
      · exact win_great a0 a1 w hk (by omega)
    · exact win_bad a0 a1 w hk
end Go.Proofs.Ytigbfcodnbnicaa.P
