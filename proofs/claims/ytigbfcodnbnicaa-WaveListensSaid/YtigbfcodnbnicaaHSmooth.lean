/- The closure that smooths a recording, and division with rounding, both leaving the world as it is; for samples and small numbers. -/
import Derived.Test.YtigbfcodnbnicaaHRound
import Derived.Test.YtigbfcodnbnicaaHEnergy
set_option linter.unusedVariables false
set_option linter.unusedSimpArgs false
namespace Go.Proofs.Ytigbfcodnbnicaa.P
open Go.RowKit Go.Proofs.YtigbfcodnbnicaaW.PrintWords Go.Proofs.YtigbfcodnbnicaaW.PrintLast Go.Proofs.YtigbfcodnbnicaaW.PrintMore
attribute [local go_sem] max2_int min2_int max_two min_two max_three min_three max_four min_four

theorem reti {a b : Int} (h : a = b) : Ending.returned (.int .i64 a) = .returned (.int .i64 b) := by rw [h]
theorem round_nn (a b : Int) (w : World) (hb : 1 ≤ b) (hb2 : b ≤ 1099511627776) (ha : 0 ≤ a) (ha2 : a ≤ 1152921504606846976) :
    Calls Try.prog 64 #[.int .i64 a, .int .i64 b] w fun e w' => e = .returned (.int .i64 (rnd a b)) ∧ w' = w := by
  have E := Aside0.mk (rnd_nn (a := a) (b := b) ha)
  go_enter Try.func64, Try.ntmps64
  go_wp2_with fail
  go_ret
  exact ⟨reti E.out.symm, rfl⟩
theorem round_still (a b : Int) (w : World) (hb : 1 ≤ b) (hb2 : b ≤ 1099511627776) (ha : -1152921504606846976 ≤ a) (ha2 : a ≤ 1152921504606846976) :
    Calls Try.prog 64 #[.int .i64 a, .int .i64 b] w fun e w' => e = .returned (.int .i64 (rnd a b)) ∧ w' = w := by
  by_cases h : a < 0
  · have E := Aside0.mk (rnd_neg (b := b) h)
    have hr := rnd_le hb (show 0 ≤ -a by omega)
    have hr1 := hr.1
    have hr2 := hr.2
    clear hr
    go_enter Try.func64, Try.ntmps64
    go_wp2_with (go_at_call 64; refine (round_nn (-a) b _ (by omega) (by omega) (by omega) (by omega)).mono ?_; rintro e w' ⟨rfl, rfl⟩)
    go_ret
    exact ⟨reti E.out.symm, rfl⟩
  · exact round_nn a b w hb hb2 (by omega) ha2
/-- The sum of k samples from place i on; a sample behind the last one means the last one. -/
def smoothSum (l : List Int) (i k : Nat) : Int := ((List.range k).map fun k => l.getD (min (i + k) (l.length - 1)) 0).sum
theorem smoothSum_succ (l : List Int) (i k : Nat) : smoothSum l i (k + 1) = smoothSum l i k + l.getD (min (i + k) (l.length - 1)) 0 := by
  unfold smoothSum
  rw [List.range_succ, List.map_append, List.sum_append]
  simp
theorem getD_bd {l : List Int} {lo hi : Int} (h : ∀ v ∈ l, lo ≤ v ∧ v ≤ hi) (j : Nat) (hj : j < l.length) : lo ≤ l.getD j 0 ∧ l.getD j 0 ≤ hi := by
  have e : l.getD j 0 = l[j] := by simp [hj]
  rw [e]; exact h _ (List.getElem_mem hj)
theorem smoothSum_bd {l : List Int} (h : ∀ v ∈ l, -32768 ≤ v ∧ v ≤ 32767) (hl : 0 < l.length) (i : Nat) : ∀ k : Nat, -32768 * (k : Int) ≤ smoothSum l i k ∧ smoothSum l i k ≤ 32768 * k
  | 0 => by simp [smoothSum]
  | k + 1 => by
    have h1 := smoothSum_bd h hl i k
    have h2 := getD_bd h (min (i + k) (l.length - 1)) (by omega)
    rw [smoothSum_succ]
    omega
set_option maxHeartbeats 4000000 in
set_option maxRecDepth 100000 in
theorem smooth_still (l : List Int) (A : Option Addr) (c : Nat) (i k Bw Br Bn : Nat) (w : World) (HR : Kd.C (Kd.int .i64) w A l.length l) (hv : ∀ v ∈ l, -32768 ≤ v ∧ v ≤ 32767)
    (hl : 0 < l.length) (hl2 : l.length ≤ 200000) (hk1 : 1 ≤ k) (hk2 : k ≤ 32) (hi : i ≤ 100000000)
    (hw : w.cell? ⟨Bw, 0, none⟩ = some (.int .i64 k)) (hr : w.cell? ⟨Br, 1, none⟩ = some (.slice A l.length c)) (hn : w.cell? ⟨Bn, 0, none⟩ = some (.int .i64 l.length)) :
    Calls Try.prog 63 #[.int .i64 i, .pointer (some ⟨Bw, 0, none⟩), .pointer (some ⟨Br, 0, none⟩), .pointer (some ⟨Bn, 0, none⟩)] w fun e w' => e = .returned (.int .i64 (smoothAt l k i)) ∧ w' = w := by
  have HR0 := Aside0.mk HR
  have HV := Aside0.mk hv
  clear HR hv
  have hu24 := Try.underlying24
  go_enter Try.func63, Try.ntmps63
  go_wp2
  go_loop [6, 9] (fun v6 v9 => ∃ j : Nat, j ≤ k ∧ v9 = .int .i64 j ∧ v6 = .int .i64 (smoothSum l i j)) (fun _ v9 => k - (intOf v9).toNat)
  case atStart => exact ⟨0, Nat.zero_le _, rfl, rfl⟩
  case round =>
    obtain ⟨j, hj, rfl, rfl⟩ := hrel
    have b1 := (smoothSum_bd HV.out hl i j).1
    have b2 := (smoothSum_bd HV.out hl i j).2
    by_cases hlt : j < k
    · have S := Aside0.mk (smoothSum_succ l i j)
      by_cases hm : i + j ≤ l.length - 1
      · obtain ⟨ad, e, hx⟩ := Kd.at_int HR0.out ((i : Int) + j) (by omega) (by omega)
        cases e
        have hg := getD_bd HV.out (i + j) (by omega)
        have er : rd l ((i : Int) + j) = l.getD (i + j) 0 := by unfold rd; rw [show ((i : Int) + j).toNat = i + j by omega]
        rw [er] at hx
        have hx2 := hx
        rw [show ((i : Int) + j).toNat = i + j by omega] at hx2
        have S2 : Aside0 (smoothSum l i (j + 1) = smoothSum l i j + l.getD (i + j) 0) := ⟨by rw [S.out, show min (i + j) (l.length - 1) = i + j by omega]⟩
        clear S er
        have g1 := hg.1
        have g2 := hg.2
        clear hg
        generalize l.getD (i + j) 0 = y at hx hx2 S2 g1 g2
        generalize hq : smoothSum l i j = q at *
        clear hq
        have hm1 : (i : Int) + j ≤ (l.length : Int) - 1 := by omega
        go_wp2
        go_round
        case rel => exact ⟨j + 1, by omega, by go_num, by rw [S2.out]⟩
        case measure => simp [intOf]; omega
      · obtain ⟨ad, e, hx⟩ := Kd.at_int HR0.out ((l.length : Int) - 1) (by omega) (by omega)
        cases e
        have hg := getD_bd HV.out (l.length - 1) (by omega)
        have er : rd l ((l.length : Int) - 1) = l.getD (l.length - 1) 0 := by unfold rd; rw [show ((l.length : Int) - 1).toNat = l.length - 1 by omega]
        rw [er, show ((l.length : Int) - 1).toNat = l.length - 1 by omega] at hx
        have S2 : Aside0 (smoothSum l i (j + 1) = smoothSum l i j + l.getD (l.length - 1) 0) := ⟨by rw [S.out, show min (i + j) (l.length - 1) = l.length - 1 by omega]⟩
        clear S er
        have g1 := hg.1
        have g2 := hg.2
        clear hg
        generalize l.getD (l.length - 1) 0 = y at hx S2 g1 g2
        generalize hq : smoothSum l i j = q at *
        clear hq
        have hm1 : (l.length : Int) - 1 < (i : Int) + j := by omega
        go_wp2
        go_round
        case rel => exact ⟨j + 1, by omega, by go_num, by rw [S2.out]⟩
        case measure => simp [intOf]; omega
    · obtain rfl : j = k := by omega
      go_wp2_with (go_at_call 64; refine (round_still _ _ _ (by omega) (by omega) (by omega) (by omega)).mono ?_; rintro e w' ⟨rfl, rfl⟩)
      go_ret
      exact ⟨rfl, rfl⟩
end Go.Proofs.Ytigbfcodnbnicaa.P
