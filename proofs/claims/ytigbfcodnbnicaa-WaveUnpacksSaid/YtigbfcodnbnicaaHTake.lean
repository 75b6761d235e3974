/- The closure of Unpack that takes some bytes as a number, least significant one first; for at most four bytes that are there. -/
import Derived.Test.YtigbfcodnbnicaaHSum
import Derived.Lib.SliceRun
import Derived.Lib.SmallJoins
import Derived.Lib.SlBytesConst
import Derived.ArgAppend
set_option linter.unusedVariables false
set_option linter.unusedSimpArgs false
namespace Go.Proofs.Ytigbfcodnbnicaa.P
open Go.RowKit Go.Proofs.YtigbfcodnbnicaaW.PrintWords Go.Proofs.YtigbfcodnbnicaaW.PrintLast Go.Proofs.YtigbfcodnbnicaaW.PrintMore
theorem geb_snoc : ∀ (l : List Int) (x : Int), geb (l ++ [x]) = geb l + 256 ^ l.length * x
  | [], x => by simp [geb]
  | y :: t, x => by
    have := geb_snoc t x
    simp only [List.cons_append, geb, this, List.length_cons]
    rw [Int.mul_add, ← Int.mul_assoc, Int.pow_succ, Int.mul_comm 256 (256 ^ t.length)]
    omega
def gebAt (l : List Int) (p j : Nat) : Int := geb ((l.drop p).take j)
theorem geb_bd : ∀ (b : List Int), (∀ v ∈ b, 0 ≤ v ∧ v ≤ 255) → 0 ≤ geb b ∧ geb b < 256 ^ b.length
  | [], _ => by simp [geb]
  | x :: t, h => by
    have ih := geb_bd t (fun v hv => h v (List.mem_cons_of_mem _ hv))
    have hx := h x List.mem_cons_self
    simp only [geb, List.length_cons]
    rw [Int.pow_succ, Int.mul_comm (256 ^ t.length) 256]
    omega
theorem gebAt_succ (l : List Int) (p j : Nat) (h : p + j < l.length) : gebAt l p (j + 1) = gebAt l p j + 256 ^ j * rd l ((p : Int) + (j : Int)) := by
  unfold gebAt
  have hd : j < (l.drop p).length := by rw [List.length_drop]; omega
  rw [List.take_succ_eq_append_getElem hd, geb_snoc, List.length_take, Nat.min_eq_left (by omega)]
  congr 2
  have e : ((p : Int) + (j : Int)).toNat = p + j := by omega
  simp [rd, e, h]
theorem gebAt_bd (l : List Int) (p j : Nat) (hb : ∀ v ∈ l, 0 ≤ v ∧ v ≤ 255) (h : p + j ≤ l.length) : 0 ≤ gebAt l p j ∧ gebAt l p j < 256 ^ j := by
  have := geb_bd ((l.drop p).take j) (fun v hv => hb v (List.mem_of_mem_drop (List.mem_of_mem_take hv)))
  rw [List.length_take, List.length_drop, Nat.min_eq_left (by omega)] at this
  exact this
theorem or_up {n y : Int} (i : Nat) (hi : i ≤ 40) (h0 : 0 ≤ n) (h1 : n < 2 ^ i) (y0 : 0 ≤ y) (hy : y % 2 ^ i = 0) (y1 : y < 2 ^ 40) : bits .or .i64 n y = n + y := by
  have hw : ∀ n : Int, 0 ≤ n → n < 2 ^ 40 → IntKind.i64.wrap n = n := fun n a b => by rw [IntKind.wrap_i64]; omega
  have hp : (2 : Int) ^ i ≤ 2 ^ 40 := by exact_mod_cast Nat.pow_le_pow_right (by decide) hi
  have e := bits_join .i64 40 (by decide) hw i y n y0 hy y1 h0 h1 (by omega)
  obtain ⟨a, rfl⟩ := Int.eq_ofNat_of_zero_le h0
  obtain ⟨b, rfl⟩ := Int.eq_ofNat_of_zero_le y0
  have ha : a < 2 ^ 40 := by
    have : (a : Int) < 2 ^ 40 := by omega
    exact_mod_cast this
  have hb : b < 2 ^ 40 := by exact_mod_cast y1
  rw [(bits_nat .i64 40 (by decide) hw b a hb ha).2] at e
  rw [(bits_nat .i64 40 (by decide) hw a b ha hb).2, Nat.or_comm, e]
  omega
set_option maxHeartbeats 4000000 in
set_option maxRecDepth 100000 in
theorem take_calls (m p : Nat) (hm : m ≤ 4) (A : Option Addr) (c g1 g4 : Nat) (l : List Int) (w : World) (hp : p + m ≤ l.length) (hl : l.length ≤ 500000) (hb : ∀ v ∈ l, 0 ≤ v ∧ v ≤ 255)
    (h1 : w.heap[g1]? = some (.cells #[.slice A l.length c] 50 (0, 0))) (h4 : w.heap[g4]? = some (.cells #[.int .i64 p] 3 (0, 0))) (hr : Kd.C (Kd.int .u8) w A l.length l) :
    Calls Try.prog 71 #[.int .i64 m, .pointer (some ⟨g1, 0, none⟩), .pointer (some ⟨g4, 0, none⟩)] w fun e w' => e = .returned (.int .i64 (gebAt l p m)) ∧ w' = w.setCell ⟨g4, 0, none⟩ (.int .i64 ((p + m : Nat) : Int)) := by
  have B1 := Aside0.mk h1
  have B4 := Aside0.mk h4
  have HR := Aside0.mk hr
  have HBY := Aside0.mk hb
  clear h1 h4 hr hb
  have hc1 : w.cell? ⟨g1, 0, none⟩ = some (.slice A l.length c) := (blk_cell B1.out 0).trans rfl
  have hc4 : w.cell? ⟨g4, 0, none⟩ = some (.int .i64 p) := (blk_cell B4.out 0).trans rfl
  have hf4 := blk_frozen B4.out 0
  go_enter Try.func71, Try.ntmps71
  go_wp2
  go_loop [5, 8] (fun u5 u8 => ∃ j : Nat, j ≤ m ∧ u8 = .int .i64 j ∧ u5 = .int .i64 (gebAt l p j)) (fun _ u8 => m - (intOf u8).toNat)
  case atStart => exact ⟨0, Nat.zero_le _, rfl, rfl⟩
  case round =>
    obtain ⟨j, hj, rfl, rfl⟩ := hrel
    by_cases hlt : j < m
    · obtain ⟨ad, e, hx⟩ := Kd.at_int HR.out ((p : Int) + (j : Int)) (by omega) (by omega)
      cases e
      rw [show ((p : Int) + (j : Int)).toNat = p + j by omega] at hx
      have hv := HBY.out _ (rd_mem (l := l) (i := p + j) (by omega))
      rw [show ((p + j : Nat) : Int) = (p : Int) + (j : Int) by omega] at hv
      obtain ⟨x, hxx⟩ : ∃ x, x = rd l ((p : Int) + (j : Int)) := ⟨_, rfl⟩
      rw [← hxx] at hx hv
      have HX := Aside0.mk hxx
      have hv1 := hv.1
      have hv2 := hv.2
      clear hv hxx
      rcases (show j = 0 ∨ j = 1 ∨ j = 2 ∨ j = 3 by omega) with rfl | rfl | rfl | rfl
      · simp only [Nat.add_zero] at hx
        have HG := Aside0.mk (gebAt_succ l p 0 (by omega))
        have hgb := gebAt_bd l p 0 HBY.out (by omega)
        have HO := Aside0.mk (or_up (n := gebAt l p 0) (y := x) 0 (by decide) hgb.1 (by have := hgb.2; simpa using this) (by omega) (by omega) (by omega))
        clear hgb
        go_wp2
        go_round
        case rel => exact ⟨1, by omega, by go_num, by rw [HG.out, ← HX.out, HO.out]; go_num⟩
        case measure => simp [intOf]; omega
      · have hx1 : w.cell? ⟨ad.block, ad.off + (p + 1), none⟩ = some (.int .u8 x) := hx
        have HG := Aside0.mk (gebAt_succ l p 1 (by omega))
        have hgb := gebAt_bd l p 1 HBY.out (by omega)
        have HO := Aside0.mk (or_up (n := gebAt l p 1) (y := (x * 256)) 8 (by decide) hgb.1 (by have := hgb.2; simpa using this) (by omega) (by omega) (by omega))
        clear hgb
        go_wp2
        go_round
        case rel => exact ⟨2, by omega, by go_num, by rw [HG.out, ← HX.out, HO.out]; go_num⟩
        case measure => simp [intOf]; omega
      · have hx2 : w.cell? ⟨ad.block, ad.off + (p + 2), none⟩ = some (.int .u8 x) := hx
        have HG := Aside0.mk (gebAt_succ l p 2 (by omega))
        have hgb := gebAt_bd l p 2 HBY.out (by omega)
        have HO := Aside0.mk (or_up (n := gebAt l p 2) (y := (x * 65536)) 16 (by decide) hgb.1 (by have := hgb.2; simpa using this) (by omega) (by omega) (by omega))
        clear hgb
        go_wp2
        go_round
        case rel => exact ⟨3, by omega, by go_num, by rw [HG.out, ← HX.out, HO.out]; go_num⟩
        case measure => simp [intOf]; omega
      · have hx3 : w.cell? ⟨ad.block, ad.off + (p + 3), none⟩ = some (.int .u8 x) := hx
        have HG := Aside0.mk (gebAt_succ l p 3 (by omega))
        have hgb := gebAt_bd l p 3 HBY.out (by omega)
        have HO := Aside0.mk (or_up (n := gebAt l p 3) (y := (x * 16777216)) 24 (by decide) hgb.1 (by have := hgb.2; simpa using this) (by omega) (by omega) (by omega))
        clear hgb
        go_wp2
        go_round
        case rel => exact ⟨4, by omega, by go_num, by rw [HG.out, ← HX.out, HO.out]; go_num⟩
        case measure => simp [intOf]; omega
    · obtain rfl : j = m := by omega
      go_wp2
      go_ret
      exact ⟨rfl, rfl⟩
end Go.Proofs.Ytigbfcodnbnicaa.P
