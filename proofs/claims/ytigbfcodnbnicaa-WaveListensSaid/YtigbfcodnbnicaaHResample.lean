/- Resample: what it returns for every recording and every up and down; the list is read as given. -/
import Derived.Test.YtigbfcodnbnicaaHResA
import Derived.Deep.QuietTactic
import Derived.BigQuiet
set_option linter.unusedVariables false
set_option linter.unusedSimpArgs false
namespace Go.Proofs.Ytigbfcodnbnicaa.P
open Go.RowKit Go.Proofs.YtigbfcodnbnicaaW.PrintWords Go.Proofs.YtigbfcodnbnicaaW.PrintLast Go.Proofs.YtigbfcodnbnicaaW.PrintMore
attribute [local go_sem] max2_int min2_int max_two min_two max_three min_three max_four min_four

/-- What Resample has put together after j rounds. -/
def resPart (l : List Int) (u d k j : Nat) : List Int := (List.range j).map fun j => resAt l u d k j
theorem resPart_succ (l : List Int) (u d k j : Nat) : resPart l u d k (j + 1) = resPart l u d k j ++ [resAt l u d k j] := by
  unfold resPart
  rw [List.range_succ, List.map_append]
  rfl
theorem resPart_length (l : List Int) (u d k j : Nat) : (resPart l u d k j).length = j := by simp [resPart]
theorem rnd_bd {a b m : Int} (hb : 1 ≤ b) (h1 : -(m * b) ≤ a) (h2 : a ≤ m * b) : -m ≤ rnd a b ∧ rnd a b ≤ m := by
  have key : ∀ x : Int, 0 ≤ x → x ≤ m * b → rnd x b ≤ m ∧ 0 ≤ rnd x b := by
    intro x h0 hx
    refine ⟨?_, (rnd_le hb h0).1⟩
    rw [rnd_nn h0]
    have : (2 * x + b) < (m + 1) * (2 * b) := by
      have : (m + 1) * (2 * b) = 2 * (m * b) + 2 * b := by rw [Int.add_mul, Int.mul_left_comm]; omega
      omega
    have := Int.ediv_lt_of_lt_mul (by omega : 0 < 2 * b) this
    omega
  by_cases h : a < 0
  · rw [rnd_neg h]
    have := key (-a) (by omega) (by omega)
    omega
  · have := key a (by omega) h2
    omega
theorem mul_bd {a b m n : Int} (h1 : -m ≤ a) (h2 : a ≤ m) (h3 : 0 ≤ b) (h4 : b ≤ n) : -m * n ≤ a * b ∧ a * b ≤ m * n := by
  have h0 : 0 ≤ m := by omega
  have p1 : a * b ≤ m * n := Int.le_trans (Int.mul_le_mul_of_nonneg_right h2 h3) (Int.mul_le_mul_of_nonneg_left h4 h0)
  have p2 : -m * b ≤ a * b := Int.mul_le_mul_of_nonneg_right h1 h3
  have p3 : m * b ≤ m * n := Int.mul_le_mul_of_nonneg_left h4 h0
  rw [Int.neg_mul] at p2 ⊢
  omega
theorem smoothAt_bd {l : List Int} (h : ∀ v ∈ l, -32768 ≤ v ∧ v ≤ 32767) (hl : 0 < l.length) (k i : Nat) (hk : 1 ≤ k) : -32768 ≤ smoothAt l k i ∧ smoothAt l k i ≤ 32768 := by
  have h1 := smoothSum_bd h hl i k
  exact rnd_bd (m := 32768) (b := k) (by omega) (by unfold smoothSum at h1; omega) (by unfold smoothSum at h1; omega)
set_option maxHeartbeats 8000000 in
set_option maxRecDepth 100000 in
theorem res_good (a0 : Int) (A0 : Option Addr) (c0 : Nat) (l0 : List Int) (u d k m : Nat) (R : Int) (w : World) (hr0 : Kd.C (Kd.int .i64) w A0 l0.length l0) (hc0 : l0.length ≤ c0) (he : recErr a0 l0 = 0)
    (hv : ∀ v ∈ l0, -32768 ≤ v ∧ v ≤ 32767) (hl : l0.length ≤ 200000) (h1 : 1 ≤ u) (h2 : u ≤ 16) (h3 : 1 ≤ d) (h4 : d ≤ 16) (ha1 : 1 ≤ a0) (ha2 : a0 ≤ 192000) (h0 : a0 * u % d = 0) (hR : a0 * u / d = R) (hR1 : 1 ≤ R) (hR2 : R ≤ 192000)
    (hk : ((d : Int) + u - 1) / u = k) (hk1 : 1 ≤ k) (hk2 : k ≤ 32) (hm : ((l0.length : Int) * u + d - 1) / d = m) (hm2 : m ≤ 200000) (hn : m ≠ 0 → 0 < l0.length) :
    Calls Try.prog 23 #[.agg #[.int .i64 a0, .slice A0 l0.length c0], .int .i64 u, .int .i64 d] w (ResPost R (resPart l0 u d k m) 0 w) := by
  have HR0 := Aside0.mk hr0
  have HC0 := Aside0.mk hc0
  clear hr0 hc0
  have hu24 := Try.underlying24
  have HB := Aside0.mk (Below.refl w.heap.size w)
  have HE := Aside0.mk ((check_some a0 l0).trans (by rw [he]))
  have HV := Aside0.mk hv
  have HN := Aside0.mk hn
  clear he hv hn
  have p0 : 0 ≤ a0 * (u : Int) := Int.mul_nonneg (by omega) (by omega)
  have p1 : a0 * (u : Int) ≤ 192000 * 16 := Int.mul_le_mul ha2 (by omega) (by omega) (by omega)
  have p4 : 0 ≤ (l0.length : Int) * u := Int.mul_nonneg (by omega) (by omega)
  have p5 : (l0.length : Int) * u ≤ 200000 * 16 := Int.mul_le_mul (by omega) (by omega) (by omega) (by omega)
  have q0 : (a0 * (u : Int) % d != 0) = false := bne_eq_false_iff_eq.2 h0
  clear h0
  go_enter Try.func23, Try.ntmps23
  go_wp2_with (first | ((with_reducible refine gate_dst (N := 3) rfl ?_); refine box_event ?hg (N := 3) ?hd (cs := #[.int .i64 a0, .slice A0 l0.length c0]) (t := 24) ?hr ?_; (case hd => rfl); (case hg => rfl); (case hr => first | (go_simp; done) | (go_simp; rfl)); intro g0 hg_ w4 hbox_ hb_; have n0_ := Aside0.mk (below_step (by repeat (first | (with_reducible first | exact HB.out | apply below_alloc | apply pw_below_drewN | apply below_drew1) | exact HB.out)) hb_); have n1_ := Aside0.mk (hbox_); have n2_ : Aside0 (w.heap.size ≤ g0) := ⟨by rw [hg_]; exact (below_size (by repeat (first | (with_reducible first | exact HB.out | apply below_alloc | apply pw_below_drewN | apply below_drew1) | exact HB.out)))⟩; clear HB; have HB := n0_; have BKg0 := n1_; have GEg0 := n2_; clear n0_ n1_ n2_; have hc1 : w4.cell? ⟨g0, 0, none⟩ = some (.int .i64 a0) := (blk_cell BKg0.out 0).trans rfl; have hf1 := blk_frozen BKg0.out 0; have hc2 : w4.cell? ⟨g0, 1, none⟩ = some (.slice A0 l0.length c0) := (blk_cell BKg0.out 1).trans rfl; have hf2 := blk_frozen BKg0.out 1; clear hb_ hbox_ hg_) | ((with_reducible refine gate_dst (N := 6) rfl ?_); refine box_event ?hg (N := 6) ?hd (cs := #[.int .i64 0, .slice none 0 0]) (t := 24) ?hr ?_; (case hd => rfl); (case hg => rfl); (case hr => first | (go_simp; done) | (go_simp; rfl)); intro g1 hg_ w5 hbox_ hb_; have n0_ := Aside0.mk (below_step (by repeat (first | (with_reducible first | exact HB.out | apply below_alloc | apply pw_below_drewN | apply below_drew1 | refine below_set ?_ GEg0.out) | exact HB.out)) hb_); have n1_ := Aside0.mk (blk_below (g := g0) (o := .cells #[.int .i64 a0, .slice A0 l0.length c0] 24 (0, 0)) (by (with_reducible repeat (first | refine blk_drewN ?_ _ | refine blk_drew ?_ | refine blk_alloc ?_ _)); exact BKg0.out) hb_); have n2_ := Aside0.mk (hbox_); have n3_ : Aside0 (w.heap.size ≤ g1) := ⟨by rw [hg_]; exact (below_size (by repeat (first | (with_reducible first | exact HB.out | apply below_alloc | apply pw_below_drewN | apply below_drew1 | refine below_set ?_ GEg0.out) | exact HB.out)))⟩; have NBg0_g1 : Aside0 (g0 ≠ g1) := ⟨by rw [hg_]; exact Nat.ne_of_lt (blk_lt (o := .cells #[.int .i64 a0, .slice A0 l0.length c0] 24 (0, 0)) (by (with_reducible repeat (first | refine blk_drewN ?_ _ | refine blk_drew ?_ | refine blk_alloc ?_ _)); exact BKg0.out))⟩; have NBg1_g0 : Aside0 (g1 ≠ g0) := ⟨NBg0_g1.out.symm⟩; have hx3 := NBg0_g1.out; have hy3 := NBg1_g0.out; clear HB BKg0; have HB := n0_; have BKg0 := n1_; have BKg1 := n2_; have GEg1 := n3_; clear n0_ n1_ n2_ n3_; have hc4 : w5.cell? ⟨g0, 0, none⟩ = some (.int .i64 a0) := (blk_cell BKg0.out 0).trans rfl; have hf4 := blk_frozen BKg0.out 0; have hc5 : w5.cell? ⟨g0, 1, none⟩ = some (.slice A0 l0.length c0) := (blk_cell BKg0.out 1).trans rfl; have hf5 := blk_frozen BKg0.out 1; have hc6 : w5.cell? ⟨g1, 0, none⟩ = some (.int .i64 0) := (blk_cell BKg1.out 0).trans rfl; have hf6 := blk_frozen BKg1.out 0; have hc7 : w5.cell? ⟨g1, 1, none⟩ = some (.slice none 0 0) := (blk_cell BKg1.out 1).trans rfl; have hf7 := blk_frozen BKg1.out 1; clear hb_ hbox_ hg_) | (go_at_call 62; refine (wave_check.calls a0 A0 c0 l0 0 _ (by (with_reducible repeat (first | refine Kd.C_alloc ?_ _ | refine Kd.C_drewN ?_ _)); exact Kd.C_below HR0.out HB.out) HC0.out HE.out).mono ?_; rintro e w6 ⟨rfl, hb_⟩; have n0_ := Aside0.mk (below_step (by repeat (first | (with_reducible first | exact HB.out | apply below_alloc | apply pw_below_drewN | apply below_drew1 | refine below_set ?_ GEg0.out | refine below_set ?_ GEg1.out) | exact HB.out)) hb_); have n1_ := Aside0.mk (blk_below (g := g0) (o := .cells #[.int .i64 a0, .slice A0 l0.length c0] 24 (0, 0)) (by (with_reducible repeat (first | refine blk_drewN ?_ _ | refine blk_drew ?_ | refine blk_alloc ?_ _)); exact BKg0.out) hb_); have n2_ := Aside0.mk (blk_below (g := g1) (o := .cells #[.int .i64 0, .slice none 0 0] 24 (0, 0)) (by (with_reducible repeat (first | refine blk_drewN ?_ _ | refine blk_drew ?_ | refine blk_alloc ?_ _)); exact BKg1.out) hb_); clear HB BKg0 BKg1; have HB := n0_; have BKg0 := n1_; have BKg1 := n2_; clear n0_ n1_ n2_; have hc8 : w6.cell? ⟨g0, 0, none⟩ = some (.int .i64 a0) := (blk_cell BKg0.out 0).trans rfl; have hf8 := blk_frozen BKg0.out 0; have hc9 : w6.cell? ⟨g0, 1, none⟩ = some (.slice A0 l0.length c0) := (blk_cell BKg0.out 1).trans rfl; have hf9 := blk_frozen BKg0.out 1; have hc10 : w6.cell? ⟨g1, 0, none⟩ = some (.int .i64 0) := (blk_cell BKg1.out 0).trans rfl; have hf10 := blk_frozen BKg1.out 0; have hc11 : w6.cell? ⟨g1, 1, none⟩ = some (.slice none 0 0) := (blk_cell BKg1.out 1).trans rfl; have hf11 := blk_frozen BKg1.out 1; clear hb_) | ((with_reducible refine gate_dst (N := 9) rfl ?_); refine box_event ?hg (N := 9) ?hd (cs := #[.int .i64 0]) (t := 3) ?hr ?_; (case hd => rfl); (case hg => rfl); (case hr => first | (go_simp; done) | (go_simp; rfl)); intro g2 hg_ w7 hbox_ hb_; have n0_ := Aside0.mk (below_step (by repeat (first | (with_reducible first | exact HB.out | apply below_alloc | apply pw_below_drewN | apply below_drew1 | refine below_set ?_ GEg0.out | refine below_set ?_ GEg1.out) | exact HB.out)) hb_); have n1_ := Aside0.mk (blk_below (g := g0) (o := .cells #[.int .i64 a0, .slice A0 l0.length c0] 24 (0, 0)) (by (with_reducible repeat (first | refine blk_drewN ?_ _ | refine blk_drew ?_ | refine blk_alloc ?_ _)); exact BKg0.out) hb_); have n2_ := Aside0.mk (blk_below (g := g1) (o := .cells #[.int .i64 0, .slice none 0 0] 24 (0, 0)) (by (with_reducible repeat (first | refine blk_drewN ?_ _ | refine blk_drew ?_ | refine blk_alloc ?_ _)); exact BKg1.out) hb_); have n3_ := Aside0.mk (hbox_); have n4_ : Aside0 (w.heap.size ≤ g2) := ⟨by rw [hg_]; exact (below_size (by repeat (first | (with_reducible first | exact HB.out | apply below_alloc | apply pw_below_drewN | apply below_drew1 | refine below_set ?_ GEg0.out | refine below_set ?_ GEg1.out) | exact HB.out)))⟩; have NBg0_g2 : Aside0 (g0 ≠ g2) := ⟨by rw [hg_]; exact Nat.ne_of_lt (blk_lt (o := .cells #[.int .i64 a0, .slice A0 l0.length c0] 24 (0, 0)) (by (with_reducible repeat (first | refine blk_drewN ?_ _ | refine blk_drew ?_ | refine blk_alloc ?_ _)); exact BKg0.out))⟩; have NBg2_g0 : Aside0 (g2 ≠ g0) := ⟨NBg0_g2.out.symm⟩; have hx12 := NBg0_g2.out; have hy12 := NBg2_g0.out; have NBg1_g2 : Aside0 (g1 ≠ g2) := ⟨by rw [hg_]; exact Nat.ne_of_lt (blk_lt (o := .cells #[.int .i64 0, .slice none 0 0] 24 (0, 0)) (by (with_reducible repeat (first | refine blk_drewN ?_ _ | refine blk_drew ?_ | refine blk_alloc ?_ _)); exact BKg1.out))⟩; have NBg2_g1 : Aside0 (g2 ≠ g1) := ⟨NBg1_g2.out.symm⟩; have hx13 := NBg1_g2.out; have hy13 := NBg2_g1.out; clear HB BKg0 BKg1; have HB := n0_; have BKg0 := n1_; have BKg1 := n2_; have BKg2 := n3_; have GEg2 := n4_; clear n0_ n1_ n2_ n3_ n4_; have hc14 : w7.cell? ⟨g0, 0, none⟩ = some (.int .i64 a0) := (blk_cell BKg0.out 0).trans rfl; have hf14 := blk_frozen BKg0.out 0; have hc15 : w7.cell? ⟨g0, 1, none⟩ = some (.slice A0 l0.length c0) := (blk_cell BKg0.out 1).trans rfl; have hf15 := blk_frozen BKg0.out 1; have hc16 : w7.cell? ⟨g1, 0, none⟩ = some (.int .i64 0) := (blk_cell BKg1.out 0).trans rfl; have hf16 := blk_frozen BKg1.out 0; have hc17 : w7.cell? ⟨g1, 1, none⟩ = some (.slice none 0 0) := (blk_cell BKg1.out 1).trans rfl; have hf17 := blk_frozen BKg1.out 1; have hc18 : w7.cell? ⟨g2, 0, none⟩ = some (.int .i64 0) := (blk_cell BKg2.out 0).trans rfl; have hf18 := blk_frozen BKg2.out 0; clear hb_ hbox_ hg_) | ((with_reducible refine gate_dst (N := 11) rfl ?_); refine box_event ?hg (N := 11) ?hd (cs := #[.int .i64 0, .slice none 0 0]) (t := 24) ?hr ?_; (case hd => rfl); (case hg => rfl); (case hr => first | (go_simp; done) | (go_simp; rfl)); intro g3 hg_ w8 hbox_ hb_; have n0_ := Aside0.mk (below_step (by repeat (first | (with_reducible first | exact HB.out | apply below_alloc | apply pw_below_drewN | apply below_drew1 | refine below_set ?_ GEg0.out | refine below_set ?_ GEg1.out | refine below_set ?_ GEg2.out) | exact HB.out)) hb_); have n1_ := Aside0.mk (blk_below (g := g0) (o := .cells #[.int .i64 a0, .slice A0 l0.length c0] 24 (0, 0)) (by (with_reducible repeat (first | refine blk_drewN ?_ _ | refine blk_drew ?_ | refine blk_alloc ?_ _)); refine blk_far ?_ NBg0_g2.out _; (with_reducible repeat (first | refine blk_drewN ?_ _ | refine blk_drew ?_ | refine blk_alloc ?_ _)); exact BKg0.out) hb_); have n2_ := Aside0.mk (blk_below (g := g1) (o := .cells #[.int .i64 0, .slice none 0 0] 24 (0, 0)) (by (with_reducible repeat (first | refine blk_drewN ?_ _ | refine blk_drew ?_ | refine blk_alloc ?_ _)); refine blk_far ?_ NBg1_g2.out _; (with_reducible repeat (first | refine blk_drewN ?_ _ | refine blk_drew ?_ | refine blk_alloc ?_ _)); exact BKg1.out) hb_); have n3_ := Aside0.mk (blk_below (g := g2) (o := .cells #[.int .i64 (l0.length : Int)] 3 (0, 0)) (by (with_reducible repeat (first | refine blk_drewN ?_ _ | refine blk_drew ?_ | refine blk_alloc ?_ _)); refine blk_put (cs := #[.int .i64 0]) ?_ 0 _ rfl; (with_reducible repeat (first | refine blk_drewN ?_ _ | refine blk_drew ?_ | refine blk_alloc ?_ _)); exact BKg2.out) hb_); have n4_ := Aside0.mk (hbox_); have n5_ : Aside0 (w.heap.size ≤ g3) := ⟨by rw [hg_]; exact (below_size (by repeat (first | (with_reducible first | exact HB.out | apply below_alloc | apply pw_below_drewN | apply below_drew1 | refine below_set ?_ GEg0.out | refine below_set ?_ GEg1.out | refine below_set ?_ GEg2.out) | exact HB.out)))⟩; have NBg0_g3 : Aside0 (g0 ≠ g3) := ⟨by rw [hg_]; exact Nat.ne_of_lt (blk_lt (o := .cells #[.int .i64 a0, .slice A0 l0.length c0] 24 (0, 0)) (by (with_reducible repeat (first | refine blk_drewN ?_ _ | refine blk_drew ?_ | refine blk_alloc ?_ _)); refine blk_far ?_ NBg0_g2.out _; (with_reducible repeat (first | refine blk_drewN ?_ _ | refine blk_drew ?_ | refine blk_alloc ?_ _)); exact BKg0.out))⟩; have NBg3_g0 : Aside0 (g3 ≠ g0) := ⟨NBg0_g3.out.symm⟩; have hx19 := NBg0_g3.out; have hy19 := NBg3_g0.out; have NBg1_g3 : Aside0 (g1 ≠ g3) := ⟨by rw [hg_]; exact Nat.ne_of_lt (blk_lt (o := .cells #[.int .i64 0, .slice none 0 0] 24 (0, 0)) (by (with_reducible repeat (first | refine blk_drewN ?_ _ | refine blk_drew ?_ | refine blk_alloc ?_ _)); refine blk_far ?_ NBg1_g2.out _; (with_reducible repeat (first | refine blk_drewN ?_ _ | refine blk_drew ?_ | refine blk_alloc ?_ _)); exact BKg1.out))⟩; have NBg3_g1 : Aside0 (g3 ≠ g1) := ⟨NBg1_g3.out.symm⟩; have hx20 := NBg1_g3.out; have hy20 := NBg3_g1.out; have NBg2_g3 : Aside0 (g2 ≠ g3) := ⟨by rw [hg_]; exact Nat.ne_of_lt (blk_lt (o := .cells #[.int .i64 (l0.length : Int)] 3 (0, 0)) (by (with_reducible repeat (first | refine blk_drewN ?_ _ | refine blk_drew ?_ | refine blk_alloc ?_ _)); refine blk_put (cs := #[.int .i64 0]) ?_ 0 _ rfl; (with_reducible repeat (first | refine blk_drewN ?_ _ | refine blk_drew ?_ | refine blk_alloc ?_ _)); exact BKg2.out))⟩; have NBg3_g2 : Aside0 (g3 ≠ g2) := ⟨NBg2_g3.out.symm⟩; have hx21 := NBg2_g3.out; have hy21 := NBg3_g2.out; clear HB BKg0 BKg1 BKg2; have HB := n0_; have BKg0 := n1_; have BKg1 := n2_; have BKg2 := n3_; have BKg3 := n4_; have GEg3 := n5_; clear n0_ n1_ n2_ n3_ n4_ n5_; have hc22 : w8.cell? ⟨g0, 0, none⟩ = some (.int .i64 a0) := (blk_cell BKg0.out 0).trans rfl; have hf22 := blk_frozen BKg0.out 0; have hc23 : w8.cell? ⟨g0, 1, none⟩ = some (.slice A0 l0.length c0) := (blk_cell BKg0.out 1).trans rfl; have hf23 := blk_frozen BKg0.out 1; have hc24 : w8.cell? ⟨g1, 0, none⟩ = some (.int .i64 0) := (blk_cell BKg1.out 0).trans rfl; have hf24 := blk_frozen BKg1.out 0; have hc25 : w8.cell? ⟨g1, 1, none⟩ = some (.slice none 0 0) := (blk_cell BKg1.out 1).trans rfl; have hf25 := blk_frozen BKg1.out 1; have hc26 : w8.cell? ⟨g2, 0, none⟩ = some (.int .i64 (l0.length : Int)) := (blk_cell BKg2.out 0).trans rfl; have hf26 := blk_frozen BKg2.out 0; have hc27 : w8.cell? ⟨g3, 0, none⟩ = some (.int .i64 0) := (blk_cell BKg3.out 0).trans rfl; have hf27 := blk_frozen BKg3.out 0; have hc28 : w8.cell? ⟨g3, 1, none⟩ = some (.slice none 0 0) := (blk_cell BKg3.out 1).trans rfl; have hf28 := blk_frozen BKg3.out 1; clear hb_ hbox_ hg_) | ((with_reducible refine gate_dst (N := 12) rfl ?_); refine box_event ?hg (N := 12) ?hd (cs := #[.int .i64 0]) (t := 3) ?hr ?_; (case hd => rfl); (case hg => rfl); (case hr => first | (go_simp; done) | (go_simp; rfl)); intro g4 hg_ w9 hbox_ hb_; have n0_ := Aside0.mk (below_step (by repeat (first | (with_reducible first | exact HB.out | apply below_alloc | apply pw_below_drewN | apply below_drew1 | refine below_set ?_ GEg0.out | refine below_set ?_ GEg1.out | refine below_set ?_ GEg2.out | refine below_set ?_ GEg3.out) | exact HB.out)) hb_); have n1_ := Aside0.mk (blk_below (g := g0) (o := .cells #[.int .i64 a0, .slice A0 l0.length c0] 24 (0, 0)) (by (with_reducible repeat (first | refine blk_drewN ?_ _ | refine blk_drew ?_ | refine blk_alloc ?_ _)); refine blk_far ?_ NBg0_g3.out _; (with_reducible repeat (first | refine blk_drewN ?_ _ | refine blk_drew ?_ | refine blk_alloc ?_ _)); refine blk_far ?_ NBg0_g3.out _; (with_reducible repeat (first | refine blk_drewN ?_ _ | refine blk_drew ?_ | refine blk_alloc ?_ _)); exact BKg0.out) hb_); have n2_ := Aside0.mk (blk_below (g := g1) (o := .cells #[.int .i64 0, .slice none 0 0] 24 (0, 0)) (by (with_reducible repeat (first | refine blk_drewN ?_ _ | refine blk_drew ?_ | refine blk_alloc ?_ _)); refine blk_far ?_ NBg1_g3.out _; (with_reducible repeat (first | refine blk_drewN ?_ _ | refine blk_drew ?_ | refine blk_alloc ?_ _)); refine blk_far ?_ NBg1_g3.out _; (with_reducible repeat (first | refine blk_drewN ?_ _ | refine blk_drew ?_ | refine blk_alloc ?_ _)); exact BKg1.out) hb_); have n3_ := Aside0.mk (blk_below (g := g2) (o := .cells #[.int .i64 (l0.length : Int)] 3 (0, 0)) (by (with_reducible repeat (first | refine blk_drewN ?_ _ | refine blk_drew ?_ | refine blk_alloc ?_ _)); refine blk_far ?_ NBg2_g3.out _; (with_reducible repeat (first | refine blk_drewN ?_ _ | refine blk_drew ?_ | refine blk_alloc ?_ _)); refine blk_far ?_ NBg2_g3.out _; (with_reducible repeat (first | refine blk_drewN ?_ _ | refine blk_drew ?_ | refine blk_alloc ?_ _)); exact BKg2.out) hb_); have n4_ := Aside0.mk (blk_below (g := g3) (o := .cells #[.int .i64 R, .slice none 0 0] 24 (0, 0)) (by (with_reducible repeat (first | refine blk_drewN ?_ _ | refine blk_drew ?_ | refine blk_alloc ?_ _)); refine blk_put (cs := #[.int .i64 R, .slice none 0 0]) ?_ 1 _ rfl; (with_reducible repeat (first | refine blk_drewN ?_ _ | refine blk_drew ?_ | refine blk_alloc ?_ _)); refine blk_put (cs := #[.int .i64 0, .slice none 0 0]) ?_ 0 _ rfl; (with_reducible repeat (first | refine blk_drewN ?_ _ | refine blk_drew ?_ | refine blk_alloc ?_ _)); exact BKg3.out) hb_); have n5_ := Aside0.mk (hbox_); have n6_ : Aside0 (w.heap.size ≤ g4) := ⟨by rw [hg_]; exact (below_size (by repeat (first | (with_reducible first | exact HB.out | apply below_alloc | apply pw_below_drewN | apply below_drew1 | refine below_set ?_ GEg0.out | refine below_set ?_ GEg1.out | refine below_set ?_ GEg2.out | refine below_set ?_ GEg3.out) | exact HB.out)))⟩; have NBg0_g4 : Aside0 (g0 ≠ g4) := ⟨by rw [hg_]; exact Nat.ne_of_lt (blk_lt (o := .cells #[.int .i64 a0, .slice A0 l0.length c0] 24 (0, 0)) (by (with_reducible repeat (first | refine blk_drewN ?_ _ | refine blk_drew ?_ | refine blk_alloc ?_ _)); refine blk_far ?_ NBg0_g3.out _; (with_reducible repeat (first | refine blk_drewN ?_ _ | refine blk_drew ?_ | refine blk_alloc ?_ _)); refine blk_far ?_ NBg0_g3.out _; (with_reducible repeat (first | refine blk_drewN ?_ _ | refine blk_drew ?_ | refine blk_alloc ?_ _)); exact BKg0.out))⟩; have NBg4_g0 : Aside0 (g4 ≠ g0) := ⟨NBg0_g4.out.symm⟩; have hx29 := NBg0_g4.out; have hy29 := NBg4_g0.out; have NBg1_g4 : Aside0 (g1 ≠ g4) := ⟨by rw [hg_]; exact Nat.ne_of_lt (blk_lt (o := .cells #[.int .i64 0, .slice none 0 0] 24 (0, 0)) (by (with_reducible repeat (first | refine blk_drewN ?_ _ | refine blk_drew ?_ | refine blk_alloc ?_ _)); refine blk_far ?_ NBg1_g3.out _; (with_reducible repeat (first | refine blk_drewN ?_ _ | refine blk_drew ?_ | refine blk_alloc ?_ _)); refine blk_far ?_ NBg1_g3.out _; (with_reducible repeat (first | refine blk_drewN ?_ _ | refine blk_drew ?_ | refine blk_alloc ?_ _)); exact BKg1.out))⟩; have NBg4_g1 : Aside0 (g4 ≠ g1) := ⟨NBg1_g4.out.symm⟩; have hx30 := NBg1_g4.out; have hy30 := NBg4_g1.out; have NBg2_g4 : Aside0 (g2 ≠ g4) := ⟨by rw [hg_]; exact Nat.ne_of_lt (blk_lt (o := .cells #[.int .i64 (l0.length : Int)] 3 (0, 0)) (by (with_reducible repeat (first | refine blk_drewN ?_ _ | refine blk_drew ?_ | refine blk_alloc ?_ _)); refine blk_far ?_ NBg2_g3.out _; (with_reducible repeat (first | refine blk_drewN ?_ _ | refine blk_drew ?_ | refine blk_alloc ?_ _)); refine blk_far ?_ NBg2_g3.out _; (with_reducible repeat (first | refine blk_drewN ?_ _ | refine blk_drew ?_ | refine blk_alloc ?_ _)); exact BKg2.out))⟩; have NBg4_g2 : Aside0 (g4 ≠ g2) := ⟨NBg2_g4.out.symm⟩; have hx31 := NBg2_g4.out; have hy31 := NBg4_g2.out; have NBg3_g4 : Aside0 (g3 ≠ g4) := ⟨by rw [hg_]; exact Nat.ne_of_lt (blk_lt (o := .cells #[.int .i64 R, .slice none 0 0] 24 (0, 0)) (by (with_reducible repeat (first | refine blk_drewN ?_ _ | refine blk_drew ?_ | refine blk_alloc ?_ _)); refine blk_put (cs := #[.int .i64 R, .slice none 0 0]) ?_ 1 _ rfl; (with_reducible repeat (first | refine blk_drewN ?_ _ | refine blk_drew ?_ | refine blk_alloc ?_ _)); refine blk_put (cs := #[.int .i64 0, .slice none 0 0]) ?_ 0 _ rfl; (with_reducible repeat (first | refine blk_drewN ?_ _ | refine blk_drew ?_ | refine blk_alloc ?_ _)); exact BKg3.out))⟩; have NBg4_g3 : Aside0 (g4 ≠ g3) := ⟨NBg3_g4.out.symm⟩; have hx32 := NBg3_g4.out; have hy32 := NBg4_g3.out; clear HB BKg0 BKg1 BKg2 BKg3; have HB := n0_; have BKg0 := n1_; have BKg1 := n2_; have BKg2 := n3_; have BKg3 := n4_; have BKg4 := n5_; have GEg4 := n6_; clear n0_ n1_ n2_ n3_ n4_ n5_ n6_; have hc33 : w9.cell? ⟨g0, 0, none⟩ = some (.int .i64 a0) := (blk_cell BKg0.out 0).trans rfl; have hf33 := blk_frozen BKg0.out 0; have hc34 : w9.cell? ⟨g0, 1, none⟩ = some (.slice A0 l0.length c0) := (blk_cell BKg0.out 1).trans rfl; have hf34 := blk_frozen BKg0.out 1; have hc35 : w9.cell? ⟨g1, 0, none⟩ = some (.int .i64 0) := (blk_cell BKg1.out 0).trans rfl; have hf35 := blk_frozen BKg1.out 0; have hc36 : w9.cell? ⟨g1, 1, none⟩ = some (.slice none 0 0) := (blk_cell BKg1.out 1).trans rfl; have hf36 := blk_frozen BKg1.out 1; have hc37 : w9.cell? ⟨g2, 0, none⟩ = some (.int .i64 (l0.length : Int)) := (blk_cell BKg2.out 0).trans rfl; have hf37 := blk_frozen BKg2.out 0; have hc38 : w9.cell? ⟨g3, 0, none⟩ = some (.int .i64 R) := (blk_cell BKg3.out 0).trans rfl; have hf38 := blk_frozen BKg3.out 0; have hc39 : w9.cell? ⟨g3, 1, none⟩ = some (.slice none 0 0) := (blk_cell BKg3.out 1).trans rfl; have hf39 := blk_frozen BKg3.out 1; have hc40 : w9.cell? ⟨g4, 0, none⟩ = some (.int .i64 0) := (blk_cell BKg4.out 0).trans rfl; have hf40 := blk_frozen BKg4.out 0; clear hb_ hbox_ hg_))
  clear q0
  go_loopw [94] (fun v94 wr => ∃ (j : Nat) (u1 : Value), j ≤ m ∧ v94 = .int .i64 j ∧ Aside0 (Kd.R (Kd.int .i64) 3 wr w.heap.size (fun q => q ≠ g2 ∧ q ≠ g4) u1 (resPart l0 u d k j)) ∧ Aside0 (wr.heap[g0]? = some (.cells #[.int .i64 a0, .slice A0 l0.length c0] 24 (0, 0))) ∧ Aside0 (wr.heap[g1]? = some (.cells #[.int .i64 0, .slice none 0 0] 24 (0, 0))) ∧ Aside0 (wr.heap[g2]? = some (.cells #[.int .i64 (l0.length : Int)] 3 (0, 0))) ∧ Aside0 (wr.heap[g3]? = some (.cells #[.int .i64 R, u1] 24 (0, 0))) ∧ Aside0 (wr.heap[g4]? = some (.cells #[.int .i64 (k : Int)] 3 (0, 0))) ∧ Aside0 (Below w.heap.size w wr)) (fun v94 _ => m - (intOf v94).toNat)
  case atStart => exact ⟨0, _, Nat.zero_le _, rfl, ⟨Kd.R_nil _ _ _ _ _⟩, ⟨(by (with_reducible repeat (first | refine blk_drewN ?_ _ | refine blk_drew ?_ | refine blk_alloc ?_ _)); refine blk_far ?_ NBg0_g4.out _; (with_reducible repeat (first | refine blk_drewN ?_ _ | refine blk_drew ?_ | refine blk_alloc ?_ _)); exact BKg0.out)⟩, ⟨(by (with_reducible repeat (first | refine blk_drewN ?_ _ | refine blk_drew ?_ | refine blk_alloc ?_ _)); refine blk_far ?_ NBg1_g4.out _; (with_reducible repeat (first | refine blk_drewN ?_ _ | refine blk_drew ?_ | refine blk_alloc ?_ _)); exact BKg1.out)⟩, ⟨(by (with_reducible repeat (first | refine blk_drewN ?_ _ | refine blk_drew ?_ | refine blk_alloc ?_ _)); refine blk_far ?_ NBg2_g4.out _; (with_reducible repeat (first | refine blk_drewN ?_ _ | refine blk_drew ?_ | refine blk_alloc ?_ _)); exact BKg2.out)⟩, ⟨(by (with_reducible repeat (first | refine blk_drewN ?_ _ | refine blk_drew ?_ | refine blk_alloc ?_ _)); refine blk_far ?_ NBg3_g4.out _; (with_reducible repeat (first | refine blk_drewN ?_ _ | refine blk_drew ?_ | refine blk_alloc ?_ _)); exact BKg3.out)⟩, ⟨(by (with_reducible repeat (first | refine blk_drewN ?_ _ | refine blk_drew ?_ | refine blk_alloc ?_ _)); refine blk_put (cs := #[.int .i64 0]) ?_ 0 _ rfl; (with_reducible repeat (first | refine blk_drewN ?_ _ | refine blk_drew ?_ | refine blk_alloc ?_ _)); exact BKg4.out)⟩, ⟨(by repeat (first | (with_reducible first | exact HB.out | apply below_alloc | apply pw_below_drewN | apply below_drew1 | refine below_set ?_ GEg0.out | refine below_set ?_ GEg1.out | refine below_set ?_ GEg2.out | refine below_set ?_ GEg3.out | refine below_set ?_ GEg4.out) | exact HB.out))⟩⟩
  case round =>
    clear BKg0 BKg1 BKg2 BKg3 BKg4 HB
    obtain ⟨j, u1, hj, rfl, HOu, BKg0, BKg1, BKg2, BKg3, BKg4, HB⟩ := hrel
    obtain ⟨Au, cu, eu⟩ := Kd.R_slice HOu.out
    subst eu
    by_cases hlt : j < m
    · have hpos := HN.out (by omega)
      have pj0 : 0 ≤ (j : Int) * d := Int.mul_nonneg (by omega) (by omega)
      have pj1 : (j : Int) * d ≤ 200000 * 16 := Int.mul_le_mul (by omega) (by omega) (by omega) (by omega)
      have pw : IntKind.i64.wrap ((j : Int) * d) = (j : Int) * d := IntWalk.i64_in _ (by omega)
      obtain ⟨i, Hi⟩ : ∃ i : Nat, Aside0 (i = j * d / u) := ⟨_, ⟨rfl⟩⟩
      obtain ⟨f, Hf⟩ : ∃ f : Nat, Aside0 (f = j * d % u) := ⟨_, ⟨rfl⟩⟩
      have hi : (j : Int) * d / u = i := by rw [Hi.out]; push_cast; rfl
      have hf : (j : Int) * d % u = f := by rw [Hf.out]; push_cast; rfl
      have hi2 : i ≤ 4000000 := by
        have h : ((i : Nat) : Int) ≤ (j : Int) * d := by rw [← hi]; exact Int.ediv_le_self _ pj0
        omega
      have hf2 : f ≤ u := by rw [Hf.out]; exact Nat.le_of_lt (Nat.mod_lt _ (by omega))
      have HI := Aside0.mk hi
      have HF := Aside0.mk hf
      clear hi hf
      go_wp2_with fail
      go_quiet (fail)
      go_wp2_with fail
      rw [HI.out, HF.out]
      clear pw pj0 pj1
      have BKg0 := Aside0.mk (blk_drew (blk_drewN BKg0.out nq))
      have BKg1 := Aside0.mk (blk_drew (blk_drewN BKg1.out nq))
      have BKg2 := Aside0.mk (blk_drew (blk_drewN BKg2.out nq))
      have BKg3 := Aside0.mk (blk_drew (blk_drewN BKg3.out nq))
      have BKg4 := Aside0.mk (blk_drew (blk_drewN BKg4.out nq))
      have HB := Aside0.mk (below_drew1 (pw_below_drewN HB.out nq))
      have HOu := Aside0.mk (Kd.R_drew (Kd.R_drewN HOu.out nq))
      have e63 := fun args W => enters_ (P := Try.prog) Try.func63 (by kernel_rfl) rfl args W
      have hS1 := smoothAt_bd HV.out hpos k i hk1
      have hS2 := smoothAt_bd HV.out hpos k (i + 1) hk1
      obtain ⟨S1, HS1⟩ : ∃ x, Aside0 (x = smoothAt l0 k i) := ⟨_, ⟨rfl⟩⟩
      obtain ⟨S2, HS2⟩ : ∃ x, Aside0 (x = smoothAt l0 k (i + 1)) := ⟨_, ⟨rfl⟩⟩
      rw [← HS1.out] at hS1
      rw [← HS2.out] at hS2
      have HA := Aside0.mk (show resAt l0 u d k j = rnd (S1 * ((u : Int) - f) + S2 * f) u by rw [HS1.out, HS2.out, Hi.out, Hf.out]; rfl)
      have m1 : -32768 * 16 ≤ S1 * ((u : Int) - f) ∧ S1 * ((u : Int) - f) ≤ 32768 * 16 := mul_bd hS1.1 hS1.2 (by omega) (by omega)
      have m2 : -32768 * 16 ≤ S2 * (f : Int) ∧ S2 * (f : Int) ≤ 32768 * 16 := mul_bd hS2.1 hS2.2 (by omega) (by omega)
      have hcR : (wr.drewN nq).drew.cell? ⟨g3, 1, none⟩ = some (.slice Au (resPart l0 u d k j).length cu) := (blk_cell BKg3.out 1).trans rfl
      refine start_ (n := 22) (S := fun w' => w'.cell? ⟨g3, 1, none⟩ = some (.slice Au (resPart l0 u d k j).length cu)) (ds := [21]) #[false, false, false, false, false, false, false, false, false, false, false, false, false, false, false, false, false, false, false, false, false, false] (by kernel_rfl) rfl rfl (hcR) (fun hHeld => ?_)
      refine pure_ (i := 0) (N := some 107) (v := ?_) (a' := ?_) #[true, false, false, false, false, false, false, false, false, false, false, false, false, false, false, false, false, false, false, false, false, false] rfl rfl (by kernel_rfl) (fun _ _ _ h => h) (Or.inl ⟨by rfl, ?_⟩) ?_ ?_
      rotate_left
      · intro w'
        go_simp
        with_reducible rfl
      rotate_left
      · simp only [Act.put, List.setIfInBounds_toArray, List.set_cons_zero, List.set_cons_succ, i64_w, i32_w]
        rfl
      refine pure_ (i := 2) (N := some 109) (v := ?_) (a' := ?_) #[true, false, true, false, false, false, false, false, false, false, false, false, false, false, false, false, false, false, false, false, false, false] rfl rfl (by kernel_rfl) (fun _ _ _ h => h) (Or.inl ⟨by rfl, ?_⟩) ?_ ?_
      rotate_left
      · intro w'
        go_simp
        with_reducible rfl
      rotate_left
      · simp only [Act.put, List.setIfInBounds_toArray, List.set_cons_zero, List.set_cons_succ, i64_w, i32_w]
        rfl
      refine pure_ (i := 3) (N := some 110) (v := ?_) (a' := ?_) #[true, false, true, true, false, false, false, false, false, false, false, false, false, false, false, false, false, false, false, false, false, false] rfl rfl (by kernel_rfl) (fun _ _ _ h => h) (Or.inl ⟨by rfl, ?_⟩) ?_ ?_
      rotate_left
      · intro w'
        go_simp
        with_reducible rfl
      rotate_left
      · simp only [Act.put, List.setIfInBounds_toArray, List.set_cons_zero, List.set_cons_succ, i64_w, i32_w]
        rfl
      refine pure_ (i := 5) (N := some 112) (v := ?_) (a' := ?_) #[true, false, true, true, false, true, false, false, false, false, false, false, false, false, false, false, false, false, false, false, false, false] rfl rfl (by kernel_rfl) (fun _ _ _ h => h) (Or.inl ⟨by rfl, ?_⟩) ?_ ?_
      rotate_left
      · intro w'
        go_simp
        with_reducible rfl
      rotate_left
      · simp only [Act.put, List.setIfInBounds_toArray, List.set_cons_zero, List.set_cons_succ, i64_w, i32_w]
        rfl
      refine pure_ (i := 6) (N := some 113) (v := ?_) (a' := ?_) #[true, false, true, true, false, true, true, false, false, false, false, false, false, false, false, false, false, false, false, false, false, false] rfl rfl (by kernel_rfl) (fun _ _ _ h => h) (Or.inl ⟨by rfl, ?_⟩) ?_ ?_
      rotate_left
      · intro w'
        go_simp
        with_reducible rfl
      rotate_left
      · simp only [Act.put, List.setIfInBounds_toArray, List.set_cons_zero, List.set_cons_succ, i64_w, i32_w]
        rfl
      refine pure_ (i := 7) (N := some 114) (v := ?_) (a' := ?_) #[true, false, true, true, false, true, true, true, false, false, false, false, false, false, false, false, false, false, false, false, false, false] rfl rfl (by kernel_rfl) (fun _ _ _ h => h) (Or.inl ⟨by rfl, ?_⟩) ?_ ?_
      rotate_left
      · intro w'
        go_simp
        with_reducible rfl
      rotate_left
      · simp only [Act.put, List.setIfInBounds_toArray, List.set_cons_zero, List.set_cons_succ, i64_w, i32_w]
        rfl
      refine pure_ (i := 9) (N := some 116) (v := ?_) (a' := ?_) #[true, false, true, true, false, true, true, true, false, true, false, false, false, false, false, false, false, false, false, false, false, false] rfl rfl (by kernel_rfl) (fun _ _ _ h => h) (Or.inl ⟨by rfl, ?_⟩) ?_ ?_
      rotate_left
      · intro w'
        go_simp
        with_reducible rfl
      rotate_left
      · simp only [Act.put, List.setIfInBounds_toArray, List.set_cons_zero, List.set_cons_succ, i64_w, i32_w]
        rfl
      refine pure_ (i := 10) (N := some 117) (v := ?_) (a' := ?_) #[true, false, true, true, false, true, true, true, false, true, true, false, false, false, false, false, false, false, false, false, false, false] rfl rfl (by kernel_rfl) (fun _ _ _ h => h) (Or.inl ⟨by rfl, ?_⟩) ?_ ?_
      rotate_left
      · intro w'
        go_simp
        with_reducible rfl
      rotate_left
      · simp only [Act.put, List.setIfInBounds_toArray, List.set_cons_zero, List.set_cons_succ, i64_w, i32_w]
        rfl
      refine pure_ (i := 11) (N := some 118) (v := ?_) (a' := ?_) #[true, false, true, true, false, true, true, true, false, true, true, true, false, false, false, false, false, false, false, false, false, false] rfl rfl (by kernel_rfl) (fun _ _ _ h => h) (Or.inl ⟨by rfl, ?_⟩) ?_ ?_
      rotate_left
      · intro w'
        go_simp
        with_reducible rfl
      rotate_left
      · simp only [Act.put, List.setIfInBounds_toArray, List.set_cons_zero, List.set_cons_succ, i64_w, i32_w]
        rfl
      refine pure_ (i := 13) (N := some 120) (v := ?_) (a' := ?_) #[true, false, true, true, false, true, true, true, false, true, true, true, false, true, false, false, false, false, false, false, false, false] rfl rfl (by kernel_rfl) (fun _ _ _ h => h) (Or.inl ⟨by rfl, ?_⟩) ?_ ?_
      rotate_left
      · intro w'
        go_simp
        with_reducible rfl
      rotate_left
      · simp only [Act.put, List.setIfInBounds_toArray, List.set_cons_zero, List.set_cons_succ, i64_w, i32_w]
        rfl
      refine pure_ (i := 16) (N := some 123) (v := ?_) (a' := ?_) #[true, false, true, true, false, true, true, true, false, true, true, true, false, true, false, false, true, false, false, false, false, false] rfl rfl (by kernel_rfl) (fun _ _ _ h => h) (Or.inl ⟨by rfl, ?_⟩) ?_ ?_
      rotate_left
      · intro w'
        go_simp
        with_reducible rfl
      rotate_left
      · simp only [Act.put, List.setIfInBounds_toArray, List.set_cons_zero, List.set_cons_succ, i64_w, i32_w]
        rfl
      refine take_ (i := 1) (N := some 108) (v := ?_) (a' := ?_) #[true, true, true, true, false, true, true, true, false, true, true, true, false, true, false, false, true, false, false, false, false, false] rfl rfl (by kernel_rfl) (fun _ _ _ h => h) (Or.inl ⟨by rfl, ?_⟩) hHeld ?_ ?_
      rotate_left
      · intro w' s0
        go_simp
        with_reducible rfl
      rotate_left
      · simp only [Act.put, List.setIfInBounds_toArray, List.set_cons_zero, List.set_cons_succ, i64_w, i32_w]
        rfl
      refine one_ (i := 4) (N := some 111) #[true, true, true, true, true, true, true, true, false, true, true, true, false, true, false, false, true, false, false, false, false, false] rfl rfl (by kernel_rfl) (by decide) (fun K hK => ?_)
      refine call_ 63 #[.int .i64 i, .pointer (some ⟨g4, 0, none⟩), .pointer (some ⟨g0, 0, none⟩), .pointer (some ⟨g2, 0, none⟩)] (by rfl) rfl (by first | (go_simp; done) | (go_simp; rfl)) ?_
      skip
      refine (smooth_still l0 A0 c0 i k g4 g0 g2 _ (Kd.C_below HR0.out HB.out) HV.out hpos (by omega) hk1 (by omega) (by omega) ((blk_cell BKg4.out 0).trans rfl) ((blk_cell BKg0.out 1).trans rfl) ((blk_cell BKg2.out 0).trans rfl)).mono ?_
      rintro e w' ⟨rfl, rfl⟩
      rw [← HS1.out]
      refine ⟨_, rfl, ?_⟩
      refine hK.out _ _ ((blk_cell BKg3.out 1).trans rfl) (fun hHeld => ?_)
      clear hK K
      refine norm_ (a' := ?_) ?_ ?_
      rotate_left
      · show Act.put _ (some 111) _ = _
        simp only [Act.put, List.setIfInBounds_toArray, List.set_cons_zero, List.set_cons_succ, i64_w, i32_w]
        rfl
      refine pure_ (i := 8) (N := some 115) (v := ?_) (a' := ?_) #[true, true, true, true, true, true, true, true, true, true, true, true, false, true, false, false, true, false, false, false, false, false] rfl rfl (by kernel_rfl) (fun _ _ _ h => h) (Or.inl ⟨by rfl, ?_⟩) ?_ ?_
      rotate_left
      · intro w'
        go_simp
        with_reducible rfl
      rotate_left
      · simp only [Act.put, List.setIfInBounds_toArray, List.set_cons_zero, List.set_cons_succ, i64_w, i32_w]
        rfl
      refine one_ (i := 12) (N := some 119) #[true, true, true, true, true, true, true, true, true, true, true, true, true, true, false, false, true, false, false, false, false, false] rfl rfl (by kernel_rfl) (by decide) (fun K hK => ?_)
      refine call_ 63 #[.int .i64 (wrap64 ((i : Int) + 1)), .pointer (some ⟨g4, 0, none⟩), .pointer (some ⟨g0, 0, none⟩), .pointer (some ⟨g2, 0, none⟩)] (by rfl) rfl (by first | (go_simp; done) | (go_simp; rfl)) ?_
      rw [show wrap64 ((i : Int) + 1) = ((i + 1 : Nat) : Int) from (w64 (by omega) (by omega)).trans (by omega)]
      refine (smooth_still l0 A0 c0 (i + 1) k g4 g0 g2 _ (Kd.C_below HR0.out HB.out) HV.out hpos (by omega) hk1 (by omega) (by omega) ((blk_cell BKg4.out 0).trans rfl) ((blk_cell BKg0.out 1).trans rfl) ((blk_cell BKg2.out 0).trans rfl)).mono ?_
      rintro e w' ⟨rfl, rfl⟩
      rw [← HS2.out]
      refine ⟨_, rfl, ?_⟩
      refine hK.out _ _ ((blk_cell BKg3.out 1).trans rfl) (fun hHeld => ?_)
      clear hK K
      refine norm_ (a' := ?_) ?_ ?_
      rotate_left
      · show Act.put _ (some 119) _ = _
        simp only [Act.put, List.setIfInBounds_toArray, List.set_cons_zero, List.set_cons_succ, i64_w, i32_w]
        rfl
      refine pure_ (i := 14) (N := some 121) (v := ?_) (a' := ?_) #[true, true, true, true, true, true, true, true, true, true, true, true, true, true, true, false, true, false, false, false, false, false] rfl rfl (by kernel_rfl) (fun _ _ _ h => h) (Or.inl ⟨by rfl, ?_⟩) ?_ ?_
      rotate_left
      · intro w'
        go_simp
        with_reducible rfl
      rotate_left
      · simp only [Act.put, List.setIfInBounds_toArray, List.set_cons_zero, List.set_cons_succ, i64_w, i32_w]
        rfl
      refine pure_ (i := 15) (N := some 122) (v := ?_) (a' := ?_) #[true, true, true, true, true, true, true, true, true, true, true, true, true, true, true, true, true, false, false, false, false, false] rfl rfl (by kernel_rfl) (fun _ _ _ h => h) (Or.inl ⟨by rfl, ?_⟩) ?_ ?_
      rotate_left
      · intro w'
        go_simp
        with_reducible rfl
      rotate_left
      · simp only [Act.put, List.setIfInBounds_toArray, List.set_cons_zero, List.set_cons_succ, i64_w, i32_w]
        rfl
      refine one_ (i := 17) (N := some 124) #[true, true, true, true, true, true, true, true, true, true, true, true, true, true, true, true, true, true, false, false, false, false] rfl rfl (by kernel_rfl) (by decide) (fun K hK => ?_)
      refine goes_ Try.func64 (by kernel_rfl) rfl #[.int .i64 (wrap64 (wrap64 (S1 * wrap64 ((u : Int) - f)) + wrap64 (S2 * f))), .int .i64 u] (by rfl) rfl rfl (by simp only [List.map_toArray, List.map_cons, List.map_nil]; rfl) ?_
      rw [w64 (x := (u : Int) - f) (by omega) (by omega), w64 (x := S1 * ((u : Int) - f)) (by omega) (by omega), w64 (x := S2 * (f : Int)) (by omega) (by omega), w64 (x := S1 * ((u : Int) - f) + S2 * f) (by omega) (by omega)]
      refine (round_still _ _ _ (by omega) (by omega) (by omega) (by omega)).mono ?_
      rintro e w' ⟨rfl, rfl⟩
      rw [← HA.out]
      refine ⟨_, rfl, ?_⟩
      refine hK.out _ _ ((blk_cell BKg3.out 1).trans rfl) (fun hHeld => ?_)
      clear hK K
      refine norm_ (a' := ?_) ?_ ?_
      rotate_left
      · show Act.put _ (some 124) _ = _
        simp only [Act.put, List.setIfInBounds_toArray, List.set_cons_zero, List.set_cons_succ, i64_w, i32_w]
        rfl
      refine one_ (i := 18) (N := some 125) #[true, true, true, true, true, true, true, true, true, true, true, true, true, true, true, true, true, true, true, false, false, false] rfl rfl (by kernel_rfl) (by decide) (fun K hK => ?_)
      refine value_ (w1 := ?_) (v := ?_) (by rfl) rfl ?_ ?_
      rotate_left 2
      · go_simp
        constructor
        · rfl
        · rfl
      refine hK.out _ _ ((blk_cell (blk_alloc BKg3.out _) 1).trans rfl) (fun hHeld => ?_)
      clear hK K
      refine norm_ (a' := ?_) ?_ ?_
      rotate_left
      · show Act.put _ (some 125) _ = _
        simp only [Act.put, List.setIfInBounds_toArray, List.set_cons_zero, List.set_cons_succ, i64_w, i32_w]
        rfl
      refine one_ (i := 19) (N := some 126) #[true, true, true, true, true, true, true, true, true, true, true, true, true, true, true, true, true, true, true, true, false, false] rfl rfl (by kernel_rfl) (by decide) (fun K hK => ?_)
      refine Kd.R_append_step (Kd.int .i64) (w0 := w) w.heap.size (by rfl) (.tmp 108) (.tmp 125) 22 3 (.int .i64 0) 8 rfl Try.underlying22 info3 rfl (by decide) (by omega) _ (resPart l0 u d k j) (resAt l0 u d k j) [.int .i64 (resAt l0 u d k j)] (fun q => q ≠ g2 ∧ q ≠ g4) (fun _ => False) rfl rfl ?aP (fun _ hk => hk.elim) ?aF ?aO ?aB ?aS ?aL ?_
      (case aP => exact rfl)
      (case aB => exact HB.out)
      (case aF => exact (fun q hq => ⟨Nat.ne_of_gt (Nat.lt_of_lt_of_le (blk_lt BKg2.out) hq), Nat.ne_of_gt (Nat.lt_of_lt_of_le (blk_lt BKg4.out) hq)⟩))
      (case aO => exact HOu.out)
      (case aS => exact HB.out.size)
      (case aL => have := resPart_length l0 u d k j; omega)
      intro v222 w49 ho hb hg hat
      rw [← resPart_succ] at ho
      have BKg0 := Aside0.mk (blk_grown BKg0.out hg (Kd.R_ne HOu.out BKg0.out (by decide)))
      have BKg1 := Aside0.mk (blk_grown BKg1.out hg (Kd.R_ne HOu.out BKg1.out (by decide)))
      have BKg2 := Aside0.mk (blk_grown BKg2.out hg (fun e_ => (HOu.out.1 g2 e_.symm).1 rfl))
      have BKg3 := Aside0.mk (blk_grown BKg3.out hg (Kd.R_ne HOu.out BKg3.out (by decide)))
      have BKg4 := Aside0.mk (blk_grown BKg4.out hg (fun e_ => (HOu.out.1 g4 e_.symm).2 rfl))
      clear HOu
      have HOu := Aside0.mk ho
      have HB := Aside0.mk hb
      clear ho hb hg hat
      obtain ⟨Av, cv, ev⟩ := Kd.R_slice HOu.out
      subst ev
      refine hK.out _ _ ((blk_cell BKg3.out 1).trans rfl) (fun hHeld => ?_)
      clear hK K
      refine norm_ (a' := ?_) ?_ ?_
      rotate_left
      · show Act.put _ (some 126) _ = _
        simp only [Act.put, List.setIfInBounds_toArray, List.set_cons_zero, List.set_cons_succ, i64_w, i32_w]
        rfl
      refine pure_ (i := 20) (N := some 127) (v := ?_) (a' := ?_) #[true, true, true, true, true, true, true, true, true, true, true, true, true, true, true, true, true, true, true, true, true, false] rfl rfl (by kernel_rfl) (fun _ _ _ h => h) (Or.inl ⟨by rfl, ?_⟩) ?_ ?_
      rotate_left
      · intro w'
        go_simp
        with_reducible rfl
      rotate_left
      · simp only [Act.put, List.setIfInBounds_toArray, List.set_cons_zero, List.set_cons_succ, i64_w, i32_w]
        rfl
      refine last_ (i := 21) (N := none) #[true, true, true, true, true, true, true, true, true, true, true, true, true, true, true, true, true, true, true, true, true, true] rfl rfl (by kernel_rfl) (by decide) (fun K hK => ?_)
      have hs51 := (blk_cell BKg3.out 1)
      have hfs51 := blk_frozen BKg3.out 1
      refine skip_ (w1 := ?_) (by rfl) rfl ?_ ?_
      rotate_left
      · go_simp
        rfl
      refine hK.out _ _ ?_
      clear hK K
      refine done_ (by kernel_rfl) ?_

      try go_wp2
      go_roundw
      case rel => exact ⟨j + 1, .slice Av (resPart l0 u d k (j + 1)).length cv, by omega, by go_num, ⟨Kd.R_mono (Kd.R_far (p := ⟨g3, 1, none⟩) (Kd.R_types HOu.out BKg3.out (by decide)) (fun _ hk => hk.2) _) (fun _ hk => hk.1)⟩, ⟨(by (with_reducible repeat (first | refine blk_drewN ?_ _ | refine blk_drew ?_ | refine blk_alloc ?_ _)); refine blk_far ?_ NBg0_g3.out _; (with_reducible repeat (first | refine blk_drewN ?_ _ | refine blk_drew ?_ | refine blk_alloc ?_ _)); exact BKg0.out)⟩, ⟨(by (with_reducible repeat (first | refine blk_drewN ?_ _ | refine blk_drew ?_ | refine blk_alloc ?_ _)); refine blk_far ?_ NBg1_g3.out _; (with_reducible repeat (first | refine blk_drewN ?_ _ | refine blk_drew ?_ | refine blk_alloc ?_ _)); exact BKg1.out)⟩, ⟨(by (with_reducible repeat (first | refine blk_drewN ?_ _ | refine blk_drew ?_ | refine blk_alloc ?_ _)); refine blk_far ?_ NBg2_g3.out _; (with_reducible repeat (first | refine blk_drewN ?_ _ | refine blk_drew ?_ | refine blk_alloc ?_ _)); exact BKg2.out)⟩, ⟨(by (with_reducible repeat (first | refine blk_drewN ?_ _ | refine blk_drew ?_ | refine blk_alloc ?_ _)); refine blk_put (cs := #[.int .i64 R, .slice Au (resPart l0 u d k j).length cu]) ?_ 1 _ rfl; (with_reducible repeat (first | refine blk_drewN ?_ _ | refine blk_drew ?_ | refine blk_alloc ?_ _)); exact BKg3.out)⟩, ⟨(by (with_reducible repeat (first | refine blk_drewN ?_ _ | refine blk_drew ?_ | refine blk_alloc ?_ _)); refine blk_far ?_ NBg4_g3.out _; (with_reducible repeat (first | refine blk_drewN ?_ _ | refine blk_drew ?_ | refine blk_alloc ?_ _)); exact BKg4.out)⟩, ⟨(by repeat (first | (with_reducible first | exact HB.out | apply below_alloc | apply pw_below_drewN | apply below_drew1 | refine below_set ?_ GEg0.out | refine below_set ?_ GEg1.out | refine below_set ?_ GEg2.out | refine below_set ?_ GEg3.out | refine below_set ?_ GEg4.out) | exact HB.out))⟩⟩
      case measure => simp [intOf]; omega
    · obtain rfl : j = m := by omega
      have hcg0_0 : wr.cell? ⟨g0, 0, none⟩ = some (.int .i64 a0) := (blk_cell BKg0.out 0).trans rfl
      have hfg0_0 := blk_frozen BKg0.out 0
      have hcg0_1 : wr.cell? ⟨g0, 1, none⟩ = some (.slice A0 l0.length c0) := (blk_cell BKg0.out 1).trans rfl
      have hfg0_1 := blk_frozen BKg0.out 1
      have hcg1_0 : wr.cell? ⟨g1, 0, none⟩ = some (.int .i64 0) := (blk_cell BKg1.out 0).trans rfl
      have hfg1_0 := blk_frozen BKg1.out 0
      have hcg1_1 : wr.cell? ⟨g1, 1, none⟩ = some (.slice none 0 0) := (blk_cell BKg1.out 1).trans rfl
      have hfg1_1 := blk_frozen BKg1.out 1
      have hcg2_0 : wr.cell? ⟨g2, 0, none⟩ = some (.int .i64 (l0.length : Int)) := (blk_cell BKg2.out 0).trans rfl
      have hfg2_0 := blk_frozen BKg2.out 0
      have hcg3_0 : wr.cell? ⟨g3, 0, none⟩ = some (.int .i64 R) := (blk_cell BKg3.out 0).trans rfl
      have hfg3_0 := blk_frozen BKg3.out 0
      have hcg3_1 : wr.cell? ⟨g3, 1, none⟩ = some (.slice Au (resPart l0 u d k j).length cu) := (blk_cell BKg3.out 1).trans rfl
      have hfg3_1 := blk_frozen BKg3.out 1
      have hcg4_0 : wr.cell? ⟨g4, 0, none⟩ = some (.int .i64 (k : Int)) := (blk_cell BKg4.out 0).trans rfl
      have hfg4_0 := blk_frozen BKg4.out 0
      go_wp2
      refine bodyPost_ret (results_ct rfl _ _ g1 24 #[.int .i64 R, .slice Au (resPart l0 u d k j).length cu] (0, 0) _ rfl (by (with_reducible repeat (first | refine blk_drewN ?_ _ | refine blk_drew ?_ | refine blk_alloc ?_ _)); refine blk_put (cs := #[.int .i64 R, .slice none 0 0]) ?_ 1 _ rfl; (with_reducible repeat (first | refine blk_drewN ?_ _ | refine blk_drew ?_ | refine blk_alloc ?_ _)); refine blk_put (cs := #[.int .i64 0, .slice none 0 0]) ?_ 0 _ rfl; (with_reducible repeat (first | refine blk_drewN ?_ _ | refine blk_drew ?_ | refine blk_alloc ?_ _)); exact BKg1.out) Try.underlying24 rfl (by kernel_rfl)) rfl ?_
      exact ⟨_, rfl, Kd.R_mono (Kd.R_far (p := ⟨g1, 1, none⟩) (Kd.R_far (p := ⟨g1, 0, none⟩) (Kd.R_types HOu.out BKg1.out (by decide)) (fun _ hk => hk.2) _) (fun _ hk => hk.2) _) (fun _ _ => trivial), (by repeat (first | (with_reducible first | exact HB.out | apply below_alloc | apply pw_below_drewN | apply below_drew1 | refine below_set ?_ GEg0.out | refine below_set ?_ GEg1.out | refine below_set ?_ GEg2.out | refine below_set ?_ GEg3.out | refine below_set ?_ GEg4.out) | exact HB.out))⟩

theorem recErr_ok {a : Int} {l : List Int} (h : recErr a l = 0) : l.length ≤ 200000 ∧ 1 ≤ a ∧ a ≤ 192000 ∧ ∀ v ∈ l, -32768 ≤ v ∧ v ≤ 32767 := by
  unfold recErr at h
  by_cases h1 : l.length > 200000
  · rw [if_pos h1] at h; omega
  · rw [if_neg h1] at h
    by_cases h2 : a < 1 ∨ a > 192000 ∨ inR (-32768) 32767 l = false
    · rw [if_pos h2] at h; omega
    · have h3 : ¬ a < 1 := fun e => h2 (.inl e)
      have h4 : ¬ a > 192000 := fun e => h2 (.inr (.inl e))
      have h5 : inR (-32768) 32767 l = true := by
        cases e : inR (-32768) 32767 l with
        | true => rfl
        | false => exact absurd (.inr (.inr e)) h2
      exact ⟨by omega, by omega, by omega, inR_mem h5⟩
theorem wave_Resample.calls (a0_0 : Int) (A0_1 : Option Addr) (c0_1 : Nat) (l0_1 : List Int) (a1 : Int) (a2 : Int) (r1 : Int) (r2 : List Int) (r3 : Int) (w : World) (hr0_1 : Kd.C (Kd.int .i64) w A0_1 l0_1.length l0_1) (hc0_1 : l0_1.length ≤ c0_1) (h : wave_Resample.f a0_0 l0_1 a1 a2 = some (r1, r2, r3)) :
    Calls Try.prog 23 #[.agg #[.int .i64 a0_0, .slice A0_1 l0_1.length c0_1], .int .i64 a1, .int .i64 a2] w fun e w' => ∃ v1_ : Value, e = .returned (.tuple #[.agg #[.int .i64 r1, v1_], .int .i64 r3]) ∧ Kd.R (Kd.int .i64) 3 w' w.heap.size (fun _ => True) v1_ r2 ∧ Below w.heap.size w w' := by
  unfold wave_Resample.f at h
  by_cases he : recErr a0_0 l0_1 = 0
  · rw [if_neg (by omega)] at h
    obtain ⟨hl, ha1, ha2, hv⟩ := recErr_ok he
    by_cases hc : a1 < 1 ∨ a1 > 16 ∨ a2 < 1 ∨ a2 > 16 ∨ a0_0 * a1 % a2 ≠ 0 ∨ a0_0 * a1 / a2 < 1 ∨ a0_0 * a1 / a2 > 192000
    · rw [if_pos hc] at h
      simp only [Option.some.injEq, Prod.mk.injEq] at h
      obtain ⟨rfl, rfl, rfl⟩ := h
      by_cases c1 : a1 < 1
      · exact res_a1lo a0_0 A0_1 c0_1 l0_1 a1 a2 w hr0_1 hc0_1 he c1
      by_cases c2 : 16 < a1
      · exact res_a1hi a0_0 A0_1 c0_1 l0_1 a1 a2 w hr0_1 hc0_1 he c2
      by_cases c3 : a2 < 1
      · exact res_a2lo a0_0 A0_1 c0_1 l0_1 a1 a2 w hr0_1 hc0_1 he (by omega) (by omega) c3
      by_cases c4 : 16 < a2
      · exact res_a2hi a0_0 A0_1 c0_1 l0_1 a1 a2 w hr0_1 hc0_1 he (by omega) (by omega) c4
      by_cases c5 : a0_0 * a1 % a2 = 0
      · by_cases c6 : a0_0 * a1 / a2 < 1
        · exact res_low a0_0 A0_1 c0_1 l0_1 a1 a2 w hr0_1 hc0_1 he (by omega) (by omega) (by omega) (by omega) ha1 ha2 c5 c6
        · refine res_high a0_0 A0_1 c0_1 l0_1 a1 a2 w hr0_1 hc0_1 he (by omega) (by omega) (by omega) (by omega) ha1 ha2 c5 ?_
          rcases hc with h | h | h | h | h | h | h
          · omega
          · omega
          · omega
          · omega
          · exact absurd c5 h
          · omega
          · omega
      · exact res_rem a0_0 A0_1 c0_1 l0_1 a1 a2 w hr0_1 hc0_1 he (by omega) (by omega) (by omega) (by omega) ha1 ha2 c5
    · rw [if_neg hc] at h
      have c1 : 1 ≤ a1 := Int.not_lt.1 (fun e => hc (.inl e))
      have c2 : a1 ≤ 16 := Int.not_lt.1 (fun e => hc (.inr (.inl e)))
      have c3 : 1 ≤ a2 := Int.not_lt.1 (fun e => hc (.inr (.inr (.inl e))))
      have c4 : a2 ≤ 16 := Int.not_lt.1 (fun e => hc (.inr (.inr (.inr (.inl e)))))
      have c5 : a0_0 * a1 % a2 = 0 := Decidable.not_not.1 (fun e => hc (.inr (.inr (.inr (.inr (.inl e))))))
      have c6 : 1 ≤ a0_0 * a1 / a2 := Int.not_lt.1 (fun e => hc (.inr (.inr (.inr (.inr (.inr (.inl e)))))))
      have c7 : a0_0 * a1 / a2 ≤ 192000 := Int.not_lt.1 (fun e => hc (.inr (.inr (.inr (.inr (.inr (.inr e)))))))
      by_cases hm : ((l0_1.length : Int) * a1 + a2 - 1) / a2 > 200000
      · rw [if_pos hm] at h
        simp only [Option.some.injEq, Prod.mk.injEq] at h
        obtain ⟨rfl, rfl, rfl⟩ := h
        exact res_long a0_0 A0_1 c0_1 l0_1 a1 a2 w hr0_1 hc0_1 he c1 c2 c3 c4 ha1 ha2 hl c5 c6 c7 hm
      · rw [if_neg hm] at h
        simp only [Option.some.injEq, Prod.mk.injEq] at h
        obtain ⟨rfl, rfl, rfl⟩ := h
        obtain ⟨u, rfl⟩ := Int.eq_ofNat_of_zero_le (show 0 ≤ a1 by omega)
        obtain ⟨d, rfl⟩ := Int.eq_ofNat_of_zero_le (show 0 ≤ a2 by omega)
        have hq : 0 ≤ ((l0_1.length : Int) * u + d - 1) / d := Int.ediv_nonneg (by have := Int.mul_nonneg (show (0 : Int) ≤ l0_1.length by omega) (show (0 : Int) ≤ u by omega); omega) (by omega)
        obtain ⟨m, hm2⟩ := Int.eq_ofNat_of_zero_le hq
        rw [hm2] at hm ⊢
        rw [Int.toNat_natCast, Int.toNat_natCast, Int.toNat_natCast]
        have hk0 : ((d : Int) + u - 1) / u = (((d + u - 1) / u : Nat) : Int) := by
          have e : ((d : Int) + u - 1) = ((d + u - 1 : Nat) : Int) := by omega
          rw [e]; push_cast; rfl
        have hk1 : 1 ≤ (d + u - 1) / u := (Nat.le_div_iff_mul_le (by omega)).2 (by omega)
        have hk2 : (d + u - 1) / u ≤ d + u - 1 := Nat.div_le_self _ _
        refine res_good a0_0 A0_1 c0_1 l0_1 u d ((d + u - 1) / u) m _ w hr0_1 hc0_1 he hv hl (by omega) (by omega) (by omega) (by omega) ha1 ha2 c5 rfl c6 c7 hk0 hk1 (by omega) hm2 (by omega) ?_
        intro hne
        rcases Nat.eq_zero_or_pos l0_1.length with h0 | h0
        · rw [h0] at hm2
          have e : (((0 : Nat) : Int) * u + d - 1) / d = 0 := Int.ediv_eq_zero_of_lt (by omega) (by omega)
          rw [e] at hm2
          omega
        · exact h0
  · rw [if_pos he] at h
    simp only [Option.some.injEq, Prod.mk.injEq] at h
    obtain ⟨rfl, rfl, rfl⟩ := h
    exact res_err a0_0 A0_1 c0_1 l0_1 a1 a2 w hr0_1 hc0_1 he
end Go.Proofs.Ytigbfcodnbnicaa.P
