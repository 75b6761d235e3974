/- The reference's Pack: the bytes of a recording; for every valid recording. -/
import Derived.Test.YtigbfcodnbnicaaHSum
import Derived.Lib.SliceRun
import Derived.Lib.SmallJoins
import Derived.Lib.SlBytesConst
import Derived.ArgAppend
import Derived.Test.YtigbfcodnbnicaaXF86
import Derived.Test.YtigbfcodnbnicaaXF87
set_option linter.unusedVariables false
set_option linter.unusedSimpArgs false
namespace Go.Proofs.Ytigbfcodnbnicaa.P
open Go.RowKit Go.Proofs.YtigbfcodnbnicaaW.PrintWords Go.Proofs.YtigbfcodnbnicaaW.PrintLast Go.Proofs.YtigbfcodnbnicaaW.PrintMore
attribute [local go_sem] max2_int min2_int max_two min_two max_three min_three max_four min_four

theorem putR_l0 (m : Nat) (hm : m ≤ 4) : ∀ (d k j : Nat) (n : Int) (out : List Int), 0 ≤ n → n ≤ 4611686018427387904 → j + d = m → d < k → out.length ≤ 4 + j → earshotref02_put.l0 k n m out j = some (out ++ leb n d) := by
  intro d
  induction d with
  | zero =>
    intro k j n out h0 h1 h2 h3 h4
    obtain ⟨k, rfl⟩ : ∃ m, k = m + 1 := ⟨k - 1, by omega⟩
    rw [earshotref02_put.l0, if_neg (show ¬ (j : Int) < (m : Int) by omega)]
    simp [leb]
  | succ d ih =>
    intro k j n out h0 h1 h2 h3 h4
    have ihh := ih (k - 1) (j + 1) (n / 256) (out ++ [n % 256]) (by omega) (by omega) (by omega) (by omega) (by rw [List.length_append]; simp; omega)
    obtain ⟨k, rfl⟩ : ∃ m, k = m + 1 := ⟨k - 1, by omega⟩
    rw [Nat.add_sub_cancel] at ihh
    have e1 : wrap64 (Int.tdiv n 256) = n / 256 := by rw [Int.tdiv_eq_ediv_of_nonneg h0, w64 (by omega) (by omega)]
    have e2 : Int.tmod n 256 % 256 = n % 256 := by rw [Int.tmod_eq_emod_of_nonneg h0]; omega
    rw [earshotref02_put.l0, if_pos (show (j : Int) < (m : Int) by omega), if_pos (show out.length < 140737488355328 by omega), e1, e2, w64 (x := (j : Int) + 1) (by omega) (by omega), show (j : Int) + 1 = ((j + 1 : Nat) : Int) by omega, ihh]
    simp [leb]
theorem putR_eq (n : Int) (m : Nat) (h0 : 0 ≤ n) (h1 : n ≤ 4611686018427387904) (hm : m ≤ 4) : earshotref02_put.f 6 n m = some (leb n m) := by
  unfold earshotref02_put.f
  have := putR_l0 m hm m 6 0 n [] h0 h1 (by omega) (by omega) (by simp)
  rw [List.nil_append] at this
  exact this
theorem putR4 (n : Int) (h0 : 0 ≤ n) (h1 : n ≤ 4611686018427387904) : earshotref02_put.f 6 n 4 = some (leb n 4) := putR_eq n 4 h0 h1 (by decide)
theorem putR2 (n : Int) (h0 : 0 ≤ n) (h1 : n ≤ 4611686018427387904) : earshotref02_put.f 6 n 2 = some (leb n 2) := putR_eq n 2 h0 h1 (by decide)
theorem sumR_l0 (l : List Int) (hl : l.length ≤ 4611686018427387904) (hb : ∀ v ∈ l, 0 ≤ v ∧ v ≤ 255) : ∀ (d k i : Nat) (c : Int), i + d = l.length → d < k → 0 ≤ c → c < 4294967296 → earshotref02_Sum.l0 k l c i = some (sumFrom c (l.drop i)) := by
  intro d
  induction d with
  | zero =>
    intro k i c h1 h2 h3 h4
    obtain ⟨k, rfl⟩ : ∃ m, k = m + 1 := ⟨k - 1, by omega⟩
    rw [earshotref02_Sum.l0, if_neg (show ¬ (i : Int) < (l.length : Int) by omega), List.drop_eq_nil_of_le (by omega)]
    rfl
  | succ d ih =>
    intro k i c h1 h2 h3 h4
    have ihh := fun c => ih (k - 1) (i + 1) c (by omega) (by omega)
    obtain ⟨k, rfl⟩ : ∃ m, k = m + 1 := ⟨k - 1, by omega⟩
    simp only [Nat.add_sub_cancel] at ihh
    have hi : i < l.length := by omega
    have hv := hb _ (List.getElem_mem hi)
    have e1 : rd l (i : Int) = l[i] := by simp [rd, hi]
    have e2 : Int.tmod (65599 * c + l[i] + 1) 4294967296 = (65599 * c + l[i] + 1) % 4294967296 := Int.tmod_eq_emod_of_nonneg (by omega)
    rw [earshotref02_Sum.l0, if_pos (show (i : Int) < (l.length : Int) by omega), if_pos (show 0 ≤ (i : Int) by omega), e1, w64 (x := (i : Int) + 1) (by omega) (by omega), show (i : Int) + 1 = ((i + 1 : Nat) : Int) by omega, w64 (x := 65599 * c) (by omega) (by omega), w64 (x := l[i]) (by omega) (by omega), w64 (x := 65599 * c + l[i]) (by omega) (by omega), w64 (x := 65599 * c + l[i] + 1) (by omega) (by omega), e2, ihh _ (by omega) (by omega), List.drop_eq_getElem_cons hi]
    rfl
theorem sumR_eq (l : List Int) (hl : l.length ≤ 4611686018427387904) (hb : ∀ v ∈ l, 0 ≤ v ∧ v ≤ 255) (k : Nat) (hk : l.length < k) : earshotref02_Sum.f k l = some (sumB l) := by
  unfold earshotref02_Sum.f
  have := sumR_l0 l hl hb l.length k 0 1 (by omega) hk (by omega) (by omega)
  rw [List.drop_zero] at this
  exact this
theorem reps_u8 (w : World) (base : Nat) (ok : Nat → Prop) : ∀ ps : List Int, Reps ((Kd.int .u8).M w base ok) 1 ps (ps.map (Value.int .u8))
  | [] => Reps.none _ _
  | x :: t => Reps.one rfl (reps_u8 w base ok t)
theorem first_row {W w1 : World} {base n : Nat} {v : Value} {ok : Nat → Prop} {ps : List Int} (hb : base ≤ W.heap.size) (hok : ∀ k, W.heap.size ≤ k → ok k) (hn : n = ps.length) (h : w1.ownsRow W.heap.size 5 1 v n (ps.map (Value.int .u8))) : Kd.R (Kd.int .u8) 5 w1 base ok v ps := by
  subst hn
  exact ⟨fun k hk => hok k (own_base h k hk), ps.map (Value.int .u8), own_weaken h hb, reps_u8 w1 base ok ps⟩
theorem cells_u8 {w : World} {ad : Addr} {ps : List Int} (h : Kd.C (Kd.int .u8) w (some ad) ps.length ps) : ∀ j u, (ps.map (Value.int .u8))[j]? = some u → w.cell? (ad.add j) = some u := by
  intro j u hu
  have hj : j < ps.length := by
    have := (List.getElem?_eq_some_iff.1 hu).1
    simpa using this
  obtain ⟨ad', e, hx⟩ := Kd.at_int h j (by omega) (by omega)
  cases e
  rw [Int.toNat_natCast] at hx
  rw [hx]
  rw [List.getElem?_map, List.getElem?_eq_getElem hj] at hu
  simp only [Option.map_some, Option.some.injEq] at hu
  rw [← hu]
  simp [rd, hj]
theorem neg16 {x : Int} (h1 : -32768 ≤ x) (h2 : x < 0) : x + 65536 = x % 65536 := by omega
theorem pos16 {x : Int} (h1 : 0 ≤ x) (h2 : x ≤ 32767) : x = x % 65536 := by omega
def RefPost (r : List Int) (w : World) (e : Ending) (w' : World) : Prop := ∃ v0_ : Value, e = .returned (v0_) ∧ Kd.R (Kd.int .u8) 5 w' w.heap.size (fun _ => True) v0_ r ∧ Below w.heap.size w w'
set_option maxHeartbeats 8000000 in
set_option maxRecDepth 100000 in
theorem refpack_good (a0 : Int) (A0 : Option Addr) (c0 : Nat) (l0 : List Int) (w : World) (hr0 : Kd.C (Kd.int .i64) w A0 l0.length l0) (hc0 : l0.length ≤ c0) (he : recErr a0 l0 = 0) : Calls Try.prog 51 #[.agg #[.int .i64 a0, .slice A0 l0.length c0]] w (RefPost (packB a0 l0) w) := by
  have HR0 := Aside0.mk hr0
  have HC0 := Aside0.mk hc0
  clear hr0 hc0
  have hu24 := Try.underlying24
  have hu50 := Try.underlying50
  have HB := Aside0.mk (Below.refl w.heap.size w)
  obtain ⟨hl, ha1, ha2, hv⟩ := recErr_ok2 he
  have HV := Aside0.mk hv
  clear he hv
  have kc := fun (w : World) (C : Array Value) (n c : Nat) => Lib.run_convert_bytes_const (P := Try.prog) w 50 5 C n c Try.underlying50 Try.underlying5
  obtain ⟨i0, hi, hz0, hz1, hz2⟩ := info_parts info5
  have HI := Aside0.mk (And.intro hi (And.intro hz0 (And.intro hz1 hz2)))
  clear hi hz0 hz1 hz2
  obtain ⟨P1, hp1⟩ : ∃ P1, P1 = leb a0 4 := ⟨_, rfl⟩
  obtain ⟨P2, hp2⟩ : ∃ P2, P2 = leb (l0.length : Int) 4 := ⟨_, rfl⟩
  have LP1 := Aside0.mk (show P1.length = 4 by rw [hp1, leb_length])
  have LP2 := Aside0.mk (show P2.length = 4 by rw [hp2, leb_length])
  have EP1 := Aside0.mk (show earshotref02_put.f 6 a0 4 = some P1 by rw [hp1]; exact putR4 a0 (by omega) (by omega))
  have EP2 := Aside0.mk (show earshotref02_put.f 6 (l0.length : Int) 4 = some P2 by rw [hp2]; exact putR4 _ (by omega) (by omega))
  obtain ⟨y1, hy1⟩ : ∃ y1, y1 = [69, 65, 82, 49] ++ P1 := ⟨_, rfl⟩
  obtain ⟨y2, hy2⟩ : ∃ y2, y2 = hd8 a0 l0.length := ⟨_, rfl⟩
  have HY1 := Aside0.mk hy1
  have HY2 := Aside0.mk hy2
  have Ky1 := Aside0.mk (show y1.length = 8 by rw [hy1, List.length_append, LP1.out]; rfl)
  have HP1 := Aside0.mk hp1
  have HP2 := Aside0.mk hp2
  clear hp1 hp2 hy1 hy2
  go_enter Try.func51, Try.ntmps51
  go_wp2_with (first | ((with_reducible refine gate_dst (N := 1) rfl ?_); refine box_event ?hg (N := 1) ?hd (cs := #[.int .i64 a0, .slice A0 l0.length c0]) (t := 24) ?hr ?_; (case hd => rfl); (case hg => rfl); (case hr => first | (go_simp; done) | (go_simp; rfl)); intro g0 hg_ w1 hbox_ hb_; have n0_ := Aside0.mk (below_step (by repeat (first | (with_reducible first | exact HB.out | apply below_alloc | apply pw_below_drewN | apply below_drew1) | exact HB.out)) hb_); have n1_ := Aside0.mk (hbox_); have n2_ : Aside0 (w.heap.size ≤ g0) := ⟨by rw [hg_]; exact (below_size (by repeat (first | (with_reducible first | exact HB.out | apply below_alloc | apply pw_below_drewN | apply below_drew1) | exact HB.out)))⟩; clear HB; have HB := n0_; have BKg0 := n1_; have GEg0 := n2_; clear n0_ n1_ n2_; have hc1 : w1.cell? ⟨g0, 0, none⟩ = some (.int .i64 a0) := (blk_cell BKg0.out 0).trans rfl; have hf1 := blk_frozen BKg0.out 0; have hc2 : w1.cell? ⟨g0, 1, none⟩ = some (.slice A0 l0.length c0) := (blk_cell BKg0.out 1).trans rfl; have hf2 := blk_frozen BKg0.out 1; clear hb_ hbox_ hg_; have hm1 : ∀ o, (w1.alloc o).cell? ⟨g0, 0, none⟩ = some (.int .i64 a0) := fun o => Lib.cell?_alloc_marked o hc1) | (go_at_call 86; (with_reducible refine (earshotref02_put.calls 6 a0 4 P1 _ EP1.out).mono ?_); rintro e w2 ⟨v_, rfl, h1_, h2_⟩; obtain ⟨AqP1, cP1, e_⟩ := Kd.R_slice h1_; subst e_; obtain ⟨aP1, e_, _⟩ := Kd.at_int (Kd.R_reads' h1_).2.2 0 (by omega) (by have := LP1.out; omega); cases e_; have HPP1 := Aside0.mk (Kd.R_reads' h1_).2.2; have BKf := Aside0.mk (blk_below (blk_new w1 (.cells #[.int .u8 69, .int .u8 65, .int .u8 82, .int .u8 49] 5 (4, 5))) h2_); have n0_ := Aside0.mk (below_step (below_alloc HB.out _) h2_); have n1_ := Aside0.mk (blk_below (blk_alloc BKg0.out _) h2_); clear h1_ h2_ HB BKg0; have HB := n0_; have BKg0 := n1_; clear n0_ n1_; have hqw2_0 : w2.cell? ⟨g0, 0, none⟩ = some (.int .i64 a0) := (blk_cell BKg0.out 0).trans rfl; have hqw2_1 : w2.cell? ⟨g0, 1, none⟩ = some (.slice A0 l0.length c0) := (blk_cell BKg0.out 1).trans rfl) | ((with_reducible refine gate_builtin (b := .append) (xs := #[.tmp 7, .tmp 10]) rfl ?_); at_builtin; refine wpList_append_grows _ rfl (.tmp 7) (.tmp 10) 50 rfl 5 i0 (.int .u8 0) 1 1 Try.underlying50 HI.out.1 HI.out.2.1 HI.out.2.2.1 HI.out.2.2.2 rfl (by decide) (some ⟨w1.heap.size, 0, none⟩) 4 4 [.int .u8 69, .int .u8 65, .int .u8 82, .int .u8 49] rfl (fun h => by cases h) rfl ?aC aP1 P1.length cP1 (P1.map (Value.int .u8)) rfl (by simp) ?aN ?aO ?aF ?aM ?aB ?_; (case aC => intro q hq j u hu; cases hq; rw [add_plain]; exact (Go.Joins.cell_of_block BKf.out j).trans (by simpa using hu)); (case aN => exact cells_u8 HPP1.out); (case aO => intro u hu; obtain ⟨x_, _, rfl⟩ := List.mem_map.1 hu; rfl); (case aF => have := LP1.out; omega); (case aM => have := LP1.out; unfold maxLen; omega); (case aB => have := LP1.out; omega); intro v_ w3 hown_ hg_; have ho_ := first_row (n := 4 + P1.length) (ok := fun _ => True) (ps := [69, 65, 82, 49] ++ P1) HB.out.size (fun _ _ => trivial) (by simp; omega) (by simpa using hown_); rw [← HY1.out] at ho_; obtain ⟨Aw3, cw3, e_⟩ := Kd.R_slice ho_; subst e_; have n1_ := Aside0.mk (blk_grown BKg0.out hg_ (by simp)); have n0_ := Aside0.mk (HB.out.grown hg_ HB.out.size (fun k e => by cases e)); have HO := Aside0.mk ho_; clear ho_ hown_ hg_ HB BKg0 BKf HPP1; have HB := n0_; have BKg0 := n1_; clear n0_ n1_; have hqw3_0 : w3.cell? ⟨g0, 0, none⟩ = some (.int .i64 a0) := (blk_cell BKg0.out 0).trans rfl; have hqw3_1 : w3.cell? ⟨g0, 1, none⟩ = some (.slice A0 l0.length c0) := (blk_cell BKg0.out 1).trans rfl) | (go_at_call 86; (with_reducible refine (earshotref02_put.calls 6 (l0.length : Int) 4 P2 _ EP2.out).mono ?_); rintro e w4 ⟨v_, rfl, h1_, h2_⟩; obtain ⟨AqP2, cP2, e_⟩ := Kd.R_slice h1_; subst e_; obtain ⟨aP2, e_, _⟩ := Kd.at_int (Kd.R_reads' h1_).2.2 0 (by omega) (by have := LP2.out; omega); cases e_; have HPP2 := Aside0.mk (Kd.R_reads' h1_).2.2; have n0_ := Aside0.mk (below_step HB.out h2_); have n1_ := Aside0.mk (blk_below BKg0.out h2_); have n2_ := Aside0.mk (Kd.R_below HO.out h2_); clear h1_ h2_ HB BKg0 HO; have HB := n0_; have BKg0 := n1_; have HO := n2_; clear n0_ n1_ n2_; have hqw4_0 : w4.cell? ⟨g0, 0, none⟩ = some (.int .i64 a0) := (blk_cell BKg0.out 0).trans rfl; have hqw4_1 : w4.cell? ⟨g0, 1, none⟩ = some (.slice A0 l0.length c0) := (blk_cell BKg0.out 1).trans rfl) | ((with_reducible refine gate_builtin (b := .append) (xs := #[.tmp 12, .tmp 16]) rfl ?_); at_builtin; refine Kd.R_append_rows (Kd.int .u8) (w0 := w) w.heap.size rfl (.tmp 12) (.tmp 16) 50 5 (.int .u8 0) 1 rfl Try.underlying50 info5 rfl (by decide) (by omega) _ y1 P2 _ _ _ (fun _ => True) (fun _ => False) rfl rfl HO.out ?aR (fun _ _ h => h) (fun _ h => h.elim) (fun _ _ => trivial) HB.out HB.out.size ?aL ?_; (case aR => exact HPP2.out); (case aL => have := LP2.out; have := Ky1.out; omega); intro v_ w5 ho_ hb_ hg_ hat_; rw [show y1 ++ P2 = y2 from (by rw [HY1.out, HY2.out, HP1.out, HP2.out]; rfl)] at ho_; obtain ⟨Aw5, cw5, e_⟩ := Kd.R_slice ho_; subst e_; have n1_ := Aside0.mk (blk_grown BKg0.out hg_ (Kd.R_ne HO.out BKg0.out (by decide))); have n0_ := Aside0.mk hb_; have n2_ := Aside0.mk ho_; clear ho_ hb_ hg_ hat_ HB BKg0 HO HPP2; have HB := n0_; have BKg0 := n1_; have HO := n2_; clear n0_ n1_ n2_; have hqw5_0 : w5.cell? ⟨g0, 0, none⟩ = some (.int .i64 a0) := (blk_cell BKg0.out 0).trans rfl; have hqw5_1 : w5.cell? ⟨g0, 1, none⟩ = some (.slice A0 l0.length c0) := (blk_cell BKg0.out 1).trans rfl))
  have HL2 := Aside0.mk (show y2.length = 12 by rw [HY2.out]; exact hd8_length _ _)
  clear kc
  go_loopw [3, 4] (fun u3 u4 wr => ∃ (j : Nat), j ≤ l0.length ∧ u4 = .int .i64 j ∧ Aside0 (Kd.R (Kd.int .u8) 5 wr w.heap.size (fun _ => True) u3 (y2 ++ smpBytes l0 j)) ∧ Aside0 (wr.heap[g0]? = some (.cells #[.int .i64 a0, .slice A0 l0.length c0] 24 (0, 0))) ∧ Aside0 (Below w.heap.size w wr)) (fun _ u4 _ => l0.length - (intOf u4).toNat)
  case atStart => exact ⟨0, Nat.zero_le _, rfl, ⟨by simpa [smpBytes] using HO.out⟩, BKg0, HB⟩
  case round =>
    clear HO BKg0 HB
    obtain ⟨j, hj, rfl, HO, BKg0, HB⟩ := hrel
    have hyl : (y2 ++ smpBytes l0 j).length ≤ 500000 := by rw [List.length_append, HL2.out, smpBytes_length l0 j hj]; omega
    obtain ⟨ys, hy⟩ : ∃ ys, ys = y2 ++ smpBytes l0 j := ⟨_, rfl⟩
    rw [← hy] at HO hyl
    have HY := Aside0.mk hy
    have Kys := Aside0.mk hyl
    clear hy hyl
    obtain ⟨Au, cu, eu⟩ := Kd.R_slice HO.out
    subst eu
    have hq0 : wr.cell? ⟨g0, 0, none⟩ = some (.int .i64 a0) := (blk_cell BKg0.out 0).trans rfl
    have hq1 : wr.cell? ⟨g0, 1, none⟩ = some (.slice A0 l0.length c0) := (blk_cell BKg0.out 1).trans rfl
    by_cases hlt : j < l0.length
    · obtain ⟨ad, e, hx⟩ := Kd.at_int (Kd.C_below HR0.out HB.out) j (by omega) (by omega)
      cases e
      rw [Int.toNat_natCast] at hx
      obtain ⟨zs, hz⟩ : ∃ zs, zs = y2 ++ smpBytes l0 (j + 1) := ⟨_, rfl⟩
      have HZ := Aside0.mk hz
      clear hz
      have hv := HV.out _ (rd_mem hlt)
      have hv1 := hv.1
      have hv2 := hv.2
      clear hv
      obtain ⟨P3, hp3⟩ : ∃ P3, P3 = leb (rd l0 (j : Int) % 65536) 2 := ⟨_, rfl⟩
      have LP3 := Aside0.mk (show P3.length = 2 by rw [hp3, leb_length])
      have HP3 := Aside0.mk hp3
      have HJ := Aside0.mk (show ys ++ P3 = zs by rw [HY.out, HZ.out, hp3, smpBytes_succ l0 j hlt, List.append_assoc])
      clear hp3
      by_cases hneg : rd l0 (j : Int) < 0
      · have EP3 := Aside0.mk (show earshotref02_put.f 6 (rd l0 (j : Int) + 65536) 2 = some P3 by rw [neg16 hv1 hneg, HP3.out]; exact putR2 _ (by omega) (by omega))
        go_wp2_with (first | (go_at_call 86; (with_reducible refine (earshotref02_put.calls 6 (rd l0 (j : Int) + 65536) 2 P3 _ EP3.out).mono ?_); rintro e w6 ⟨v_, rfl, h1_, h2_⟩; obtain ⟨AqP3, cP3, e_⟩ := Kd.R_slice h1_; subst e_; obtain ⟨aP3, e_, _⟩ := Kd.at_int (Kd.R_reads' h1_).2.2 0 (by omega) (by have := LP3.out; omega); cases e_; have HPP3 := Aside0.mk (Kd.R_reads' h1_).2.2; have n0_ := Aside0.mk (below_step HB.out h2_); have n1_ := Aside0.mk (blk_below BKg0.out h2_); have n2_ := Aside0.mk (Kd.R_below HO.out h2_); clear h1_ h2_ HB BKg0 HO; have HB := n0_; have BKg0 := n1_; have HO := n2_; clear n0_ n1_ n2_; have hqw6_0 : w6.cell? ⟨g0, 0, none⟩ = some (.int .i64 a0) := (blk_cell BKg0.out 0).trans rfl; have hqw6_1 : w6.cell? ⟨g0, 1, none⟩ = some (.slice (some ad) l0.length c0) := (blk_cell BKg0.out 1).trans rfl) | ((with_reducible refine gate_builtin (b := .append) (xs := #[.tmp 34, .tmp 36]) rfl ?_); at_builtin; refine Kd.R_append_rows (Kd.int .u8) (w0 := w) w.heap.size rfl (.tmp 34) (.tmp 36) 50 5 (.int .u8 0) 1 rfl Try.underlying50 info5 rfl (by decide) (by omega) _ ys P3 _ _ _ (fun _ => True) (fun _ => False) rfl rfl HO.out ?aR (fun _ _ h => h) (fun _ h => h.elim) (fun _ _ => trivial) HB.out HB.out.size ?aL ?_; (case aR => exact HPP3.out); (case aL => have := LP3.out; have := Kys.out; omega); intro v_ w7 ho_ hb_ hg_ hat_; rw [HJ.out] at ho_; obtain ⟨Aw7, cw7, e_⟩ := Kd.R_slice ho_; subst e_; have n1_ := Aside0.mk (blk_grown BKg0.out hg_ (Kd.R_ne HO.out BKg0.out (by decide))); have n0_ := Aside0.mk hb_; have n2_ := Aside0.mk ho_; clear ho_ hb_ hg_ hat_ HB BKg0 HO HPP3; have HB := n0_; have BKg0 := n1_; have HO := n2_; clear n0_ n1_ n2_; have hqw7_0 : w7.cell? ⟨g0, 0, none⟩ = some (.int .i64 a0) := (blk_cell BKg0.out 0).trans rfl; have hqw7_1 : w7.cell? ⟨g0, 1, none⟩ = some (.slice (some ad) l0.length c0) := (blk_cell BKg0.out 1).trans rfl))
        go_roundw
        case rel => exact ⟨j + 1, by omega, by go_num, ⟨by rw [← HZ.out]; exact HO.out⟩, BKg0, HB⟩
        case measure => simp [intOf]; omega
      · have EP3 := Aside0.mk (show earshotref02_put.f 6 (rd l0 (j : Int)) 2 = some P3 by rw [HP3.out, ← pos16 (by omega) hv2]; exact putR2 _ (by omega) (by omega))
        go_wp2_with (first | (go_at_call 86; (with_reducible refine (earshotref02_put.calls 6 (rd l0 (j : Int)) 2 P3 _ EP3.out).mono ?_); rintro e w6 ⟨v_, rfl, h1_, h2_⟩; obtain ⟨AqP3, cP3, e_⟩ := Kd.R_slice h1_; subst e_; obtain ⟨aP3, e_, _⟩ := Kd.at_int (Kd.R_reads' h1_).2.2 0 (by omega) (by have := LP3.out; omega); cases e_; have HPP3 := Aside0.mk (Kd.R_reads' h1_).2.2; have n0_ := Aside0.mk (below_step HB.out h2_); have n1_ := Aside0.mk (blk_below BKg0.out h2_); have n2_ := Aside0.mk (Kd.R_below HO.out h2_); clear h1_ h2_ HB BKg0 HO; have HB := n0_; have BKg0 := n1_; have HO := n2_; clear n0_ n1_ n2_; have hqw6_0 : w6.cell? ⟨g0, 0, none⟩ = some (.int .i64 a0) := (blk_cell BKg0.out 0).trans rfl; have hqw6_1 : w6.cell? ⟨g0, 1, none⟩ = some (.slice (some ad) l0.length c0) := (blk_cell BKg0.out 1).trans rfl) | ((with_reducible refine gate_builtin (b := .append) (xs := #[.tmp 34, .tmp 36]) rfl ?_); at_builtin; refine Kd.R_append_rows (Kd.int .u8) (w0 := w) w.heap.size rfl (.tmp 34) (.tmp 36) 50 5 (.int .u8 0) 1 rfl Try.underlying50 info5 rfl (by decide) (by omega) _ ys P3 _ _ _ (fun _ => True) (fun _ => False) rfl rfl HO.out ?aR (fun _ _ h => h) (fun _ h => h.elim) (fun _ _ => trivial) HB.out HB.out.size ?aL ?_; (case aR => exact HPP3.out); (case aL => have := LP3.out; have := Kys.out; omega); intro v_ w7 ho_ hb_ hg_ hat_; rw [HJ.out] at ho_; obtain ⟨Aw7, cw7, e_⟩ := Kd.R_slice ho_; subst e_; have n1_ := Aside0.mk (blk_grown BKg0.out hg_ (Kd.R_ne HO.out BKg0.out (by decide))); have n0_ := Aside0.mk hb_; have n2_ := Aside0.mk ho_; clear ho_ hb_ hg_ hat_ HB BKg0 HO HPP3; have HB := n0_; have BKg0 := n1_; have HO := n2_; clear n0_ n1_ n2_; have hqw7_0 : w7.cell? ⟨g0, 0, none⟩ = some (.int .i64 a0) := (blk_cell BKg0.out 0).trans rfl; have hqw7_1 : w7.cell? ⟨g0, 1, none⟩ = some (.slice (some ad) l0.length c0) := (blk_cell BKg0.out 1).trans rfl))
        go_roundw
        case rel => exact ⟨j + 1, by omega, by go_num, ⟨by rw [← HZ.out]; exact HO.out⟩, BKg0, HB⟩
        case measure => simp [intOf]; omega
    · obtain rfl : j = l0.length := by omega
      have hyb : ys = packBody a0 l0 := by rw [HY.out, HY2.out, packBody_eq]
      have hbytes : ∀ v ∈ ys, 0 ≤ v ∧ v ≤ 255 := by
        rw [HY.out, HY2.out]
        intro v hv
        rcases List.mem_append.1 hv with h | h
        · exact hd8_bytes _ _ v h
        · exact smpBytes_bytes _ _ v h
      have HSUM := Aside0.mk (sumR_eq ys (by have := Kys.out; omega) hbytes (ys.length + 1) (by omega))
      obtain ⟨sm, hsm⟩ : ∃ sm, sm = sumB ys := ⟨_, rfl⟩
      rw [← hsm] at HSUM
      have hsb := sumB_bd ys
      rw [← hsm] at hsb
      have hsb1 := hsb.1
      have hsb2 := hsb.2
      obtain ⟨P4, hp4⟩ : ∃ P4, P4 = leb sm 4 := ⟨_, rfl⟩
      have LP4 := Aside0.mk (show P4.length = 4 by rw [hp4, leb_length])
      have EP4 := Aside0.mk (show earshotref02_put.f 6 sm 4 = some P4 by rw [hp4]; exact putR4 sm hsb1 (by omega))
      obtain ⟨zs, hz⟩ : ∃ zs, zs = packB a0 l0 := ⟨_, rfl⟩
      have HJ := Aside0.mk (show ys ++ P4 = zs by rw [hz, hp4, hsm, hyb]; rfl)
      have HZ := Aside0.mk hz
      clear hsb hsm hyb hbytes hp4 hz
      have HRY := Aside0.mk (Kd.R_reads' HO.out).2
      go_wp2_with (first | (go_at_call 87; (with_reducible refine (earshotref02_Sum.calls (ys.length + 1) Au cu ys sm _ HRY.out.2 HRY.out.1 HSUM.out).mono ?_); rintro e w' ⟨rfl, ⟨nd, rfl⟩⟩; have n0_ := Aside0.mk (pw_below_drewN HB.out nd); have n1_ := Aside0.mk (blk_drewN BKg0.out nd); have n2_ := Aside0.mk (Kd.R_drewN HO.out nd); clear HB BKg0 HO HRY; have HB := n0_; have BKg0 := n1_; have HO := n2_; clear n0_ n1_ n2_) | (go_at_call 86; (with_reducible refine (earshotref02_put.calls 6 sm 4 P4 _ EP4.out).mono ?_); rintro e w6 ⟨v_, rfl, h1_, h2_⟩; obtain ⟨AqP4, cP4, e_⟩ := Kd.R_slice h1_; subst e_; obtain ⟨aP4, e_, _⟩ := Kd.at_int (Kd.R_reads' h1_).2.2 0 (by omega) (by have := LP4.out; omega); cases e_; have HPP4 := Aside0.mk (Kd.R_reads' h1_).2.2; have n0_ := Aside0.mk (below_step HB.out h2_); have n1_ := Aside0.mk (blk_below BKg0.out h2_); have n2_ := Aside0.mk (Kd.R_below HO.out h2_); clear h1_ h2_ HB BKg0 HO; have HB := n0_; have BKg0 := n1_; have HO := n2_; clear n0_ n1_ n2_; have hqw6_0 : w6.cell? ⟨g0, 0, none⟩ = some (.int .i64 a0) := (blk_cell BKg0.out 0).trans rfl; have hqw6_1 : w6.cell? ⟨g0, 1, none⟩ = some (.slice A0 l0.length c0) := (blk_cell BKg0.out 1).trans rfl) | ((with_reducible refine gate_builtin (b := .append) (xs := #[.tmp 38, .tmp 41]) rfl ?_); at_builtin; refine Kd.R_append_rows (Kd.int .u8) (w0 := w) w.heap.size rfl (.tmp 38) (.tmp 41) 50 5 (.int .u8 0) 1 rfl Try.underlying50 info5 rfl (by decide) (by omega) _ ys P4 _ _ _ (fun _ => True) (fun _ => False) rfl rfl HO.out ?aR (fun _ _ h => h) (fun _ h => h.elim) (fun _ _ => trivial) HB.out HB.out.size ?aL ?_; (case aR => exact HPP4.out); (case aL => have := LP4.out; have := Kys.out; omega); intro v_ w7 ho_ hb_ hg_ hat_; rw [HJ.out] at ho_; obtain ⟨Aw7, cw7, e_⟩ := Kd.R_slice ho_; subst e_; have n1_ := Aside0.mk (blk_grown BKg0.out hg_ (Kd.R_ne HO.out BKg0.out (by decide))); have n0_ := Aside0.mk hb_; have n2_ := Aside0.mk ho_; clear ho_ hb_ hg_ hat_ HB BKg0 HO HPP4; have HB := n0_; have BKg0 := n1_; have HO := n2_; clear n0_ n1_ n2_; have hqw7_0 : w7.cell? ⟨g0, 0, none⟩ = some (.int .i64 a0) := (blk_cell BKg0.out 0).trans rfl; have hqw7_1 : w7.cell? ⟨g0, 1, none⟩ = some (.slice A0 l0.length c0) := (blk_cell BKg0.out 1).trans rfl))
      go_ret
      exact ⟨_, rfl, by rw [← HZ.out]; exact HO.out, HB.out⟩
theorem earshotref02_Pack.calls (a0_0 : Int) (A0_1 : Option Addr) (c0_1 : Nat) (l0_1 : List Int) (r : List Int) (w : World) (hr0_1 : Kd.C (Kd.int .i64) w A0_1 l0_1.length l0_1) (hc0_1 : l0_1.length ≤ c0_1) (h : earshotref02_Pack.f a0_0 l0_1 = some r) :
    Calls Try.prog 51 #[.agg #[.int .i64 a0_0, .slice A0_1 l0_1.length c0_1]] w fun e w' => ∃ v0_ : Value, e = .returned (v0_) ∧ Kd.R (Kd.int .u8) 5 w' w.heap.size (fun _ => True) v0_ r ∧ Below w.heap.size w w' := by
  unfold earshotref02_Pack.f at h
  by_cases he : recErr a0_0 l0_1 = 0
  · rw [if_pos he] at h
    obtain rfl := Option.some.inj h
    exact refpack_good a0_0 A0_1 c0_1 l0_1 w hr0_1 hc0_1 he
  · rw [if_neg he] at h
    exact absurd h (by simp)
end Go.Proofs.Ytigbfcodnbnicaa.P
