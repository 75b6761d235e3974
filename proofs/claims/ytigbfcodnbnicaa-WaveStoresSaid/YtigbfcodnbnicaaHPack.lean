/- Pack: the bytes of a recording, or the error; for every recording. -/
import Derived.Test.YtigbfcodnbnicaaHPut
import Derived.Test.YtigbfcodnbnicaaHResA
import Derived.Test.YtigbfcodnbnicaaXMid
import Derived.Test.YtigbfcodnbnicaaXF72
import Derived.Lib.SlBytesConst
set_option linter.unusedVariables false
set_option linter.unusedSimpArgs false
namespace Go.Proofs.Ytigbfcodnbnicaa.P
open Go.RowKit Go.Proofs.YtigbfcodnbnicaaW.PrintWords Go.Proofs.YtigbfcodnbnicaaW.PrintLast Go.Proofs.YtigbfcodnbnicaaW.PrintMore
attribute [local go_sem] max2_int min2_int max_two min_two max_three min_three max_four min_four

/-- The sum of bytes, from a sum on. -/
def sumFrom (c : Int) (b : List Int) : Int := b.foldl (fun c x => (65599 * c + x + 1) % 4294967296) c
theorem sum_l0 (l : List Int) (hl : l.length ≤ 4611686018427387904) (hb : ∀ v ∈ l, 0 ≤ v ∧ v ≤ 255) : ∀ (d k i : Nat) (c : Int), i + d = l.length → d < k → wave_sum.l0 k c l l.length i = some (sumFrom c (l.drop i)) := by
  intro d
  induction d with
  | zero =>
    intro k i c h1 h2
    obtain ⟨k, rfl⟩ : ∃ m, k = m + 1 := ⟨k - 1, by omega⟩
    rw [wave_sum.l0, if_neg (show ¬ (i : Int) < (l.length : Int) by omega), List.drop_eq_nil_of_le (by omega)]
    rfl
  | succ d ih =>
    intro k i c h1 h2
    have ihh := fun c => ih (k - 1) (i + 1) c (by omega) (by omega)
    obtain ⟨k, rfl⟩ : ∃ m, k = m + 1 := ⟨k - 1, by omega⟩
    simp only [Nat.add_sub_cancel] at ihh
    have hi : i < l.length := by omega
    have hv := hb _ (List.getElem_mem hi)
    have e1 : rd l (i : Int) = l[i] := by simp [rd, hi]
    rw [wave_sum.l0, if_pos (show (i : Int) < (l.length : Int) by omega), if_pos (show 0 ≤ (i : Int) by omega), if_pos (show (i : Int) < (l.length : Int) by omega), w64 (x := (i : Int) + 1) (by omega) (by omega), show (i : Int) + 1 = ((i + 1 : Nat) : Int) by omega, e1, ihh, List.drop_eq_getElem_cons hi]
    have e2 : ((65599 * c % 4294967296 + l[i] % 4294967296) % 4294967296 + 1) % 4294967296 = (65599 * c + l[i] + 1) % 4294967296 := by omega
    rw [e2]
    rfl
theorem sum_eq (l : List Int) (hl : l.length ≤ 4611686018427387904) (hb : ∀ v ∈ l, 0 ≤ v ∧ v ≤ 255) (k : Nat) (hk : l.length < k) : wave_sum.f k l = some (sumB l) := by
  unfold wave_sum.f
  have := sum_l0 l hl hb l.length k 0 1 (by omega) hk
  rw [List.drop_zero] at this
  exact this
theorem sumB_bd (l : List Int) : 0 ≤ sumB l ∧ sumB l < 4294967296 := by
  have h : ∀ (l : List Int) (c : Int), 0 ≤ c → c < 4294967296 → 0 ≤ sumFrom c l ∧ sumFrom c l < 4294967296 := by
    intro l
    induction l with
    | nil => intro c h0 h1; exact ⟨h0, h1⟩
    | cons x t ih => intro c h0 h1; exact ih _ (by show 0 ≤ (65599 * c + x + 1) % 4294967296; omega) (by show (65599 * c + x + 1) % 4294967296 < 4294967296; omega)
  exact h l 1 (by omega) (by omega)
theorem leb_bytes : ∀ (n : Int) (j : Nat), ∀ v ∈ leb n j, 0 ≤ v ∧ v ≤ 255
  | _, 0 => by simp [leb]
  | n, j + 1 => by
    intro v hv
    simp only [leb, List.mem_cons] at hv
    rcases hv with rfl | hv
    · omega
    · exact leb_bytes (n / 256) j v hv
/-- The bytes of so many samples off the front. -/
def smpBytes (l : List Int) (j : Nat) : List Int := (l.take j).flatMap fun v => leb (v % 65536) 2
theorem smpBytes_length (l : List Int) (j : Nat) (hj : j ≤ l.length) : (smpBytes l j).length = 2 * j := by
  unfold smpBytes
  rw [List.length_flatMap]
  simp only [leb_length]
  have : ∀ q : List Int, (q.map fun _ => 2).sum = 2 * q.length := by
    intro q
    induction q with
    | nil => rfl
    | cons x t ih => simp [ih]; omega
  rw [this, List.length_take]
  omega
theorem smpBytes_succ (l : List Int) (j : Nat) (hj : j < l.length) : smpBytes l (j + 1) = smpBytes l j ++ leb (rd l j % 65536) 2 := by
  unfold smpBytes
  rw [List.take_succ_eq_append_getElem hj, List.flatMap_append]
  simp [rd, hj]
theorem smpBytes_bytes (l : List Int) (j : Nat) : ∀ v ∈ smpBytes l j, 0 ≤ v ∧ v ≤ 255 := by
  intro v hv
  unfold smpBytes at hv
  rw [List.mem_flatMap] at hv
  obtain ⟨x, _, hx⟩ := hv
  exact leb_bytes _ _ v hx
/-- What Pack has put together before the samples, and after j of them. -/
def hd8 (rate n : Int) : List Int := ([69, 65, 82, 49] ++ leb rate 4) ++ leb n 4
theorem hd8_length (rate n : Int) : (hd8 rate n).length = 12 := by simp [hd8, leb_length]
theorem hd8_bytes (rate n : Int) : ∀ v ∈ hd8 rate n, 0 ≤ v ∧ v ≤ 255 := by
  intro v hv
  unfold hd8 at hv
  simp only [List.mem_append] at hv
  rcases hv with (hv | hv) | hv
  · simp at hv; omega
  · exact leb_bytes _ _ v hv
  · exact leb_bytes _ _ v hv
theorem packBody_eq (rate : Int) (l : List Int) : packBody rate l = hd8 rate l.length ++ smpBytes l l.length := by
  unfold packBody hd8 smpBytes
  rw [List.take_length]
theorem put_2 (n : Int) (b : Nat) (xs : List Int) (v : Value) (w0 w : World) (h0 : 0 ≤ n) (h1 : n < 4294967296) (hx : xs.length ≤ 600000) (hb : w.heap[b]? = some (.cells #[v] 50 (0, 0))) (hv : Kd.R (Kd.int .u8) 5 w w0.heap.size (fun k => k ≠ b) v xs) (hge : w0.heap.size ≤ b) (hB : Below w0.heap.size w0 w) :
    Calls Try.prog 78 #[.int .u32 n, .int .i64 2, .pointer (some ⟨b, 0, none⟩)] w (PutPost n 2 b xs v w0 w) := put_calls n 2 b xs v w0 w h0 h1 (by decide) hx hb hv hge hB
theorem put_4 (n : Int) (b : Nat) (xs : List Int) (v : Value) (w0 w : World) (h0 : 0 ≤ n) (h1 : n < 4294967296) (hx : xs.length ≤ 600000) (hb : w.heap[b]? = some (.cells #[v] 50 (0, 0))) (hv : Kd.R (Kd.int .u8) 5 w w0.heap.size (fun k => k ≠ b) v xs) (hge : w0.heap.size ≤ b) (hB : Below w0.heap.size w0 w) :
    Calls Try.prog 78 #[.int .u32 n, .int .i64 4, .pointer (some ⟨b, 0, none⟩)] w (PutPost n 4 b xs v w0 w) := put_calls n 4 b xs v w0 w h0 h1 (by decide) hx hb hv hge hB
theorem u32_and16 {x : Int} (h0 : 0 ≤ x) (h1 : x < 4294967296) : bits .and .u32 x 65535 = x % 65536 := bits_mask .u32 32 (by decide) (fun n a b => by rw [IntKind.wrap_u32]; omega) 16 (by decide) x h0 h1
theorem mod_mod16 (x : Int) : x % 4294967296 % 65536 = x % 65536 := by omega
theorem recErr_ok2 {a : Int} {l : List Int} (h : recErr a l = 0) : l.length ≤ 200000 ∧ 1 ≤ a ∧ a ≤ 192000 ∧ ∀ v ∈ l, -32768 ≤ v ∧ v ≤ 32767 := by
  unfold recErr at h
  by_cases h1 : l.length > 200000
  · rw [if_pos h1] at h; omega
  · rw [if_neg h1] at h
    by_cases h2 : a < 1 ∨ a > 192000 ∨ inR (-32768) 32767 l = false
    · rw [if_pos h2] at h; omega
    · have h5 : inR (-32768) 32767 l = true := by
        cases e : inR (-32768) 32767 l with
        | true => rfl
        | false => exact absurd (.inr (.inr e)) h2
      exact ⟨by omega, by omega, by omega, inR_mem h5⟩
def PackPost (r1 : List Int) (r2 : Int) (w : World) (e : Ending) (w' : World) : Prop := ∃ v0_ : Value, e = .returned (.tuple #[v0_, .int .i64 r2]) ∧ Kd.R (Kd.int .u8) 5 w' w.heap.size (fun _ => True) v0_ r1 ∧ Below w.heap.size w w'
set_option maxHeartbeats 8000000 in
set_option maxRecDepth 100000 in
theorem pack_err (a0 : Int) (A0 : Option Addr) (c0 : Nat) (l0 : List Int) (w : World) (hr0 : Kd.C (Kd.int .i64) w A0 l0.length l0) (hc0 : l0.length ≤ c0) (he : recErr a0 l0 ≠ 0) : Calls Try.prog 39 #[.agg #[.int .i64 a0, .slice A0 l0.length c0]] w (PackPost [] (recErr a0 l0) w) := by
  have HR0 := Aside0.mk hr0
  have HC0 := Aside0.mk hc0
  clear hr0 hc0
  have hu24 := Try.underlying24
  have hu50 := Try.underlying50
  have HB := Aside0.mk (Below.refl w.heap.size w)
  have HE := Aside0.mk (check_some a0 l0)
  have q1 : (recErr a0 l0 != 0) = true := bne_iff_ne.2 he
  clear he
  go_enter Try.func39, Try.ntmps39
  go_wp2_with (first | ((with_reducible refine gate_dst (N := 1) rfl ?_); refine box_event ?hg (N := 1) ?hd (cs := #[.int .i64 a0, .slice A0 l0.length c0]) (t := 24) ?hr ?_; (case hd => rfl); (case hg => rfl); (case hr => first | (go_simp; done) | (go_simp; rfl)); intro g0 hg_ w1 hbox_ hb_; have n0_ := Aside0.mk (below_step (by repeat (first | (with_reducible first | exact HB.out | apply below_alloc | apply pw_below_drewN | apply below_drew1) | exact HB.out)) hb_); have n1_ := Aside0.mk (hbox_); have n2_ : Aside0 (w.heap.size ≤ g0) := ⟨by rw [hg_]; exact (below_size (by repeat (first | (with_reducible first | exact HB.out | apply below_alloc | apply pw_below_drewN | apply below_drew1) | exact HB.out)))⟩; clear HB; have HB := n0_; have BKg0 := n1_; have GEg0 := n2_; clear n0_ n1_ n2_; have hc1 : w1.cell? ⟨g0, 0, none⟩ = some (.int .i64 a0) := (blk_cell BKg0.out 0).trans rfl; have hf1 := blk_frozen BKg0.out 0; have hc2 : w1.cell? ⟨g0, 1, none⟩ = some (.slice A0 l0.length c0) := (blk_cell BKg0.out 1).trans rfl; have hf2 := blk_frozen BKg0.out 1; clear hb_ hbox_ hg_) | (go_at_call 62; refine (wave_check.calls a0 A0 c0 l0 (recErr a0 l0) _ (by (with_reducible repeat (first | refine Kd.C_alloc ?_ _ | refine Kd.C_drewN ?_ _)); exact Kd.C_below HR0.out HB.out) HC0.out HE.out).mono ?_; rintro e w2 ⟨rfl, hb_⟩; have n0_ := Aside0.mk (below_step (by repeat (first | (with_reducible first | exact HB.out | apply below_alloc | apply pw_below_drewN | apply below_drew1 | refine below_set ?_ GEg0.out) | exact HB.out)) hb_); have n1_ := Aside0.mk (blk_below (g := g0) (o := .cells #[.int .i64 a0, .slice A0 l0.length c0] 24 (0, 0)) (by (with_reducible repeat (first | refine blk_drewN ?_ _ | refine blk_drew ?_ | refine blk_alloc ?_ _)); exact BKg0.out) hb_); clear HB BKg0; have HB := n0_; have BKg0 := n1_; clear n0_ n1_; have hc3 : w2.cell? ⟨g0, 0, none⟩ = some (.int .i64 a0) := (blk_cell BKg0.out 0).trans rfl; have hf3 := blk_frozen BKg0.out 0; have hc4 : w2.cell? ⟨g0, 1, none⟩ = some (.slice A0 l0.length c0) := (blk_cell BKg0.out 1).trans rfl; have hf4 := blk_frozen BKg0.out 1; clear hb_))
  go_ret2
  exact ⟨_, rfl, Kd.R_nil _ _ _ _ _, (by repeat (first | (with_reducible first | exact HB.out | apply below_alloc | apply pw_below_drewN | apply below_drew1 | refine below_set ?_ GEg0.out) | exact HB.out))⟩
set_option maxHeartbeats 8000000 in
set_option maxRecDepth 100000 in
theorem pack_good (a0 : Int) (A0 : Option Addr) (c0 : Nat) (l0 : List Int) (w : World) (hr0 : Kd.C (Kd.int .i64) w A0 l0.length l0) (hc0 : l0.length ≤ c0) (he : recErr a0 l0 = 0) : Calls Try.prog 39 #[.agg #[.int .i64 a0, .slice A0 l0.length c0]] w (PackPost (packB a0 l0) 0 w) := by
  have HR0 := Aside0.mk hr0
  have HC0 := Aside0.mk hc0
  clear hr0 hc0
  have hu24 := Try.underlying24
  have hu50 := Try.underlying50
  have HB := Aside0.mk (Below.refl w.heap.size w)
  have HE := Aside0.mk ((check_some a0 l0).trans (by rw [he]))
  obtain ⟨hl, ha1, ha2, hv⟩ := recErr_ok2 he
  have HV := Aside0.mk hv
  clear he hv
  have kc := fun (w : World) (C : Array Value) (n c : Nat) => Lib.run_convert_bytes_const (P := Try.prog) w 50 5 C n c Try.underlying50 Try.underlying5
  obtain ⟨y1, hy1⟩ : ∃ y1, y1 = [69, 65, 82, 49] ++ leb a0 4 := ⟨_, rfl⟩
  have hl1 : y1.length = 8 := by rw [hy1, List.length_append, leb_length]; rfl
  obtain ⟨y2, hy2⟩ : ∃ y2, y2 = hd8 a0 l0.length := ⟨_, rfl⟩
  have HL1 := Aside0.mk hl1
  have HY1 := Aside0.mk hy1
  have HY2 := Aside0.mk hy2
  clear hy1 hy2 hl1
  go_enter Try.func39, Try.ntmps39
  go_wp2_with (first | ((with_reducible refine gate_dst (N := 1) rfl ?_); refine box_event ?hg (N := 1) ?hd (cs := #[.int .i64 a0, .slice A0 l0.length c0]) (t := 24) ?hr ?_; (case hd => rfl); (case hg => rfl); (case hr => first | (go_simp; done) | (go_simp; rfl)); intro g0 hg_ w1 hbox_ hb_; have n0_ := Aside0.mk (below_step (by repeat (first | (with_reducible first | exact HB.out | apply below_alloc | apply pw_below_drewN | apply below_drew1) | exact HB.out)) hb_); have n1_ := Aside0.mk (hbox_); have n2_ : Aside0 (w.heap.size ≤ g0) := ⟨by rw [hg_]; exact (below_size (by repeat (first | (with_reducible first | exact HB.out | apply below_alloc | apply pw_below_drewN | apply below_drew1) | exact HB.out)))⟩; clear HB; have HB := n0_; have BKg0 := n1_; have GEg0 := n2_; clear n0_ n1_ n2_; have hc1 : w1.cell? ⟨g0, 0, none⟩ = some (.int .i64 a0) := (blk_cell BKg0.out 0).trans rfl; have hf1 := blk_frozen BKg0.out 0; have hc2 : w1.cell? ⟨g0, 1, none⟩ = some (.slice A0 l0.length c0) := (blk_cell BKg0.out 1).trans rfl; have hf2 := blk_frozen BKg0.out 1; clear hb_ hbox_ hg_) | (go_at_call 62; refine (wave_check.calls a0 A0 c0 l0 0 _ (by (with_reducible repeat (first | refine Kd.C_alloc ?_ _ | refine Kd.C_drewN ?_ _)); exact Kd.C_below HR0.out HB.out) HC0.out HE.out).mono ?_; rintro e w2 ⟨rfl, hb_⟩; have n0_ := Aside0.mk (below_step (by repeat (first | (with_reducible first | exact HB.out | apply below_alloc | apply pw_below_drewN | apply below_drew1 | refine below_set ?_ GEg0.out) | exact HB.out)) hb_); have n1_ := Aside0.mk (blk_below (g := g0) (o := .cells #[.int .i64 a0, .slice A0 l0.length c0] 24 (0, 0)) (by (with_reducible repeat (first | refine blk_drewN ?_ _ | refine blk_drew ?_ | refine blk_alloc ?_ _)); exact BKg0.out) hb_); clear HB BKg0; have HB := n0_; have BKg0 := n1_; clear n0_ n1_; have hc3 : w2.cell? ⟨g0, 0, none⟩ = some (.int .i64 a0) := (blk_cell BKg0.out 0).trans rfl; have hf3 := blk_frozen BKg0.out 0; have hc4 : w2.cell? ⟨g0, 1, none⟩ = some (.slice A0 l0.length c0) := (blk_cell BKg0.out 1).trans rfl; have hf4 := blk_frozen BKg0.out 1; clear hb_; have NBf := Aside0.mk (blk_lt BKg0.out)) | ((with_reducible refine gate_dst (N := 5) rfl ?_); refine box_event ?hg (N := 5) ?hd (cs := #[.slice none 0 0]) (t := 50) ?hr ?_; (case hd => rfl); (case hg => rfl); (case hr => first | (go_simp; done) | (go_simp; rfl)); intro g5 hg_ w4 hbox_ hb_; have n0_ := Aside0.mk (below_step (by repeat (first | (with_reducible first | exact HB.out | apply below_alloc | apply pw_below_drewN | apply below_drew1 | refine below_set ?_ GEg0.out) | exact HB.out)) hb_); have n1_ := Aside0.mk (blk_below (g := g0) (o := .cells #[.int .i64 a0, .slice A0 l0.length c0] 24 (0, 0)) (by (with_reducible repeat (first | refine blk_drewN ?_ _ | refine blk_drew ?_ | refine blk_alloc ?_ _)); exact BKg0.out) hb_); have n2_ := Aside0.mk (hbox_); have n3_ : Aside0 (w.heap.size ≤ g5) := ⟨by rw [hg_]; exact (below_size (by repeat (first | (with_reducible first | exact HB.out | apply below_alloc | apply pw_below_drewN | apply below_drew1 | refine below_set ?_ GEg0.out) | exact HB.out)))⟩; have NBg0_g5 : Aside0 (g0 ≠ g5) := ⟨by rw [hg_]; exact Nat.ne_of_lt (blk_lt (o := .cells #[.int .i64 a0, .slice A0 l0.length c0] 24 (0, 0)) (by (with_reducible repeat (first | refine blk_drewN ?_ _ | refine blk_drew ?_ | refine blk_alloc ?_ _)); exact BKg0.out))⟩; have NBg5_g0 : Aside0 (g5 ≠ g0) := ⟨NBg0_g5.out.symm⟩; have hx5 := NBg0_g5.out; have hy5 := NBg5_g0.out; clear HB BKg0; have HB := n0_; have BKg0 := n1_; have BKg5 := n2_; have GEg5 := n3_; clear n0_ n1_ n2_ n3_; have hc6 : w4.cell? ⟨g0, 0, none⟩ = some (.int .i64 a0) := (blk_cell BKg0.out 0).trans rfl; have hf6 := blk_frozen BKg0.out 0; have hc7 : w4.cell? ⟨g0, 1, none⟩ = some (.slice A0 l0.length c0) := (blk_cell BKg0.out 1).trans rfl; have hf7 := blk_frozen BKg0.out 1; have hc8 : w4.cell? ⟨g5, 0, none⟩ = some (.slice none 0 0) := (blk_cell BKg5.out 0).trans rfl; have hf8 := blk_frozen BKg5.out 0; have BKf := Aside0.mk (blk_below (blk_new w2 (.cells #[.int .u8 69, .int .u8 65, .int .u8 82, .int .u8 49] 5 (4, 5))) hb_); have HG5 := Aside0.mk hg_; clear hb_ hbox_ hg_; have NBfg := Aside0.mk (show w2.heap.size ≠ g5 from Nat.ne_of_lt (Nat.lt_of_lt_of_le (blk_lt (blk_new w2 (.cells #[.int .u8 69, .int .u8 65, .int .u8 82, .int .u8 49] 5 (4, 5)))) (Nat.le_of_eq HG5.out.symm)))) | (go_at_call 78; (with_reducible refine (put_first a0 g5 w2.heap.size w _ (by omega) (by omega) (by (with_reducible repeat (first | refine blk_drewN ?_ _ | refine blk_drew ?_ | refine blk_alloc ?_ _)); refine blk_put (cs := #[.slice none 0 0]) ?_ 0 _ rfl; (with_reducible repeat (first | refine blk_drewN ?_ _ | refine blk_drew ?_ | refine blk_alloc ?_ _)); exact BKg5.out) (by (with_reducible repeat (first | refine blk_drewN ?_ _ | refine blk_drew ?_ | refine blk_alloc ?_ _)); exact (Below.heap_setCell _ _ _ _ NBfg.out).trans BKf.out) GEg5.out (by repeat (first | (with_reducible first | exact HB.out | apply below_alloc | apply pw_below_drewN | apply below_drew1 | refine below_set ?_ GEg0.out | refine below_set ?_ GEg5.out) | exact HB.out))).mono ?_); rintro e w5 ⟨v_, rfl, h1_, h2_, h3_, h4_⟩; rw [show [69, 65, 82, 49] ++ leb a0 4 = y1 from HY1.out.symm] at h2_; obtain ⟨Aw5, cw5, e_⟩ := Kd.R_slice h2_; subst e_; have n0_ := Aside0.mk h1_; have n1_ := Aside0.mk h3_; have n2_ := Aside0.mk h2_; have q0_ := blk_far (p := ⟨g5, 0, none⟩) BKg0.out NBg0_g5.out (.slice (some ⟨w2.heap.size, 0, none⟩) 4 4); have n3_ := Aside0.mk ((h4_.2 g0 (blk_lt q0_) NBg0_g5.out (fun e_ => absurd (Option.some.inj e_) (Nat.ne_of_lt NBf.out))).trans q0_); clear h1_ h2_ h3_ h4_ q0_ BKg5 HB BKg0 BKf; have BKg5 := n0_; have HB := n1_; have HO5 := n2_; have BKg0 := n3_; clear n0_ n1_ n2_ n3_; have hc9 : w5.cell? ⟨g0, 0, none⟩ = some (.int .i64 a0) := (blk_cell BKg0.out 0).trans rfl; have hf9 := blk_frozen BKg0.out 0; have hc10 : w5.cell? ⟨g0, 1, none⟩ = some (.slice A0 l0.length c0) := (blk_cell BKg0.out 1).trans rfl; have hf10 := blk_frozen BKg0.out 1; have hc11 : w5.cell? ⟨g5, 0, none⟩ = some (.slice Aw5 y1.length cw5) := (blk_cell BKg5.out 0).trans rfl; have hf11 := blk_frozen BKg5.out 0) | (go_at_call 78; (with_reducible refine (put_4 (l0.length : Int) g5 y1 _ w _ (by omega) (by omega) (by have := HL1.out; omega) (by (with_reducible repeat (first | refine blk_drewN ?_ _ | refine blk_drew ?_ | refine blk_alloc ?_ _)); exact BKg5.out) HO5.out GEg5.out (by repeat (first | (with_reducible first | exact HB.out | apply below_alloc | apply pw_below_drewN | apply below_drew1 | refine below_set ?_ GEg0.out | refine below_set ?_ GEg5.out) | exact HB.out))).mono ?_); rintro e w6 ⟨v_, rfl, h1_, h2_, h3_, h4_⟩; rw [show y1 ++ leb (l0.length : Int) 4 = y2 from (by rw [HY1.out, HY2.out]; rfl)] at h2_; obtain ⟨Aw6, cw6, e_⟩ := Kd.R_slice h2_; subst e_; have n0_ := Aside0.mk h1_; have n1_ := Aside0.mk h3_; have n2_ := Aside0.mk h2_; have q0_ := BKg0.out; have n3_ := Aside0.mk ((h4_.2 g0 (blk_lt q0_) NBg0_g5.out (Kd.R_ne HO5.out BKg0.out (by decide))).trans q0_); clear h1_ h2_ h3_ h4_ q0_ BKg5 HB BKg0 HO5; have BKg5 := n0_; have HB := n1_; have HO5 := n2_; have BKg0 := n3_; clear n0_ n1_ n2_ n3_; have hc12 : w6.cell? ⟨g0, 0, none⟩ = some (.int .i64 a0) := (blk_cell BKg0.out 0).trans rfl; have hf12 := blk_frozen BKg0.out 0; have hc13 : w6.cell? ⟨g0, 1, none⟩ = some (.slice A0 l0.length c0) := (blk_cell BKg0.out 1).trans rfl; have hf13 := blk_frozen BKg0.out 1; have hc14 : w6.cell? ⟨g5, 0, none⟩ = some (.slice Aw6 y2.length cw6) := (blk_cell BKg5.out 0).trans rfl; have hf14 := blk_frozen BKg5.out 0))
  have hl8 := (show y2.length = 12 by rw [HY2.out]; exact hd8_length _ _)
  have HL2 := Aside0.mk hl8
  clear hl8 kc
  go_loopw [31] (fun u31 wr => ∃ (j : Nat) (v1 : Value), j ≤ l0.length ∧ u31 = .int .i64 j ∧ Aside0 (wr.heap[g5]? = some (.cells #[v1] 50 (0, 0))) ∧ Aside0 (Kd.R (Kd.int .u8) 5 wr w.heap.size (fun k => k ≠ g5) v1 (y2 ++ smpBytes l0 j)) ∧ Aside0 (wr.heap[g0]? = some (.cells #[.int .i64 a0, .slice A0 l0.length c0] 24 (0, 0))) ∧ Aside0 (Below w.heap.size w wr)) (fun u31 _ => l0.length - (intOf u31).toNat)
  case atStart => exact ⟨0, _, Nat.zero_le _, rfl, BKg5, ⟨by simpa [smpBytes] using HO5.out⟩, BKg0, HB⟩
  case round =>
    clear BKg5 HO5 BKg0 HB
    obtain ⟨j, v1, hj, rfl, BKg5, HO5, BKg0, HB⟩ := hrel
    have hyl : (y2 ++ smpBytes l0 j).length ≤ 500000 := by rw [List.length_append, HL2.out, smpBytes_length l0 j hj]; omega
    obtain ⟨ys, hy⟩ : ∃ ys, ys = y2 ++ smpBytes l0 j := ⟨_, rfl⟩
    rw [← hy] at HO5 hyl
    have HY := Aside0.mk hy
    have HYL := Aside0.mk hyl
    clear hy hyl
    obtain ⟨Au, cu, eu⟩ := Kd.R_slice HO5.out
    subst eu
    by_cases hlt : j < l0.length
    · obtain ⟨ad, e, hx⟩ := Kd.at_int (Kd.C_below HR0.out HB.out) j (by omega) (by omega)
      cases e
      rw [Int.toNat_natCast] at hx
      obtain ⟨zs, hz⟩ : ∃ zs, zs = y2 ++ smpBytes l0 (j + 1) := ⟨_, rfl⟩
      have HZ := Aside0.mk hz
      clear hz
      have hv := HV.out _ (rd_mem hlt)
      have hv1 := hv.1
      have hv2 := hv.2
      clear hv
      have HAND := Aside0.mk (u32_and16 (x := rd l0 (j : Int) % 4294967296) (by omega) (by omega))
      have hcg : wr.cell? ⟨g5, 0, none⟩ = some (.slice Au ys.length cu) := (blk_cell BKg5.out 0).trans rfl
      go_wp2_with (go_at_call 78; rw [HAND.out, mod_mod16]; (with_reducible refine (put_2 (rd l0 (j : Int) % 65536) g5 ys (.slice Au ys.length cu) w wr (by omega) (by omega) (by have := HYL.out; omega) BKg5.out HO5.out GEg5.out HB.out).mono ?_); rintro e wn ⟨v_, rfl, h1_, h2_, h3_, h4_⟩; rw [show ys ++ leb (rd l0 (j : Int) % 65536) 2 = zs from (by rw [HY.out, HZ.out, smpBytes_succ l0 j hlt, List.append_assoc])] at h2_; obtain ⟨An, cn, e_⟩ := Kd.R_slice h2_; subst e_; have n0_ := Aside0.mk h1_; have n1_ := Aside0.mk h3_; have n2_ := Aside0.mk h2_; have n3_ := Aside0.mk ((h4_.2 g0 (blk_lt BKg0.out) NBg0_g5.out (Kd.R_ne HO5.out BKg0.out (by decide))).trans BKg0.out); clear h1_ h2_ h3_ h4_)
      go_roundw
      case rel => exact ⟨j + 1, _, by omega, by go_num, n0_, ⟨by rw [← HZ.out]; exact n2_.out⟩, n3_, n1_⟩
      case measure => simp [intOf]; omega
    · obtain rfl : j = l0.length := by omega
      have hcg : wr.cell? ⟨g5, 0, none⟩ = some (.slice Au ys.length cu) := (blk_cell BKg5.out 0).trans rfl
      have hyb : ys = packBody a0 l0 := by rw [HY.out, HY2.out, packBody_eq]
      have hbytes : ∀ v ∈ ys, 0 ≤ v ∧ v ≤ 255 := by
        rw [HY.out, HY2.out]
        intro v hv
        rcases List.mem_append.1 hv with h | h
        · exact hd8_bytes _ _ v h
        · exact smpBytes_bytes _ _ v h
      have HSUM := Aside0.mk (sum_eq ys (by have := HYL.out; omega) hbytes (ys.length + 1) (by omega))
      obtain ⟨sm, hsm⟩ : ∃ sm, sm = sumB ys := ⟨_, rfl⟩
      rw [← hsm] at HSUM
      have hsb := sumB_bd ys
      rw [← hsm] at hsb
      have hsb1 := hsb.1
      have hsb2 := hsb.2
      have HSM := Aside0.mk hsm
      have HYB := Aside0.mk hyb
      clear hsb hsm hyb hbytes
      have HRY := Aside0.mk (Kd.R_reads' HO5.out).2
      go_wp2_with (first | (go_at_call 72; (with_reducible refine (wave_sum.calls (ys.length + 1) Au cu ys sm _ HRY.out.2 HRY.out.1 HSUM.out).mono ?_); rintro e w' ⟨rfl, ⟨nd, rfl⟩⟩) | (go_at_call 78; (with_reducible refine (put_4 sm g5 ys (.slice Au ys.length cu) w _ (by omega) (by omega) (by have := HYL.out; omega) (blk_drewN BKg5.out nd) (Kd.R_drewN HO5.out nd) GEg5.out (pw_below_drewN HB.out nd)).mono ?_); rintro e wn ⟨v_, rfl, h1_, h2_, h3_, h4_⟩; rw [show ys ++ leb sm 4 = packB a0 l0 from (by rw [HSM.out, HYB.out]; rfl)] at h2_; obtain ⟨An, cn, e_⟩ := Kd.R_slice h2_; subst e_; have n0_ := Aside0.mk h1_; have n1_ := Aside0.mk h3_; have n2_ := Aside0.mk h2_; have hcn : wn.cell? ⟨g5, 0, none⟩ = some (.slice An (packB a0 l0).length cn) := (blk_cell n0_.out 0).trans rfl; clear h1_ h2_ h3_ h4_))
      go_ret2
      exact ⟨_, rfl, Kd.R_mono n2_.out (fun _ _ => trivial), n1_.out⟩
theorem wave_Pack.calls (a0_0 : Int) (A0_1 : Option Addr) (c0_1 : Nat) (l0_1 : List Int) (r1 : List Int) (r2 : Int) (w : World) (hr0_1 : Kd.C (Kd.int .i64) w A0_1 l0_1.length l0_1) (hc0_1 : l0_1.length ≤ c0_1) (h : wave_Pack.f a0_0 l0_1 = some (r1, r2)) :
    Calls Try.prog 39 #[.agg #[.int .i64 a0_0, .slice A0_1 l0_1.length c0_1]] w fun e w' => ∃ v0_ : Value, e = .returned (.tuple #[v0_, .int .i64 r2]) ∧ Kd.R (Kd.int .u8) 5 w' w.heap.size (fun _ => True) v0_ r1 ∧ Below w.heap.size w w' := by
  unfold wave_Pack.f at h
  by_cases he : recErr a0_0 l0_1 = 0
  · rw [if_neg (fun e => e he)] at h
    simp only [Option.some.injEq, Prod.mk.injEq] at h
    obtain ⟨rfl, rfl⟩ := h
    exact pack_good a0_0 A0_1 c0_1 l0_1 w hr0_1 hc0_1 he
  · rw [if_pos he] at h
    simp only [Option.some.injEq, Prod.mk.injEq] at h
    obtain ⟨rfl, rfl⟩ := h
    exact pack_err a0_0 A0_1 c0_1 l0_1 w hr0_1 hc0_1 he
end Go.Proofs.Ytigbfcodnbnicaa.P
