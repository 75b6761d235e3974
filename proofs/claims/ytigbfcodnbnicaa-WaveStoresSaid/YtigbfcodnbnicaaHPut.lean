/- The closure of Pack that appends the bytes of a number, least significant one first; for numbers of 32 bits, and at most 600000 bytes in all. -/
import Derived.Test.YtigbfcodnbnicaaHDefs
import Derived.Lib.SliceRun
import Derived.Lib.SmallJoins
import Derived.ArgAppend
set_option linter.unusedVariables false
set_option linter.unusedSimpArgs false
namespace Go.Proofs.Ytigbfcodnbnicaa.P
open Go.RowKit Go.Proofs.YtigbfcodnbnicaaW.PrintWords Go.Proofs.YtigbfcodnbnicaaW.PrintLast Go.Proofs.YtigbfcodnbnicaaW.PrintMore

/-- What is left of a number behind j bytes. -/
def sh : Int → Nat → Int
  | n, 0 => n
  | n, j + 1 => sh (n / 256) j
theorem sh_succ : ∀ (n : Int) (j : Nat), sh n (j + 1) = sh n j / 256
  | n, 0 => rfl
  | n, j + 1 => sh_succ (n / 256) j
theorem leb_snoc : ∀ (n : Int) (j : Nat), leb n (j + 1) = leb n j ++ [sh n j % 256]
  | n, 0 => rfl
  | n, j + 1 => by
    have := leb_snoc (n / 256) j
    show n % 256 :: leb (n / 256) (j + 1) = (n % 256 :: leb (n / 256) j) ++ [sh (n / 256) j % 256]
    rw [this]; rfl
theorem leb_length : ∀ (n : Int) (j : Nat), (leb n j).length = j
  | _, 0 => rfl
  | n, j + 1 => by simp [leb, leb_length (n / 256) j]
theorem sh_bd : ∀ (n : Int) (j : Nat), 0 ≤ n → n < 4294967296 → 0 ≤ sh n j ∧ sh n j < 4294967296
  | n, 0, h0, h1 => ⟨h0, h1⟩
  | n, j + 1, h0, h1 => sh_bd (n / 256) j (by omega) (by omega)
/-- What the closure leaves: the longer list in the variable, and everything else as it was. -/
def PutPost (n : Int) (m b : Nat) (xs : List Int) (v : Value) (w0 w : World) (e : Ending) (w' : World) : Prop :=
  ∃ v' : Value, e = .returned (.tuple #[]) ∧ w'.heap[b]? = some (.cells #[v'] 50 (0, 0)) ∧ Kd.R (Kd.int .u8) 5 w' w0.heap.size (fun k => k ≠ b) v' (xs ++ leb n m) ∧ Below w0.heap.size w0 w' ∧ KeepBut w w' b v.ownBlock
set_option maxHeartbeats 4000000 in
set_option maxRecDepth 100000 in
theorem put_calls (n : Int) (m b : Nat) (xs : List Int) (v : Value) (w0 w : World) (h0 : 0 ≤ n) (h1 : n < 4294967296) (hm : m ≤ 4) (hx : xs.length ≤ 600000)
    (hb : w.heap[b]? = some (.cells #[v] 50 (0, 0))) (hv : Kd.R (Kd.int .u8) 5 w w0.heap.size (fun k => k ≠ b) v xs) (hge : w0.heap.size ≤ b) (hB : Below w0.heap.size w0 w) :
    Calls Try.prog 78 #[.int .u32 n, .int .i64 m, .pointer (some ⟨b, 0, none⟩)] w (PutPost n m b xs v w0 w) := by
  have BK := Aside0.mk hb
  have HO := Aside0.mk hv
  have GE := Aside0.mk hge
  have HB := Aside0.mk hB
  clear hb hv hge hB
  have hu50 := Try.underlying50
  go_enter Try.func78, Try.ntmps78
  go_wp2
  go_loopw [0, 6] (fun u0 u6 wr => ∃ (j : Nat) (v1 : Value), j ≤ m ∧ u6 = .int .i64 j ∧ u0 = .int .u32 (sh n j) ∧ Aside0 (wr.heap[b]? = some (.cells #[v1] 50 (0, 0))) ∧ Aside0 (Kd.R (Kd.int .u8) 5 wr w0.heap.size (fun k => k ≠ b) v1 (xs ++ leb n j)) ∧ Aside0 (Below w0.heap.size w0 wr) ∧ Aside0 (KeepBut w wr b v.ownBlock) ∧ Aside0 (v1.ownBlock = v.ownBlock ∨ ∃ q, v1.ownBlock = some q ∧ w.heap.size ≤ q)) (fun _ u6 _ => m - (intOf u6).toNat)
  case atStart => exact ⟨0, v, Nat.zero_le _, rfl, rfl, BK, ⟨by simpa [leb] using HO.out⟩, HB, ⟨KeepBut.refl _ _ _⟩, ⟨.inl rfl⟩⟩
  case round =>
    clear BK HO HB
    obtain ⟨j, v1, hj, rfl, rfl, BK, HO, HB, HK, HX⟩ := hrel
    obtain ⟨ys, hy⟩ : ∃ ys, ys = xs ++ leb n j := ⟨_, rfl⟩
    rw [← hy] at HO
    have hyl : ys.length ≤ 600004 := by rw [hy, List.length_append, leb_length]; omega
    obtain ⟨zs, hz⟩ : ∃ zs, zs = xs ++ leb n (j + 1) := ⟨_, rfl⟩
    have HZ := Aside0.mk hz
    clear hz
    have HY := Aside0.mk hy
    clear hy
    obtain ⟨Au, cu, eu⟩ := Kd.R_slice HO.out
    subst eu
    have hs := sh_bd n j h0 h1
    have hs0 := hs.1
    have hs1 := hs.2
    clear hs
    by_cases hlt : j < m
    · have hc0 : wr.cell? ⟨b, 0, none⟩ = some (.slice Au ys.length cu) := (blk_cell BK.out 0).trans rfl
      go_wp2_with ((with_reducible refine gate_builtin (b := .append) (xs := #[.tmp 8, .tmp 11]) rfl ?_); at_builtin; (refine Kd.R_append (Kd.int .u8) (w0 := w0) w0.heap.size rfl (.tmp 8) (.tmp 11) 50 5 (.int .u8 0) 1 rfl Try.underlying50 info5 rfl (by decide) (by omega) _ ys (sh n j % 256) [.int .u8 (sh n j % 256)] (fun k => k ≠ b) (fun _ => False) rfl rfl ?aP (fun _ hk => hk.elim) ?aF ?aO ?aB ?aS ?aL ?_); (case aP => exact rfl); (case aB => exact (by repeat (first | exact HB.out | apply below_alloc | apply pw_below_drewN | apply below_drew1))); (case aF => exact (fun k hk => Nat.ne_of_gt (Nat.lt_of_lt_of_le (blk_lt BK.out) hk))); (case aO => exact (by (with_reducible repeat (first | apply Kd.R_alloc | apply Kd.R_drewN | apply Kd.R_drew)); exact HO.out)); (case aS => exact HB.out.size); (case aL => omega); intro v12 w12 ho hb hg hat; rw [HY.out, List.append_assoc, ← leb_snoc, ← HZ.out] at ho; obtain ⟨A12, c12, e12⟩ := Kd.R_slice ho; subst e12; have BK2 := Aside0.mk (blk_grown BK.out hg (Kd.R_ne HO.out BK.out (by decide))); have HK2 := Aside0.mk (KeepBut.trans HK.out (KeepBut.of_grown hg b) HX.out); have HO2 := Aside0.mk ho; have HB2 := Aside0.mk hb; have HA2 := Aside0.mk hat; clear ho hb hg hat; have hc2 := (blk_cell BK2.out 0).trans rfl; have hf2 := blk_frozen BK2.out 0)
      go_roundw
      case rel => exact ⟨j + 1, _, by omega, by go_num, by rw [sh_succ], ⟨blk_put BK2.out 0 _ rfl⟩, ⟨by rw [← HZ.out]; exact Kd.R_far (p := ⟨b, 0, none⟩) HO2.out (fun _ hk => hk) _⟩, ⟨below_set HB2.out GE.out⟩, ⟨KeepBut.set_ HK2.out 0 _⟩, ⟨by
        rcases HA2.out with h | ⟨q, h, hq⟩
        · rcases HX.out with h9 | h9
          · exact .inl (h.trans h9)
          · exact .inr (by rw [h]; exact h9)
        · exact .inr ⟨q, h, Nat.le_trans HK.out.1 hq⟩⟩⟩
      case measure => simp [intOf]; omega
    · obtain rfl : j = m := by omega
      go_wp2
      go_end0
      exact ⟨_, rfl, BK.out, by rw [← HY.out]; exact HO.out, HB.out, HK.out⟩
theorem keep_weak {w w1 : World} {b : Nat} (h : KeepBut w w1 b none) (row : Option Nat) : KeepBut w w1 b row := ⟨h.1, fun i hi hb _ => h.2 i hi hb (by simp)⟩
theorem row_EAR (W w1 : World) (base : Nat) (x : Int) (v : Value) (ok : Nat → Prop) (hb : base ≤ W.heap.size) (hok : ∀ k, W.heap.size ≤ k → ok k)
    (h : w1.ownsRow W.heap.size 5 1 v (4 + 1) ([.int .u8 69, .int .u8 65, .int .u8 82, .int .u8 49] ++ [.int .u8 x])) : Kd.R (Kd.int .u8) 5 w1 base ok v [69, 65, 82, 49, x] := by
  refine ⟨fun k hk => hok k (own_base h k hk), [.int .u8 69, .int .u8 65, .int .u8 82, .int .u8 49, .int .u8 x], own_weaken h hb, ?_⟩
  exact Reps.one rfl (Reps.one rfl (Reps.one rfl (Reps.one rfl (Reps.one rfl (Reps.none _ _)))))
set_option maxHeartbeats 4000000 in
set_option maxRecDepth 100000 in
/-- The same of the constant bytes, which are never appended in place. -/
theorem put_first (n : Int) (b g : Nat) (w0 w : World) (h0 : 0 ≤ n) (h1 : n < 4294967296)
    (hb : w.heap[b]? = some (.cells #[.slice (some ⟨g, 0, none⟩) 4 4] 50 (0, 0))) (hg : w.heap[g]? = some (.cells #[.int .u8 69, .int .u8 65, .int .u8 82, .int .u8 49] 5 (4, 5))) (hge : w0.heap.size ≤ b) (hB : Below w0.heap.size w0 w) :
    Calls Try.prog 78 #[.int .u32 n, .int .i64 4, .pointer (some ⟨b, 0, none⟩)] w (PutPost n 4 b [69, 65, 82, 49] (.slice (some ⟨g, 0, none⟩) 4 4) w0 w) := by
  have BK := Aside0.mk hb
  have BG := Aside0.mk hg
  have GE := Aside0.mk hge
  have HB := Aside0.mk hB
  clear hb hg hge hB
  have hu50 := Try.underlying50
  obtain ⟨i0, hi, hz0, hz1, hz2⟩ := info_parts info5
  have HI := Aside0.mk (And.intro hi (And.intro hz0 (And.intro hz1 hz2)))
  clear hi hz0 hz1 hz2
  go_enter Try.func78, Try.ntmps78
  go_wp2
  go_loopw [0, 6] (fun u0 u6 wr => ∃ (j : Nat) (v1 : Value), j ≤ 4 ∧ u6 = .int .i64 j ∧ u0 = .int .u32 (sh n j) ∧ Aside0 (wr.heap[b]? = some (.cells #[v1] 50 (0, 0))) ∧ Aside0 ((j = 0 ∧ v1 = .slice (some ⟨g, 0, none⟩) 4 4 ∧ wr.heap[g]? = some (.cells #[.int .u8 69, .int .u8 65, .int .u8 82, .int .u8 49] 5 (4, 5))) ∨ (1 ≤ j ∧ Kd.R (Kd.int .u8) 5 wr w0.heap.size (fun k => k ≠ b) v1 ([69, 65, 82, 49] ++ leb n j))) ∧ Aside0 (Below w0.heap.size w0 wr) ∧ Aside0 (KeepBut w wr b (some g)) ∧ Aside0 (v1.ownBlock = some g ∨ ∃ q, v1.ownBlock = some q ∧ w.heap.size ≤ q)) (fun _ u6 _ => 4 - (intOf u6).toNat)
  case atStart => exact ⟨0, _, Nat.zero_le _, rfl, rfl, BK, ⟨.inl ⟨rfl, rfl, BG.out⟩⟩, HB, ⟨KeepBut.refl _ _ _⟩, ⟨.inl rfl⟩⟩
  case round =>
    clear BK BG HB
    obtain ⟨j, v1, hj, rfl, rfl, BK, HS, HB, HK, HX⟩ := hrel
    have hs := sh_bd n j h0 h1
    have hs0 := hs.1
    have hs1 := hs.2
    clear hs
    rcases HS.out with ⟨hj0, hv1, hg1⟩ | ⟨hj1, hr1⟩
    · subst hj0
      subst hv1
      have BG := Aside0.mk hg1
      clear hg1
      have hc0 : wr.cell? ⟨b, 0, none⟩ = some (.slice (some ⟨g, 0, none⟩) 4 4) := (blk_cell BK.out 0).trans rfl
      go_wp2_with ((with_reducible refine gate_builtin (b := .append) (xs := #[.tmp 8, .tmp 11]) rfl ?_); at_builtin; refine wpList_append_grows _ rfl (.tmp 8) (.tmp 11) 50 rfl 5 i0 (.int .u8 0) 1 1 Try.underlying50 HI.out.1 HI.out.2.1 HI.out.2.2.1 HI.out.2.2.2 rfl (by decide) (some ⟨g, 0, none⟩) 4 4 [.int .u8 69, .int .u8 65, .int .u8 82, .int .u8 49] rfl (fun h => by cases h) rfl ?aC ⟨wr.heap.size, 0, none⟩ 1 1 [.int .u8 (sh n 0 % 256)] rfl rfl ?aN ?aO (by decide) (by decide) (by decide) ?_; (case aC => intro q hq j u hu; cases hq; rw [add_plain]; exact (Go.Joins.cell_of_block (blk_alloc BG.out _) j).trans (by simpa using hu)); (case aN => intro j u hu; rw [add_plain]; exact (Go.Joins.cell_of_block (blk_new _ _) j).trans (by simpa using hu)); (case aO => intro u hu; simp at hu; subst hu; rfl); intro v12 w12 hown hgr; have hgr2 : wr.grownBy w12 none := ⟨hgr.os, hgr.tape, hgr.output, Nat.le_trans (by simp) hgr.size, fun i hi_ _ => (hgr.block i (by simp; omega) (by simp)).trans (Below.heap_alloc wr _ i hi_)⟩; have ho := row_EAR _ w12 w0.heap.size (sh n 0 % 256) v12 (fun k => k ≠ b) (Nat.le_trans HB.out.size (by simp)) (fun k hk => Nat.ne_of_gt (Nat.lt_of_lt_of_le (blk_lt BK.out) (Nat.le_trans (by simp) hk))) hown; have hat : ∃ q, v12.ownBlock = some q ∧ w.heap.size ≤ q := (by obtain ⟨q, cap, he, hq, _⟩ := hown.form (by decide); exact ⟨q, by rw [he]; rfl, Nat.le_trans HK.out.1 (Nat.le_trans (by simp) hq)⟩); clear hown hgr; obtain ⟨A12, c12, e12⟩ := Kd.R_slice ho; subst e12; have BK2 := Aside0.mk (blk_grown BK.out hgr2 (by simp)); have HK2 := Aside0.mk (KeepBut.trans HK.out (keep_weak (KeepBut.of_grown hgr2 b) (some g)) (.inl rfl)); have HO2 := Aside0.mk ho; have HB2 := Aside0.mk (HB.out.grown hgr2 HB.out.size (fun k e => by cases e)); have HA2 := Aside0.mk hat; clear ho hgr2 hat; have hc2 := (blk_cell BK2.out 0).trans rfl; have hf2 := blk_frozen BK2.out 0)
      go_roundw
      case rel => exact ⟨1, _, by omega, by go_num, rfl, ⟨blk_put BK2.out 0 _ rfl⟩, ⟨.inr ⟨by omega, Kd.R_far (p := ⟨b, 0, none⟩) HO2.out (fun _ hk => hk) _⟩⟩, ⟨below_set HB2.out GE.out⟩, ⟨KeepBut.set_ HK2.out 0 _⟩, ⟨.inr HA2.out⟩⟩
      case measure => simp [intOf]
    · have HO := Aside0.mk hr1
      clear HS hr1
      obtain ⟨ys, hy⟩ : ∃ ys, ys = [69, 65, 82, 49] ++ leb n j := ⟨_, rfl⟩
      rw [← hy] at HO
      have hyl : ys.length ≤ 600004 := by rw [hy, List.length_append, leb_length]; simp; omega
      obtain ⟨zs, hz⟩ : ∃ zs, zs = [69, 65, 82, 49] ++ leb n (j + 1) := ⟨_, rfl⟩
      have HZ := Aside0.mk hz
      clear hz
      have HY := Aside0.mk hy
      clear hy
      obtain ⟨Au, cu, eu⟩ := Kd.R_slice HO.out
      subst eu
      by_cases hlt : j < 4
      · have hc0 : wr.cell? ⟨b, 0, none⟩ = some (.slice Au ys.length cu) := (blk_cell BK.out 0).trans rfl
        go_wp2_with ((with_reducible refine gate_builtin (b := .append) (xs := #[.tmp 8, .tmp 11]) rfl ?_); at_builtin; (refine Kd.R_append (Kd.int .u8) (w0 := w0) w0.heap.size rfl (.tmp 8) (.tmp 11) 50 5 (.int .u8 0) 1 rfl Try.underlying50 info5 rfl (by decide) (by omega) _ ys (sh n j % 256) [.int .u8 (sh n j % 256)] (fun k => k ≠ b) (fun _ => False) rfl rfl ?aP (fun _ hk => hk.elim) ?aF ?aO ?aB ?aS ?aL ?_); (case aP => exact rfl); (case aB => exact (by repeat (first | exact HB.out | apply below_alloc | apply pw_below_drewN | apply below_drew1))); (case aF => exact (fun k hk => Nat.ne_of_gt (Nat.lt_of_lt_of_le (blk_lt BK.out) hk))); (case aO => exact (by (with_reducible repeat (first | apply Kd.R_alloc | apply Kd.R_drewN | apply Kd.R_drew)); exact HO.out)); (case aS => exact HB.out.size); (case aL => omega); intro v12 w12 ho hb hg hat; rw [HY.out, List.append_assoc, ← leb_snoc, ← HZ.out] at ho; obtain ⟨A12, c12, e12⟩ := Kd.R_slice ho; subst e12; have BK2 := Aside0.mk (blk_grown BK.out hg (Kd.R_ne HO.out BK.out (by decide))); have HK2 := Aside0.mk (KeepBut.trans HK.out (KeepBut.of_grown hg b) HX.out); have HO2 := Aside0.mk ho; have HB2 := Aside0.mk hb; have HA2 := Aside0.mk hat; clear ho hb hg hat; have hc2 := (blk_cell BK2.out 0).trans rfl; have hf2 := blk_frozen BK2.out 0)
        go_roundw
        case rel => exact ⟨j + 1, _, by omega, by go_num, by rw [sh_succ], ⟨blk_put BK2.out 0 _ rfl⟩, ⟨.inr ⟨by omega, by rw [← HZ.out]; exact Kd.R_far (p := ⟨b, 0, none⟩) HO2.out (fun _ hk => hk) _⟩⟩, ⟨below_set HB2.out GE.out⟩, ⟨KeepBut.set_ HK2.out 0 _⟩, ⟨by
          rcases HA2.out with h | ⟨q, h, hq⟩
          · rcases HX.out with h9 | h9
            · exact .inl (h.trans h9)
            · exact .inr (by rw [h]; exact h9)
          · exact .inr ⟨q, h, Nat.le_trans HK.out.1 hq⟩⟩⟩
        case measure => simp [intOf]; omega
      · obtain rfl : j = 4 := by omega
        go_wp2
        go_end0
        exact ⟨_, rfl, BK.out, by rw [← HY.out]; exact HO.out, HB.out, HK.out⟩
end Go.Proofs.Ytigbfcodnbnicaa.P
