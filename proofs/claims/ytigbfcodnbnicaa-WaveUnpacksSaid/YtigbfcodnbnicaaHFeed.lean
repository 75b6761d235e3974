/- Feed of a listener with samples: the segments that end, and what it then remembers; for gates as defined, and at most 2^31 samples in all. -/
import Derived.Test.YtigbfcodnbnicaaHFeedA
import Derived.Deep.QuietTactic
import Derived.BigQuiet
set_option linter.unusedVariables false
set_option linter.unusedSimpArgs false
namespace Go.Proofs.Ytigbfcodnbnicaa.P
open Go.RowKit Go.Proofs.YtigbfcodnbnicaaW.PrintWords Go.Proofs.YtigbfcodnbnicaaW.PrintLast Go.Proofs.YtigbfcodnbnicaaW.PrintMore
attribute [local go_sem] max2_int min2_int max_two min_two max_three min_three max_four min_four

def lenOf : Value → Nat
  | .slice _ n _ => n
  | _ => 0
/-- The listener, the segments and the ring behind q blocks. -/
def stQ (g : Gt) (q : Nat) (s : Ls) (r : List Int) : Ls := (runBlocks g q s r).1
def outQ (g : Gt) (q : Nat) (s : Ls) (r : List Int) : List S65 := (runBlocks g q s r).2
def restQ (g : Gt) (q : Nat) (r : List Int) : List Int := r.drop (q * g.block.toNat)
def blkQ (g : Gt) (q : Nat) (r : List Int) : List Int := (r.drop (q * g.block.toNat)).take g.block.toNat
theorem stQ_succ (g : Gt) (q : Nat) (s : Ls) (r : List Int) : stQ g (q + 1) s r = (proc g (stQ g q s r) (sumsq (blkQ g q r))).1 := by unfold stQ blkQ; rw [runBlocks_snoc]
theorem outQ_succ (g : Gt) (q : Nat) (s : Ls) (r : List Int) : outQ g (q + 1) s r = outQ g q s r ++ (proc g (stQ g q s r) (sumsq (blkQ g q r))).2.toList := by unfold stQ outQ blkQ; rw [runBlocks_snoc]
theorem restQ_succ (g : Gt) (q : Nat) (r : List Int) : (restQ g q r).drop g.block.toNat = restQ g (q + 1) r := by unfold restQ; rw [List.drop_drop, Nat.add_mul, Nat.one_mul]
theorem R_two {α β : Type} {d1 : Kd α} {d2 : Kd β} {e1 e2 b1 b2 : Nat} {k1 k2 : Nat → Prop} {W : World} {v1 v2 : Value} {xs : List α} {ys : List β} (h1 : d1.R e1 W b1 k1 v1 xs) (h2 : d2.R e2 W b2 k2 v2 ys) (hE1 : d1.E = []) (hE2 : d2.E = []) (hne : e1 ≠ e2) : ∀ k, v1.ownBlock = some k → some k ≠ v2.ownBlock := by
  intro k a1 a2
  obtain ⟨_, _, _, q1, m1, c1, x1⟩ := (Kd.R_bound h1).1 k a1
  obtain ⟨_, _, _, q2, m2, c2, x2⟩ := (Kd.R_bound h2).1 k a2.symm
  rw [hE1, List.mem_singleton] at m1
  rw [hE2, List.mem_singleton] at m2
  rw [x1] at x2
  injection x2 with x2
  injection x2 with _ x3
  exact hne (by rw [← m1, ← m2]; exact x3)
theorem outQ_length (g : Gt) (s : Ls) (r : List Int) : ∀ q : Nat, (outQ g q s r).length ≤ q
  | 0 => by simp [outQ, runBlocks]
  | q + 1 => by
    have := outQ_length g s r q
    rw [outQ_succ, List.length_append]
    have : (proc g (stQ g q s r) (sumsq (blkQ g q r))).2.toList.length ≤ 1 := by cases (proc g (stQ g q s r) (sumsq (blkQ g q r))).2 <;> simp
    omega
set_option maxHeartbeats 8000000 in
set_option maxRecDepth 100000 in
theorem feed_good (g : Gt) (s : Ls) (smp : Int) (Ab : Option Addr) (cb b : Nat) (blk : List Int) (A0 : Option Addr) (c0 : Nat) (l ring : List Int) (hring : ring = blk ++ l) (w0 w : World) (hg : gateOK g = true) (hi : Inv s) (hbl : s.blocks ≤ 2147483648) (hs0 : 0 ≤ smp) (hs1 : smp + l.length ≤ 2147483648)
    (hr : Kd.C (Kd.int .i64) w0 A0 l.length l) (hv : inR (-32768) 32767 l = true) (hl : l.length ≤ 200000) (hk : ∀ v ∈ blk, -32768 ≤ v ∧ v ≤ 32767) (hkl : blk.length ≤ 4096)
    (hb : w.heap[b]? = some (.cells (lsCells g s smp (.slice Ab blk.length cb)) 71 (0, 0))) (hvb : Kd.R (Kd.int .i64) 3 w w0.heap.size (fun _ => True) (.slice Ab blk.length cb) blk) (hge : w0.heap.size ≤ b) (hB : Below w0.heap.size w0 w) :
    Calls Try.prog 37 #[.pointer (some ⟨b, 0, none⟩), .slice A0 l.length c0] w (FeedPost g s smp ring l.length b w0 w) := by
  have HR0 := Aside0.mk (Kd.C_below hr hB)
  have HV := Aside0.mk hv
  have HVB := Aside0.mk hvb
  have HG := Aside0.mk hg
  have HI := Aside0.mk hi
  have HRG := Aside0.mk (fun v (hm : v ∈ ring) => (show -32768 ≤ v ∧ v ≤ 32767 from by
    rw [hring] at hm
    rcases List.mem_append.1 hm with h | h
    · exact hk v h
    · exact inR_mem hv v h))
  have BKb : Aside0 (w.heap[b]? = some (.cells #[.int .i64 g.block, .int .i64 g.high, .int .i64 g.low, .int .i64 g.rise, .int .i64 g.fall, .int .i64 g.lead, .int .i64 g.longest, .bool true, .int .i64 s.state, .slice Ab blk.length cb, .int .i64 s.blocks, .int .i64 (smp), .int .i64 s.run, .int .i64 s.start, .int .i64 s.free] 71 (0, 0))) := ⟨hb⟩
  have GEb := Aside0.mk hge
  have HRI := Aside0.mk hring
  clear hring
  have HB0 := Aside0.mk hB
  have hu41 := Try.underlying41
  have hu65 := Try.underlying65
  have hu71 := Try.underlying71
  have q0 : (s.state == 2) = false := beq_eq_false_iff_ne.2 (by rcases hi.st with h | h <;> omega)
  have hc7 : w.cell? ⟨b, 7, none⟩ = some (.bool true) := (blk_cell BKb.out 7).trans rfl
  have hc8 : w.cell? ⟨b, 8, none⟩ = some (.int .i64 s.state) := (blk_cell BKb.out 8).trans rfl
  have hc9 : w.cell? ⟨b, 9, none⟩ = some (.slice Ab blk.length cb) := (blk_cell BKb.out 9).trans rfl
  have hc11 : w.cell? ⟨b, 11, none⟩ = some (.int .i64 smp) := (blk_cell BKb.out 11).trans rfl
  clear hr hv hk hb hvb hge hB hg hi
  obtain ⟨gb1, gb2, gl1, gl2, gh1, gr1, gr2, gf1, gf2, gd1, gd2, gn1, gn2⟩ := gate_ok HG.out
  go_enter Try.func37, Try.ntmps37
  go_wp2_with (first | (go_at_call 75; refine (usable_yes _ _ true hc7).mono ?_; rintro e w' ⟨rfl, hw_⟩; obtain rfl := hw_.symm; clear hw_) | (go_at_call 76; refine (samples_still A0 c0 l _ true HR0.out hl HV.out).mono ?_; rintro e w' ⟨rfl, hw_⟩; obtain rfl := hw_.symm; clear hw_) | ((with_reducible refine gate_builtin (b := .append) (xs := #[.const (.slice none 0 0), .tmp 40]) rfl ?_); at_builtin; refine Kd.R_append_rows (Kd.int .i64) (w0 := w) w.heap.size rfl (.const (.slice none 0 0)) (.tmp 40) 22 3 (.int .i64 0) 8 rfl Try.underlying22 info3 rfl (by decide) (by omega) (.slice none 0 0) ([] : List Int) blk _ _ _ (fun q => q ≠ b) (fun _ => False) rfl rfl (Kd.R_nil _ _ _ _ _) ?aR (fun _ _ h => h) (fun _ h => h.elim) (fun q hq => Nat.ne_of_gt (Nat.lt_of_lt_of_le (blk_lt BKb.out) hq)) (Below.refl _ _) (Nat.le_refl _) ?aL ?_; (case aR => exact (Kd.R_reads' HVB.out).2.2); (case aL => simp; omega); intro v41 w41 ho hb_ hg_ hnew_; rw [List.nil_append] at ho; have HO41 := Aside0.mk ho; have HW41 := Aside0.mk hb_; clear ho hb_ hg_ hnew_) | ((with_reducible refine gate_builtin (b := .append) (xs := #[.tmp 41, .tmp 42]) rfl ?_); at_builtin; refine Kd.R_append_rows (Kd.int .i64) (w0 := w) w.heap.size rfl (.tmp 41) (.tmp 42) 22 3 (.int .i64 0) 8 rfl Try.underlying22 info3 rfl (by decide) (by omega) v41 blk l _ _ _ (fun q => q ≠ b) (fun _ => False) rfl rfl HO41.out ?aR2 (fun _ _ h => h) (fun _ h => h.elim) (fun q hq => Nat.ne_of_gt (Nat.lt_of_lt_of_le (blk_lt (blk_below BKb.out HW41.out)) hq)) HW41.out HW41.out.size ?aL2 ?_; (case aR2 => exact Kd.C_below HR0.out HW41.out); (case aL2 => omega); intro v43 w43 ho hb_ hg_ hnew_; rw [← HRI.out] at ho; have HO43 := Aside0.mk ho; have HW43 := Aside0.mk hb_; clear ho hb_ hg_ hnew_; have BKb := Aside0.mk (blk_below BKb.out HW43.out); have hcs : w43.cell? ⟨b, 11, none⟩ = some (.int .i64 smp) := (blk_cell BKb.out 11).trans rfl; have hfs := blk_frozen BKb.out 11))
  obtain ⟨A7, c7, e7⟩ := Kd.R_slice HO43.out
  subst e7
  have hc7l := (Kd.R_reads' HO43.out).2.1
  have z1_ : Aside0 ((w43.setCell ⟨b, 11, none⟩ (.int .i64 (smp + l.length))).heap[b]? = some (.cells #[.int .i64 g.block, .int .i64 g.high, .int .i64 g.low, .int .i64 g.rise, .int .i64 g.fall, .int .i64 g.lead, .int .i64 g.longest, .bool true, .int .i64 s.state, .slice Ab blk.length cb, .int .i64 s.blocks, .int .i64 (smp + l.length), .int .i64 s.run, .int .i64 s.start, .int .i64 s.free] 71 (0, 0))) := ⟨blk_put BKb.out 11 _ rfl⟩
  have z2_ : Aside0 (Below w0.heap.size w0 (w43.setCell ⟨b, 11, none⟩ (.int .i64 (smp + l.length)))) := ⟨below_set (below_then HB0.out HB0.out.size HW43.out) GEb.out⟩
  have z3_ : Aside0 (KeepBut w (w43.setCell ⟨b, 11, none⟩ (.int .i64 (smp + l.length))) b none) := ⟨KeepBut.set_ (KeepBut.of_below HW43.out b none) _ _⟩
  have z4_ : Aside0 (KeepBut w43 (w43.setCell ⟨b, 11, none⟩ (.int .i64 (smp + l.length))) b none) := ⟨KeepBut.set_ (KeepBut.refl _ _ _) _ _⟩
  have HVB := Aside0.mk (show Kd.R (Kd.int .i64) 3 w w0.heap.size (fun _ => True) (.slice Ab blk.length cb) blk from HVB.out)
  have hw0w := HB0.out.size
  clear BKb HB0 hcs hfs hc7 hc8 hc9 hc11
  generalize w43.setCell ⟨b, 11, none⟩ (.int .i64 (smp + l.length)) = w44 at z1_ z2_ z3_ z4_ ⊢
  obtain ⟨n, hn⟩ : ∃ n, n = ring.length := ⟨_, rfl⟩
  have hn2 : n ≤ 204096 := by rw [hn, HRI.out, List.length_append]; omega
  obtain ⟨B, hBB⟩ := Int.eq_ofNat_of_zero_le (show 0 ≤ g.block by omega)
  have hB1 : 1 ≤ B := by omega
  have hBn : g.block.toNat = B := by omega
  have hrl : ∀ q, (restQ g q ring).length = n - q * B := by intro q; unfold restQ; rw [List.length_drop, hBn, hn]
  have HRL := Aside0.mk hrl
  have HBB := Aside0.mk hBB
  have HN := Aside0.mk hn
  have HBN := Aside0.mk hBn
  clear hrl hBB hn hBn
  go_loopw [6, 7] (fun v6 v7 wr => ∃ (q : Nat) (A : Option Addr) (c : Nat), q * B ≤ n ∧ v7 = .slice A (restQ g q ring).length c ∧ (restQ g q ring).length ≤ c ∧ Aside0 (∀ W, (Kd.int .i64).C W A7 ring.length ring → (Kd.int .i64).C W A (restQ g q ring).length (restQ g q ring)) ∧ Aside0 (Kd.R (Kd.int .i64) 3 wr w.heap.size (fun k_ => k_ ≠ b) (.slice A7 ring.length c7) ring) ∧ Aside0 (Kd.R k65 65 wr w.heap.size (fun k_ => k_ ≠ b) v6 (outQ g q s ring)) ∧ Aside0 (wr.heap[b]? = some (.cells #[.int .i64 g.block, .int .i64 g.high, .int .i64 g.low, .int .i64 g.rise, .int .i64 g.fall, .int .i64 g.lead, .int .i64 g.longest, .bool true, .int .i64 (stQ g q s ring).state, .slice Ab blk.length cb, .int .i64 (stQ g q s ring).blocks, .int .i64 (smp + l.length), .int .i64 (stQ g q s ring).run, .int .i64 (stQ g q s ring).start, .int .i64 (stQ g q s ring).free] 71 (0, 0))) ∧ Aside0 (Below w0.heap.size w0 wr) ∧ Aside0 (KeepBut w wr b none)) (fun _ v7 _ => lenOf v7)
  case atStart =>
    refine ⟨0, A7, c7, by omega, ?_, ?_, ?_, ?_, ⟨Kd.R_nil _ _ _ _ _⟩, z1_, z2_, z3_⟩
    · simp [restQ]
    · simp [restQ]; simpa using hc7l
    · exact ⟨fun W h => by simpa [restQ] using h⟩
    · exact ⟨Kd.R_keep HO43.out z4_.out (fun _ h => h)⟩
  case round =>
    clear z1_ z2_ z3_ z4_ HO43
    obtain ⟨q, A, c, hq, rfl, hc, HD, HOr, HOo, BKb, HB, HK⟩ := hrel
    have HF : Aside0 (∀ W', KeepBut wr W' b none → (Kd.int .i64).C W' A (restQ g q ring).length (restQ g q ring)) := ⟨fun W' hk => HD.out _ (Kd.C_foot_own HOr.out (fun _ h => h) W' hk)⟩
    have hqn : q ≤ n := Nat.le_trans (Nat.le_mul_of_pos_right q hB1) hq
    have hcb0 : wr.cell? ⟨b, 0, none⟩ = some (.int .i64 g.block) := (blk_cell BKb.out 0).trans rfl
    by_cases hlt : g.block ≤ (restQ g q ring).length
    · have hd : decide (g.block ≤ ((restQ g q ring).length : Int)) = true := decide_eq_true hlt
      go_wp2_with fail
      have hsl := slice_hm22 A (restQ g q ring).length c g.block (by omega) (by omega)
      obtain ⟨E, HE⟩ : ∃ E, Aside0 (E = sumsq (blkQ g q ring)) := ⟨_, ⟨rfl⟩⟩
      obtain ⟨s2, o2, HP⟩ : ∃ s2 o2, Aside0 (proc g (stQ g q s ring) E = (s2, o2)) := ⟨_, _, ⟨rfl⟩⟩
      have hri := run_inv HG.out q s ring HI.out
      have HC : Aside0 (∀ W, KeepBut wr.drew W b none → W.heap[b]? = some (.cells #[.int .i64 g.block, .int .i64 g.high, .int .i64 g.low, .int .i64 g.rise, .int .i64 g.fall, .int .i64 g.lead, .int .i64 g.longest, .bool true, .int .i64 (stQ g q s ring).state, .slice Ab blk.length cb, .int .i64 (stQ g q s ring).blocks, .int .i64 (smp + l.length), .int .i64 (stQ g q s ring).run, .int .i64 (stQ g q s ring).start, .int .i64 (stQ g q s ring).free] 71 (0, 0)) → Below w0.heap.size w0 W → Calls Try.prog 77 #[.pointer (some ⟨b, 0, none⟩), .slice A g.block.toNat g.block.toNat] W (fun e w' => e = .returned (.tuple #[.agg #[.int .i64 (segOf o2).f0, .int .i64 (segOf o2).f1], .bool o2.isSome]) ∧ w'.heap[b]? = some (.cells #[.int .i64 g.block, .int .i64 g.high, .int .i64 g.low, .int .i64 g.rise, .int .i64 g.fall, .int .i64 g.lead, .int .i64 g.longest, .bool true, .int .i64 s2.state, .slice Ab blk.length cb, .int .i64 s2.blocks, .int .i64 (smp + l.length), .int .i64 s2.run, .int .i64 s2.start, .int .i64 s2.free] 71 (0, 0)) ∧ Below w0.heap.size w0 w' ∧ KeepBut W w' b none)) := ⟨by
        intro W hk hbW hBW
        have hlt2 : g.block.toNat ≤ (restQ g q ring).length := by omega
        have hlb : (blkQ g q ring).length = g.block.toNat := by
          have h1 := hlt
          unfold restQ at h1
          unfold blkQ
          rw [List.length_take]
          omega
        have h := process_calls g (stQ g q s ring) (smp + l.length) Ab blk.length cb b A g.block.toNat (blkQ g q ring) w0 W HG.out hri.1 (by have := hri.2; unfold stQ; omega) (fun W2 hk2 => Kd.C_take (HF.out W2 (KeepBut.trans (KeepBut.trans (keep_drew (KeepBut.refl _ _ _)) hk (.inl rfl)) hk2 (.inl rfl))) hlt2) (fun v hm => HRG.out v (List.mem_of_mem_drop (List.mem_of_mem_take hm))) (by omega) hbW GEb.out hBW
        rw [hlb] at h
        refine h.mono ?_
        intro e w' hp
        unfold ProcPost at hp
        rw [← HE.out, HP.out] at hp
        exact hp⟩
      clear hri
      have BKb := Aside0.mk (blk_drew BKb.out)
      have HB := Aside0.mk (below_drew1 HB.out)
      have HK := Aside0.mk (keep_drew HK.out)
      clear HF
      have HOo := Aside0.mk (Kd.R_drew HOo.out)
      have HOr := Aside0.mk (Kd.R_drew HOr.out)
      have hp0 : wr.drew.cell? ⟨b, 0, none⟩ = some (.int .i64 g.block) := (blk_cell BKb.out 0).trans rfl
      refine start_ (n := 20) (S := fun w' => w'.cell? ⟨b, 0, none⟩ = some (.int .i64 g.block)) (ds := []) #[false, false, false, false, false, false, false, false, false, false, false, false, false, false, false, false, false, false, false, false] (by kernel_rfl) rfl rfl (hp0) (fun hHeld => ?_)
      generalize wr.drew = w5 at BKb HB HK HOr HOo HC hHeld ⊢
      refine pure_ (i := 0) (N := some 62) (v := ?_) (a' := ?_) #[true, false, false, false, false, false, false, false, false, false, false, false, false, false, false, false, false, false, false, false] rfl rfl (by kernel_rfl) (fun _ _ _ h => h) (Or.inl ⟨by rfl, ?_⟩) ?_ ?_
      rotate_left
      · intro w'
        go_simp
        with_reducible rfl
      rotate_left
      · simp only [Act.put, List.setIfInBounds_toArray, List.set_cons_zero, List.set_cons_succ, i64_w, i32_w]
        rfl
      refine pure_ (i := 1) (N := some 63) (v := ?_) (a' := ?_) #[true, true, false, false, false, false, false, false, false, false, false, false, false, false, false, false, false, false, false, false] rfl rfl (by kernel_rfl) (fun _ _ _ h => h) (Or.inl ⟨by rfl, ?_⟩) ?_ ?_
      rotate_left
      · intro w'
        go_simp
        with_reducible rfl
      rotate_left
      · simp only [Act.put, List.setIfInBounds_toArray, List.set_cons_zero, List.set_cons_succ, i64_w, i32_w]
        rfl
      refine pure_ (i := 2) (N := some 64) (v := ?_) (a' := ?_) #[true, true, true, false, false, false, false, false, false, false, false, false, false, false, false, false, false, false, false, false] rfl rfl (by kernel_rfl) (fun _ _ _ h => h) (Or.inl ⟨by rfl, ?_⟩) ?_ ?_
      rotate_left
      · intro w'
        go_simp
        with_reducible rfl
      rotate_left
      · simp only [Act.put, List.setIfInBounds_toArray, List.set_cons_zero, List.set_cons_succ, i64_w, i32_w]
        rfl
      refine pure_ (i := 3) (N := some 65) (v := ?_) (a' := ?_) #[true, true, true, true, false, false, false, false, false, false, false, false, false, false, false, false, false, false, false, false] rfl rfl (by kernel_rfl) (fun _ _ _ h => h) (Or.inl ⟨by rfl, ?_⟩) ?_ ?_
      rotate_left
      · intro w'
        go_simp
        with_reducible rfl
      rotate_left
      · simp only [Act.put, List.setIfInBounds_toArray, List.set_cons_zero, List.set_cons_succ, i64_w, i32_w]
        rfl
      refine pure_ (i := 4) (N := some 66) (v := ?_) (a' := ?_) #[true, true, true, true, true, false, false, false, false, false, false, false, false, false, false, false, false, false, false, false] rfl rfl (by kernel_rfl) (fun _ _ _ h => h) (Or.inl ⟨by rfl, ?_⟩) ?_ ?_
      rotate_left
      · intro w'
        go_simp
        with_reducible rfl
      rotate_left
      · simp only [Act.put, List.setIfInBounds_toArray, List.set_cons_zero, List.set_cons_succ, i64_w, i32_w]
        rfl
      refine pure_ (i := 5) (N := some 67) (v := ?_) (a' := ?_) #[true, true, true, true, true, true, false, false, false, false, false, false, false, false, false, false, false, false, false, false] rfl rfl (by kernel_rfl) (fun _ _ _ h => h) (Or.inl ⟨by rfl, ?_⟩) ?_ ?_
      rotate_left
      · intro w'
        go_simp
        with_reducible rfl
      rotate_left
      · simp only [Act.put, List.setIfInBounds_toArray, List.set_cons_zero, List.set_cons_succ, i64_w, i32_w]
        rfl
      refine pure_ (i := 7) (N := some 69) (v := ?_) (a' := ?_) #[true, true, true, true, true, true, false, true, false, false, false, false, false, false, false, false, false, false, false, false] rfl rfl (by kernel_rfl) (fun _ _ _ h => h) (Or.inl ⟨by rfl, ?_⟩) ?_ ?_
      rotate_left
      · intro w'
        go_simp
        with_reducible rfl
      rotate_left
      · simp only [Act.put, List.setIfInBounds_toArray, List.set_cons_zero, List.set_cons_succ, i64_w, i32_w]
        rfl
      refine pure_ (i := 8) (N := some 70) (v := ?_) (a' := ?_) #[true, true, true, true, true, true, false, true, true, false, false, false, false, false, false, false, false, false, false, false] rfl rfl (by kernel_rfl) (fun _ _ _ h => h) (Or.inl ⟨by rfl, ?_⟩) ?_ ?_
      rotate_left
      · intro w'
        go_simp
        with_reducible rfl
      rotate_left
      · simp only [Act.put, List.setIfInBounds_toArray, List.set_cons_zero, List.set_cons_succ, i64_w, i32_w]
        rfl
      refine pure_ (i := 9) (N := some 71) (v := ?_) (a' := ?_) #[true, true, true, true, true, true, false, true, true, true, false, false, false, false, false, false, false, false, false, false] rfl rfl (by kernel_rfl) (fun _ _ _ h => h) (Or.inl ⟨by rfl, ?_⟩) ?_ ?_
      rotate_left
      · intro w'
        go_simp
        with_reducible rfl
      rotate_left
      · simp only [Act.put, List.setIfInBounds_toArray, List.set_cons_zero, List.set_cons_succ, i64_w, i32_w]
        rfl
      refine pure_ (i := 10) (N := some 72) (v := ?_) (a' := ?_) #[true, true, true, true, true, true, false, true, true, true, true, false, false, false, false, false, false, false, false, false] rfl rfl (by kernel_rfl) (fun _ _ _ h => h) (Or.inl ⟨by rfl, ?_⟩) ?_ ?_
      rotate_left
      · intro w'
        go_simp
        with_reducible rfl
      rotate_left
      · simp only [Act.put, List.setIfInBounds_toArray, List.set_cons_zero, List.set_cons_succ, i64_w, i32_w]
        rfl
      refine take_ (i := 6) (N := some 68) (v := ?_) (a' := ?_) #[true, true, true, true, true, true, true, true, true, true, true, false, false, false, false, false, false, false, false, false] rfl rfl (by kernel_rfl) (fun _ _ _ h => h) (Or.inl ⟨by rfl, ?_⟩) hHeld ?_ ?_
      rotate_left
      · intro w' s0
        go_simp
        with_reducible rfl
      rotate_left
      · simp only [Act.put, List.setIfInBounds_toArray, List.set_cons_zero, List.set_cons_succ, i64_w, i32_w]
        rfl
      refine take_ (i := 11) (N := some 73) (v := ?_) (a' := ?_) #[true, true, true, true, true, true, true, true, true, true, true, true, false, false, false, false, false, false, false, false] rfl rfl (by kernel_rfl) (fun _ _ _ h => h) (Or.inl ⟨by rfl, ?_⟩) hHeld ?_ ?_
      rotate_left
      · intro w' s0
        go_simp
        with_reducible rfl
      rotate_left
      · simp only [Act.put, List.setIfInBounds_toArray, List.set_cons_zero, List.set_cons_succ, i64_w, i32_w]
        rfl
      refine pure_ (i := 12) (N := some 74) (v := ?_) (a' := ?_) #[true, true, true, true, true, true, true, true, true, true, true, true, true, false, false, false, false, false, false, false] rfl rfl (by kernel_rfl) (fun _ _ _ h => h) (Or.inl ⟨by rfl, ?_⟩) ?_ ?_
      rotate_left
      · intro w'
        go_simp
        with_reducible rfl
      rotate_left
      · simp only [Act.put, List.setIfInBounds_toArray, List.set_cons_zero, List.set_cons_succ, i64_w, i32_w]
        rfl
      refine join_ (σ := Nat) 2 #[true, true, true, true, true, true, true, true, true, true, true, true, true, true, true, true, true, true, false, false] (fun gv => [(75, .tuple #[.agg #[.int .i64 (segOf o2).f0, .int .i64 (segOf o2).f1], .bool o2.isSome]), (61, .tuple #[.agg #[.int .i64 (segOf o2).f0, .int .i64 (segOf o2).f1], .bool o2.isSome]), (76, .agg #[.int .i64 (segOf o2).f0, .int .i64 (segOf o2).f1]), (77, .bool o2.isSome), (8, .pointer (some ⟨gv, 0, none⟩))]) (fun (gv : Nat) w' => w5.heap.size ≤ gv ∧ w'.heap[gv]? = some (.cells #[.int .i64 0, .int .i64 0] 65 (0, 0)) ∧ w'.heap[b]? = some (.cells #[.int .i64 g.block, .int .i64 g.high, .int .i64 g.low, .int .i64 g.rise, .int .i64 g.fall, .int .i64 g.lead, .int .i64 g.longest, .bool true, .int .i64 s2.state, .slice Ab blk.length cb, .int .i64 s2.blocks, .int .i64 (smp + l.length), .int .i64 s2.run, .int .i64 s2.start, .int .i64 s2.free] 71 (0, 0)) ∧ Below w0.heap.size w0 w' ∧ KeepBut w5 w' b none) ?_ ?_
      rotate_left
      · intro hCont
        refine two_ (i := 13) (j := 17) (Ni := some 75) (Nj := some 8) #[true, true, true, true, true, true, true, true, true, true, true, true, true, true, false, false, false, false, false, false] #[true, true, true, true, true, true, true, true, true, true, true, true, true, false, false, false, false, true, false, false] rfl rfl rfl rfl (by kernel_rfl) (by decide) (by decide) (fun K hK => ?_) (fun K hK => ?_)
        · skip
          refine goes_ Try.func77 (by kernel_rfl) rfl #[.pointer (some ⟨b, 0, none⟩), .slice A g.block.toNat g.block.toNat] (by rfl) rfl rfl (by simp only [List.map_toArray, List.map_cons, List.map_nil]; rfl) ?_
          refine (HC.out _ (KeepBut.refl _ _ _) BKb.out HB.out).mono ?_
          rintro e w' ⟨rfl, hb_, hB_, hk_⟩
          refine ⟨_, rfl, ?_⟩
          refine hK.out _ _ ((blk_cell hb_ 0).trans rfl) (fun hHeld => ?_)
          clear hK K
          refine norm_ (a' := ?_) ?_ ?_
          rotate_left
          · show Act.put _ (some 75) _ = _
            simp only [Act.put, List.setIfInBounds_toArray, List.set_cons_zero, List.set_cons_succ, i64_w, i32_w]
            rfl
          refine pure_ (i := 14) (N := some 61) (v := ?_) (a' := ?_) #[true, true, true, true, true, true, true, true, true, true, true, true, true, true, true, false, false, false, false, false] rfl rfl (by kernel_rfl) (fun _ _ _ h => h) (Or.inl ⟨by rfl, ?_⟩) ?_ ?_
          rotate_left
          · intro w'
            go_simp
            with_reducible rfl
          rotate_left
          · simp only [Act.put, List.setIfInBounds_toArray, List.set_cons_zero, List.set_cons_succ, i64_w, i32_w]
            rfl
          refine pure_ (i := 15) (N := some 76) (v := ?_) (a' := ?_) #[true, true, true, true, true, true, true, true, true, true, true, true, true, true, true, true, false, false, false, false] rfl rfl (by kernel_rfl) (fun _ _ _ h => h) (Or.inl ⟨by rfl, ?_⟩) ?_ ?_
          rotate_left
          · intro w'
            go_simp
            with_reducible rfl
          rotate_left
          · simp only [Act.put, List.setIfInBounds_toArray, List.set_cons_zero, List.set_cons_succ, i64_w, i32_w]
            rfl
          refine pure_ (i := 16) (N := some 77) (v := ?_) (a' := ?_) #[true, true, true, true, true, true, true, true, true, true, true, true, true, true, true, true, true, false, false, false] rfl rfl (by kernel_rfl) (fun _ _ _ h => h) (Or.inl ⟨by rfl, ?_⟩) ?_ ?_
          rotate_left
          · intro w'
            go_simp
            with_reducible rfl
          rotate_left
          · simp only [Act.put, List.setIfInBounds_toArray, List.set_cons_zero, List.set_cons_succ, i64_w, i32_w]
            rfl
          refine one_ (i := 17) (N := some 8) #[true, true, true, true, true, true, true, true, true, true, true, true, true, true, true, true, true, true, false, false] rfl rfl (by kernel_rfl) (by decide) (fun K hK => ?_)
          refine value_ (w1 := ?_) (v := ?_) (by rfl) rfl ?_ ?_
          rotate_left 2
          · go_simp
            constructor
            · rfl
            · rfl
          refine hK.out _ _ ((blk_cell (blk_alloc hb_ _) 0).trans rfl) (fun hHeld => ?_)
          clear hK K
          refine norm_ (a' := ?_) ?_ ?_
          rotate_left
          · show Act.put _ (some 8) _ = _
            simp only [Act.put, List.setIfInBounds_toArray, List.set_cons_zero, List.set_cons_succ, i64_w, i32_w]
            rfl
          exact norm_ (by simp only [putAll, Act.put, List.setIfInBounds_toArray, List.set_cons_zero, List.set_cons_succ]) (hCont _ _ ⟨hk_.1, blk_new _ _, blk_alloc hb_ _, below_alloc hB_ _, keep_alloc hk_ _⟩)
        · skip
          refine value_ (w1 := ?_) (v := ?_) (by rfl) rfl ?_ ?_
          rotate_left 2
          · go_simp
            constructor
            · rfl
            · rfl
          refine hK.out _ _ ((blk_cell (blk_alloc BKb.out _) 0).trans rfl) (fun hHeld => ?_)
          clear hK K
          refine norm_ (a' := ?_) ?_ ?_
          rotate_left
          · show Act.put _ (some 8) _ = _
            simp only [Act.put, List.setIfInBounds_toArray, List.set_cons_zero, List.set_cons_succ, i64_w, i32_w]
            rfl
          refine one_ (i := 13) (N := some 75) #[true, true, true, true, true, true, true, true, true, true, true, true, true, true, false, false, false, true, false, false] rfl rfl (by kernel_rfl) (by decide) (fun K hK => ?_)
          refine goes_ Try.func77 (by kernel_rfl) rfl #[.pointer (some ⟨b, 0, none⟩), .slice A g.block.toNat g.block.toNat] (by rfl) rfl rfl (by simp only [List.map_toArray, List.map_cons, List.map_nil]; rfl) ?_
          refine (HC.out _ (keep_alloc (KeepBut.refl _ _ _) _) (blk_alloc BKb.out _) (below_alloc HB.out _)).mono ?_
          rintro e w' ⟨rfl, hb_, hB_, hk_⟩
          refine ⟨_, rfl, ?_⟩
          refine hK.out _ _ ((blk_cell hb_ 0).trans rfl) (fun hHeld => ?_)
          clear hK K
          refine norm_ (a' := ?_) ?_ ?_
          rotate_left
          · show Act.put _ (some 75) _ = _
            simp only [Act.put, List.setIfInBounds_toArray, List.set_cons_zero, List.set_cons_succ, i64_w, i32_w]
            rfl
          refine pure_ (i := 14) (N := some 61) (v := ?_) (a' := ?_) #[true, true, true, true, true, true, true, true, true, true, true, true, true, true, true, false, false, true, false, false] rfl rfl (by kernel_rfl) (fun _ _ _ h => h) (Or.inl ⟨by rfl, ?_⟩) ?_ ?_
          rotate_left
          · intro w'
            go_simp
            with_reducible rfl
          rotate_left
          · simp only [Act.put, List.setIfInBounds_toArray, List.set_cons_zero, List.set_cons_succ, i64_w, i32_w]
            rfl
          refine pure_ (i := 15) (N := some 76) (v := ?_) (a' := ?_) #[true, true, true, true, true, true, true, true, true, true, true, true, true, true, true, true, false, true, false, false] rfl rfl (by kernel_rfl) (fun _ _ _ h => h) (Or.inl ⟨by rfl, ?_⟩) ?_ ?_
          rotate_left
          · intro w'
            go_simp
            with_reducible rfl
          rotate_left
          · simp only [Act.put, List.setIfInBounds_toArray, List.set_cons_zero, List.set_cons_succ, i64_w, i32_w]
            rfl
          refine pure_ (i := 16) (N := some 77) (v := ?_) (a' := ?_) #[true, true, true, true, true, true, true, true, true, true, true, true, true, true, true, true, true, true, false, false] rfl rfl (by kernel_rfl) (fun _ _ _ h => h) (Or.inl ⟨by rfl, ?_⟩) ?_ ?_
          rotate_left
          · intro w'
            go_simp
            with_reducible rfl
          rotate_left
          · simp only [Act.put, List.setIfInBounds_toArray, List.set_cons_zero, List.set_cons_succ, i64_w, i32_w]
            rfl
          exact norm_ (by simp only [putAll, Act.put, List.setIfInBounds_toArray, List.set_cons_zero, List.set_cons_succ]) (hCont _ _ ⟨Nat.le_refl _, (hk_.2 _ (blk_lt (blk_new w5 _)) (Nat.ne_of_gt (blk_lt BKb.out)) (by simp)).trans (blk_new _ _), hb_, hB_, (keep_alloc (KeepBut.refl _ _ _) _).trans hk_ (.inl rfl)⟩)
      rintro gv w' ⟨hgv, hbv, hbb, hB6, hK6⟩
      have hHeld : w'.cell? ⟨b, 0, none⟩ = some (.int .i64 g.block) := (blk_cell hbb 0).trans rfl
      have hv0 : w'.cell? ⟨gv, 0, none⟩ = some (.int .i64 0) := (blk_cell hbv 0).trans rfl
      have hv1 : w'.cell? ⟨gv, 1, none⟩ = some (.int .i64 0) := (blk_cell hbv 1).trans rfl
      have hw0 := blk_frozen hbv 0
      have hw1 := blk_frozen hbv 1
      have hgb : gv ≠ b := Nat.ne_of_gt (Nat.lt_of_lt_of_le (blk_lt BKb.out) hgv)
      refine norm_ (a' := ?_) ?_ ?_
      rotate_left
      · simp only [putAll, Act.put, List.setIfInBounds_toArray, List.set_cons_zero, List.set_cons_succ]
        rfl
      refine one_ (i := 18) (N := none) #[true, true, true, true, true, true, true, true, true, true, true, true, true, true, true, true, true, true, true, false] rfl rfl (by kernel_rfl) (by decide) (fun K hK => ?_)
      skip
      refine skip_ (w1 := ?_) (by rfl) rfl ?_ ?_
      rotate_left
      · go_simp
        rfl
      refine hK.out _ _ ((blk_cell (blk_far (blk_far hbb (Ne.symm hgb) _) (Ne.symm hgb) _) 0).trans rfl) (fun hHeld => ?_)
      clear hK K
      refine pure_ (i := 19) (N := some 9) (v := ?_) (a' := ?_) #[true, true, true, true, true, true, true, true, true, true, true, true, true, true, true, true, true, true, true, true] rfl rfl (by kernel_rfl) (fun _ _ _ h => h) (Or.inl ⟨by rfl, ?_⟩) ?_ ?_
      rotate_left
      · intro w'
        go_simp
        with_reducible rfl
      rotate_left
      · simp only [Act.put, List.setIfInBounds_toArray, List.set_cons_zero, List.set_cons_succ, i64_w, i32_w]
        rfl
      refine done_ (by kernel_rfl) ?_

      clear hsl hHeld hv0 hv1 hw0 hw1 hp0
      have z1_ : Aside0 (((w'.setCell ⟨gv, 0, none⟩ (.int .i64 (segOf o2).f0)).setCell ⟨gv, 1, none⟩ (.int .i64 (segOf o2).f1)).heap[b]? = some (.cells #[.int .i64 g.block, .int .i64 g.high, .int .i64 g.low, .int .i64 g.rise, .int .i64 g.fall, .int .i64 g.lead, .int .i64 g.longest, .bool true, .int .i64 s2.state, .slice Ab blk.length cb, .int .i64 s2.blocks, .int .i64 (smp + l.length), .int .i64 s2.run, .int .i64 s2.start, .int .i64 s2.free] 71 (0, 0))) := ⟨blk_far (blk_far hbb (Ne.symm hgb) _) (Ne.symm hgb) _⟩
      have z2_ : Aside0 (((w'.setCell ⟨gv, 0, none⟩ (.int .i64 (segOf o2).f0)).setCell ⟨gv, 1, none⟩ (.int .i64 (segOf o2).f1)).heap[gv]? = some (.cells #[.int .i64 (segOf o2).f0, .int .i64 (segOf o2).f1] 65 (0, 0))) := ⟨blk_put (blk_put hbv 0 _ rfl) 1 _ rfl⟩
      have hgv0 : w0.heap.size ≤ gv := Nat.le_trans HB.out.size hgv
      have z3_ : Aside0 (Below w0.heap.size w0 ((w'.setCell ⟨gv, 0, none⟩ (.int .i64 (segOf o2).f0)).setCell ⟨gv, 1, none⟩ (.int .i64 (segOf o2).f1))) := ⟨below_set (below_set hB6 hgv0) hgv0⟩
      have z4_ : Aside0 (KeepBut w5 ((w'.setCell ⟨gv, 0, none⟩ (.int .i64 (segOf o2).f0)).setCell ⟨gv, 1, none⟩ (.int .i64 (segOf o2).f1)) b none) := ⟨keep_far (keep_far hK6 hgv _) hgv _⟩
      clear hbb hbv hB6 hK6
      generalize ((w'.setCell ⟨gv, 0, none⟩ (.int .i64 (segOf o2).f0)).setCell ⟨gv, 1, none⟩ (.int .i64 (segOf o2).f1)) = w7 at z1_ z2_ z3_ z4_ ⊢
      clear BKb HB
      have BKb := z1_
      have BKv := z2_
      have HB := z3_
      have HK := Aside0.mk (KeepBut.trans HK.out z4_.out (.inl rfl))
      have HOo := Aside0.mk (Kd.R_keep HOo.out z4_.out (fun _ h => h))
      have HOr := Aside0.mk (Kd.R_keep HOr.out z4_.out (fun _ h => h))
      clear z1_ z2_ z3_ z4_ HC
      have hcb0 : w7.cell? ⟨b, 0, none⟩ = some (.int .i64 g.block) := (blk_cell BKb.out 0).trans rfl
      have hcv0 : w7.cell? ⟨gv, 0, none⟩ = some (.int .i64 (segOf o2).f0) := (blk_cell BKv.out 0).trans rfl
      have hcv1 : w7.cell? ⟨gv, 1, none⟩ = some (.int .i64 (segOf o2).f1) := (blk_cell BKv.out 1).trans rfl
      have E1 : stQ g (q + 1) s ring = s2 := by rw [stQ_succ, ← HE.out, HP.out]
      have E2 : outQ g (q + 1) s ring = outQ g q s ring ++ o2.toList := by rw [outQ_succ, ← HE.out, HP.out]
      obtain ⟨A', hs18, hD2, hc2⟩ := slice_l22 A c (restQ g q ring) g.block (by omega) hlt hc
      rw [restQ_succ] at hs18 hD2 hc2
      have HE1 := Aside0.mk E1
      have HE2 := Aside0.mk E2
      have HD2 : Aside0 (∀ W, (Kd.int .i64).C W A7 ring.length ring → (Kd.int .i64).C W A' (restQ g (q + 1) ring).length (restQ g (q + 1) ring)) := ⟨fun W h => hD2 W (HD.out W h)⟩
      have hq1 : (q + 1) * B ≤ n := by
        have := HRL.out q
        have := HBB.out
        rw [Nat.add_mul, Nat.one_mul]
        omega
      have hms : (restQ g (q + 1) ring).length < (restQ g q ring).length := by
        rw [HRL.out, HRL.out, Nat.add_mul, Nat.one_mul]
        rw [Nat.add_mul, Nat.one_mul] at hq1
        omega
      clear E1 E2 hD2 HD
      cases o2 with
      | none =>
        go_wp2_with fail
        go_roundw
        case rel =>
          refine ⟨q + 1, A', c - g.block.toNat, hq1, rfl, hc2, HD2, HOr, ⟨?_⟩, ⟨?_⟩, HB, HK⟩
          · rw [HE2.out]; simpa using HOo.out
          · rw [HE1.out]; exact BKb.out
        case measure => exact hms
      | some sg =>
        go_wp2_with (first | ((with_reducible refine gate_builtin (b := .append) (xs := #[.tmp 79, .tmp 81]) rfl ?_); at_builtin; refine Kd.R_append k65 (w0 := w7) w.heap.size rfl (.tmp 79) (.tmp 81) 42 65 (.agg #[(.int .i64 0), (.int .i64 0)]) 16 rfl Try.underlying42 info65 rfl (by decide) (by omega) u6 (outQ g q s ring) sg [.int .i64 sg.f0, .int .i64 sg.f1] (fun k_ => k_ ≠ b) (fun _ => False) rfl rfl ?aP (fun _ hk => hk.elim) ?aF HOo.out (Below.refl _ _) HK.out.1 ?aL ?_; (case aP => exact k65_mkM _ _ _ sg); (case aF => intro k_ hk_; exact Nat.ne_of_gt (Nat.lt_of_lt_of_le (blk_lt BKb.out) hk_)); (case aL => have := outQ_length g s ring q; omega); intro v82 w82 ho hb_ hg_ hat_; have HO82 := Aside0.mk ho; have n1_ := Aside0.mk (blk_grown (g := b) BKb.out hg_ (Kd.R_ne HOo.out BKb.out (by decide))); have n2_ := Aside0.mk (pw_below_grown HB.out _ HB.out.size hg_ (fun k_ hk_ => Nat.le_trans hw0w ((Kd.R_bound HOo.out).1 k_ hk_).2.1)); have n3_ : Aside0 (KeepBut w w82 b none) := ⟨⟨Nat.le_trans HK.out.1 hb_.size, fun i_ hi_ hx_ hr_ => (hb_.block i_ hi_).trans (HK.out.2 i_ hi_ hx_ hr_)⟩⟩; have n4_ := Aside0.mk (Kd.R_grown2 HOr.out rfl hg_ (R_two HOo.out HOr.out rfl rfl (by decide))); clear ho hb_ hg_ hat_ HOo HOr HB HK BKb; have BKb := n1_; have HB := n2_; have HK := n3_; have HOr := n4_; clear n1_ n2_ n3_ n4_; have hcb2 : w82.cell? ⟨b, 0, none⟩ = some (.int .i64 g.block) := (blk_cell BKb.out 0).trans rfl))
        go_roundw
        case rel =>
          refine ⟨q + 1, A', c - g.block.toNat, hq1, rfl, hc2, HD2, HOr, ⟨?_⟩, ⟨?_⟩, HB, HK⟩
          · rw [HE2.out]; simpa using HO82.out
          · rw [HE1.out]; exact BKb.out
        case measure => exact hms

    · have hd : decide (g.block ≤ ((restQ g q ring).length : Int)) = false := decide_eq_false hlt
      have hcb9 : wr.cell? ⟨b, 9, none⟩ = some (.slice Ab blk.length cb) := (blk_cell BKb.out 9).trans rfl
      have hfb9 := blk_frozen BKb.out 9
      go_wp2_with ((with_reducible refine gate_builtin (b := .append) (xs := #[.const (.slice none 0 0), .tmp 91]) rfl ?_); at_builtin; refine Kd.R_append_rows (Kd.int .i64) (w0 := w0) w0.heap.size rfl (.const (.slice none 0 0)) (.tmp 91) 22 3 (.int .i64 0) 8 rfl Try.underlying22 info3 rfl (by decide) (by omega) (.slice none 0 0) ([] : List Int) (restQ g q ring) _ _ _ (fun q_ => q_ ≠ b) (fun _ => False) rfl rfl (Kd.R_nil _ _ _ _ _) ?aR (fun _ _ h => h) (fun _ h => h.elim) (fun q_ hq_ => Nat.ne_of_gt (Nat.lt_of_lt_of_le (blk_lt BKb.out) hq_)) HB.out HB.out.size ?aL ?_; (case aR => exact HF.out _ (KeepBut.refl _ _ _)); (case aL => have := HRL.out q; simp; omega); intro v92 w92 ho hb_ hg_ hnew_; rw [List.nil_append] at ho; have HO92 := Aside0.mk ho; have HB92 := Aside0.mk hb_; have HG92 := Aside0.mk hg_; have HW92 := Aside0.mk hnew_; clear ho hb_ hg_ hnew_; obtain ⟨A92, c92, e92⟩ := Kd.R_slice HO92.out; subst e92; have BK92 := Aside0.mk (blk_grown (g := b) BKb.out HG92.out (by simp [Value.ownBlock])); have hc92 : w92.cell? ⟨b, 9, none⟩ = some (.slice Ab blk.length cb) := (blk_cell BK92.out 9).trans rfl; have hf92 := blk_frozen BK92.out 9)
      have hq2 : ring.length / g.block.toNat = q := by
        rw [HBN.out, ← HN.out]
        refine Nat.div_eq_of_lt_le hq ?_
        have := HRL.out q
        have := HBB.out
        rw [Nat.add_mul, Nat.one_mul]
        omega

      go_ret2
      unfold FeedPost
      rw [hq2]
      refine ⟨_, _, rfl, ?_, blk_put BK92.out 9 _ rfl, ?_, below_set HB92.out GEb.out, KeepBut.set_ (KeepBut.trans HK.out (show KeepBut wr w92 b none from KeepBut.of_grown HG92.out b) (.inl rfl)) _ _⟩
      · exact Kd.R_mono (Kd.R_far (Kd.R_keep HOo.out (show KeepBut wr w92 b none from KeepBut.of_grown HG92.out b) (fun _ h => h)) (p := ⟨b, 9, none⟩) (fun _ h => h) _) (fun _ _ => trivial)
      · exact Kd.R_mono (Kd.R_far (R_raise HO92.out (fun k hk => by
          rcases HW92.out with h | ⟨q_, h1, h2⟩
          · rw [hk] at h; simp [Value.ownBlock] at h
          · rw [hk] at h1; injection h1 with h1; have := HK.out.1; omega)) (p := ⟨b, 9, none⟩) (fun _ h => h) _) (fun _ _ => trivial)
end Go.Proofs.Ytigbfcodnbnicaa.P
