/- The law of refused samples, walked: the way on which all is right; for gates as defined and at most 500 numbers each. -/
import Derived.Test.YtigbfcodnbnicaaHLis
import Derived.Test.YtigbfcodnbnicaaQKnown
import Derived.Test.YtigbfcodnbnicaaQSegs
import Derived.Test.YtigbfcodnbnicaaQSame
set_option linter.unusedVariables false
set_option linter.unusedSimpArgs false
namespace Go.Proofs.Ytigbfcodnbnicaa.P
open Go.RowKit Go.Proofs.YtigbfcodnbnicaaW.PrintWords Go.Proofs.YtigbfcodnbnicaaW.PrintLast Go.Proofs.YtigbfcodnbnicaaW.PrintMore

theorem runAll_length (g : Gt) (s : Ls) (r : List Int) : (runAll g s r).2.length ≤ r.length := Nat.le_trans (outQ_length g s r _) (Nat.div_le_self _ _)
theorem restOf_le (g : Gt) (r : List Int) : (restOf g r).length ≤ r.length := by unfold restOf; rw [List.length_drop]; omega
theorem inR_append (lo hi : Int) (x y : List Int) (hx : inR lo hi x = true) (hy : inR lo hi y = true) : inR lo hi (x ++ y) = true := by unfold inR at *; rw [List.all_append, hx, hy]; rfl
theorem segs_f (g : Gt) (l : List Int) (hg : gateOK g = true) (hl : l.length ≤ 200000) (hv : inR (-32768) 32767 l = true) : wave_Segments.f l g.block g.high g.low g.rise g.fall g.lead g.longest = some (segsOf g l, 0) := by
  unfold wave_Segments.f
  rw [if_neg (by omega), if_neg (by rintro (e | e) <;> simp_all)]
set_option maxHeartbeats 8000000 in
set_option maxRecDepth 100000 in
theorem ref_good (A0 : Option Addr) (c0 : Nat) (l0 : List Int) (A1 : Option Addr) (c1 : Nat) (l1 : List Int) (A2 : Option Addr) (c2 : Nat) (l2 : List Int) (g : Gt) (w : World) (hr0 : Kd.C (Kd.int .i64) w A0 l0.length l0) (hc0 : l0.length ≤ c0) (hr1 : Kd.C (Kd.int .i64) w A1 l1.length l1) (hc1 : l1.length ≤ c1) (hr2 : Kd.C (Kd.int .i64) w A2 l2.length l2) (hc2 : l2.length ≤ c2) (hg : gateOK g = true) (n0 : l0.length ≤ 500) (n1 : l1.length ≤ 500) (n2 : l2.length ≤ 500) (hX : inR (-32768) 32767 l0 = true) (hY : inR (-32768) 32767 l2 = true) (hW : inR (-32768) 32767 l1 = false) :
    Calls Try.prog 8 #[.slice A0 l0.length c0, .slice A1 l1.length c1, .slice A2 l2.length c2, .agg #[.int .i64 g.block, .int .i64 g.high, .int .i64 g.low, .int .i64 g.rise, .int .i64 g.fall, .int .i64 g.lead, .int .i64 g.longest]] w fun e w' => e = .returned (.bool true) ∧ Below w.heap.size w w' := by
  have HR0 := Aside0.mk hr0
  have HR1 := Aside0.mk hr1
  have HR2 := Aside0.mk hr2
  have HC0 := Aside0.mk hc0
  have HC1 := Aside0.mk hc1
  have HC2 := Aside0.mk hc2
  have HGo := Aside0.mk hg
  have HV0 := Aside0.mk hX
  have HV1 := Aside0.mk hW
  have HV2 := Aside0.mk hY
  have HG := Aside0.mk (show earshotref02_Gate.f g.block g.high g.low g.rise g.fall g.lead g.longest = some true by rw [Gate_eq]; exact congrArg some hg)
  have HX := Aside0.mk (show earshotref02_All.f 600 l0 (-32768) 32767 = some true by rw [all_some _ _ _ (by omega) _ (by omega), hX])
  have HY := Aside0.mk (show earshotref02_All.f 600 l2 (-32768) 32767 = some true by rw [all_some _ _ _ (by omega) _ (by omega), hY])
  have HW := Aside0.mk (show earshotref02_All.f 600 l1 (-32768) 32767 = some false by rw [all_some _ _ _ (by omega) _ (by omega), hW])
  have HSEG := Aside0.mk (segs_f g (l0 ++ l2) hg (by rw [List.length_append]; omega) (inR_append _ _ _ _ hX hY))
  have hu41 := Try.underlying41
  have hu65 := Try.underlying65
  have hu71 := Try.underlying71
  clear hr0 hc0 hr1 hc1 hr2 hc2 hg hX hY hW
  go_enter Try.func8, Try.ntmps8
  go_wp2_with (first
    | (go_at_call 31; (with_reducible refine (earshotref02_Gate.calls _ _ _ _ _ _ _ _ _ HG.out).mono ?_); rintro e wG ⟨rfl, hb_⟩; have HBG := Aside0.mk (below_step (below_alloc (Below.refl w.heap.size w) _) hb_); have BKG := Aside0.mk (blk_below (blk_new w (.cells #[.int .i64 g.block, .int .i64 g.high, .int .i64 g.low, .int .i64 g.rise, .int .i64 g.fall, .int .i64 g.lead, .int .i64 g.longest] 41 (0, 0))) hb_); clear hb_)
    | (go_at_call 27; (with_reducible refine (earshotref02_All.calls 600 A0 c0 l0 _ _ _ _ (Kd.C_below HR0.out HBG.out) HC0.out HX.out).mono ?_); rintro e wX ⟨rfl, hd_⟩; have HBX := Aside0.mk (show Below w.heap.size w wX from (by obtain ⟨m_, hm_⟩ := hd_.out; subst hm_; exact pw_below_drewN HBG.out _)); have BKX := Aside0.mk (blk_below BKG.out (show Below wG.heap.size wG wX from (by obtain ⟨m_, hm_⟩ := hd_.out; subst hm_; exact pw_below_drewN (Below.refl _ _) _))); clear hd_)
    | (go_at_call 27; (with_reducible refine (earshotref02_All.calls 600 A2 c2 l2 _ _ _ _ (Kd.C_below HR2.out HBX.out) HC2.out HY.out).mono ?_); rintro e wY ⟨rfl, hd_⟩; have HBY := Aside0.mk (show Below w.heap.size w wY from (by obtain ⟨m_, hm_⟩ := hd_.out; subst hm_; exact pw_below_drewN HBX.out _)); have BKY := Aside0.mk (blk_below BKX.out (show Below wX.heap.size wX wY from (by obtain ⟨m_, hm_⟩ := hd_.out; subst hm_; exact pw_below_drewN (Below.refl _ _) _))); clear hd_)
    | (go_at_call 27; (with_reducible refine (earshotref02_All.calls 600 A1 c1 l1 _ _ _ _ (Kd.C_below HR1.out HBY.out) HC1.out HW.out).mono ?_); rintro e wW ⟨rfl, hd_⟩; have HBW := Aside0.mk (show Below w.heap.size w wW from (by obtain ⟨m_, hm_⟩ := hd_.out; subst hm_; exact pw_below_drewN HBY.out _)); have BKW := Aside0.mk (blk_below BKY.out (show Below wY.heap.size wY wW from (by obtain ⟨m_, hm_⟩ := hd_.out; subst hm_; exact pw_below_drewN (Below.refl _ _) _))); clear hd_; have hcw0 := (blk_cell BKW.out 0).trans rfl; have hcw1 := (blk_cell BKW.out 1).trans rfl; have hcw2 := (blk_cell BKW.out 2).trans rfl; have hcw3 := (blk_cell BKW.out 3).trans rfl; have hcw4 := (blk_cell BKW.out 4).trans rfl; have hcw5 := (blk_cell BKW.out 5).trans rfl; have hcw6 := (blk_cell BKW.out 6).trans rfl)
    | (go_at_call 36; (with_reducible refine (listen_lis g w.heap.size _ HGo.out HBW.out.size).mono ?_); rintro e wL ⟨b, rfl, hl_, hge_, hb_⟩; have HL1 := Aside0.mk hl_; have GEb := Aside0.mk (Nat.lt_of_lt_of_le (blk_lt BKW.out) hge_); have HBL := Aside0.mk (below_step HBW.out hb_); have BKL := Aside0.mk (blk_below BKW.out hb_); clear hl_ hge_ hb_)
    | (go_at_call 37; (with_reducible refine (feed_lis g ls0 0 [] b A0 c0 l0 w _ HGo.out HL1.out (by omega) HR0.out HV0.out (by omega) (Nat.le_of_lt GEb.out) HBL.out).mono ?_); rintro e wF ⟨vF, rfl, hs_, hl_, hb_, hk_⟩; have HSF := Aside0.mk hs_; have HL2 := Aside0.mk hl_; have HBF := Aside0.mk hb_; have HKF := Aside0.mk hk_; have BKF := Aside0.mk (hk_.blk BKL.out (Nat.ne_of_lt GEb.out) (by simp)); clear hs_ hl_ hb_ hk_)
    | (go_at_call 37; (with_reducible refine (refuse_lis g _ _ _ b w.heap.size A1 c1 l1 _ HL2.out (by omega) (Kd.C_below HR1.out HBF.out) HV1.out).mono ?_); rintro e wE ⟨rfl, hw_⟩; obtain rfl := hw_.symm; clear hw_)
    | (go_at_call 37; (with_reducible refine (feed_lis g _ _ _ b A2 c2 l2 w _ HGo.out HL2.out (by omega) HR2.out HV2.out (by omega) (Nat.le_of_lt GEb.out) HBF.out).mono ?_); rintro e wH ⟨vH, rfl, hs_, hl_, hb_, hk_⟩; have HSH := Aside0.mk hs_; have HL3 := Aside0.mk hl_; have HBH := Aside0.mk hb_; have HKH := Aside0.mk hk_; have BKH := Aside0.mk (hk_.blk BKF.out (Nat.ne_of_lt GEb.out) (by simp)); clear hs_ hl_ hb_ hk_)
    | (go_at_call 38; (with_reducible refine (close_lis g _ _ _ b w _ HGo.out HL3.out (by omega) (Nat.le_of_lt GEb.out) HBH.out).mono ?_); rintro e wC ⟨vC, rfl, hs_, hb_, hk_⟩; have HSC := Aside0.mk hs_; have HBC := Aside0.mk hb_; have HKC := Aside0.mk hk_; have BKC := Aside0.mk (hk_.blk BKH.out (Nat.ne_of_lt GEb.out) (by simp)); clear hs_ hb_ hk_))
  have HFH : Aside0 (wF.heap.size ≤ wH.heap.size ∧ wH.heap.size ≤ wC.heap.size) := ⟨HKH.out.1, HKC.out.1⟩
  have HLW : Aside0 (w.heap.size ≤ wL.heap.size) := ⟨HBL.out.size⟩
  obtain ⟨Ab2, cb2, hb2, _⟩ := HL2.out.cells
  obtain ⟨Ab3, cb3, hb3, _⟩ := HL3.out.cells
  replace HSF := Aside0.mk (Kd.R_mono (Kd.R_keep (Kd.R_keep (Kd.R_types (Kd.R_bound HSF.out) hb2 (by decide)) HKH.out (fun _ h => h.2)) HKC.out (fun _ h => h.2)) (ok' := fun k => k < wF.heap.size) (fun k h => h.1.2.2.1))
  replace HSH := Aside0.mk (Kd.R_keep (Kd.R_types HSH.out hb3 (by decide)) HKC.out (fun _ h => h.2))
  replace HSC := Aside0.mk (Kd.R_mono (Kd.R_bound HSC.out) (ok' := fun k => wH.heap.size ≤ k ∧ k < wC.heap.size) (fun k h => ⟨h.2.1, h.2.2.1⟩))
  have HEQ : Aside0 (segsOf g (l0 ++ l2) = ((runAll g ls0 ([] ++ l0)).2 ++ (runAll g (runAll g ls0 ([] ++ l0)).1 (restOf g ([] ++ l0) ++ l2)).2) ++ (if (runAll g (runAll g ls0 ([] ++ l0)).1 (restOf g ([] ++ l0) ++ l2)).1.state = 1 then [⟨(runAll g (runAll g ls0 ([] ++ l0)).1 (restOf g ([] ++ l0) ++ l2)).1.start * g.block, ((0 + l0.length + l2.length : Nat) : Int)⟩] else [])) := ⟨by
    rw [List.nil_append, segs_twice g (gate_block HGo.out).1 l0 l2, Nat.zero_add, Int.natCast_add]⟩
  have HNF : Aside0 ((runAll g ls0 ([] ++ l0)).2.length ≤ 500) := ⟨Nat.le_trans (runAll_length _ _ _) n0⟩
  have HNH : Aside0 ((runAll g (runAll g ls0 ([] ++ l0)).1 (restOf g ([] ++ l0) ++ l2)).2.length ≤ 1000) := ⟨by
    have h1 := runAll_length g (runAll g ls0 ([] ++ l0)).1 (restOf g ([] ++ l0) ++ l2)
    have h2 := restOf_le g ([] ++ l0)
    rw [List.length_append] at h1
    simp only [List.nil_append] at h1 h2 ⊢
    omega⟩
  have HNC : Aside0 ((if (runAll g (runAll g ls0 ([] ++ l0)).1 (restOf g ([] ++ l0) ++ l2)).1.state = 1 then [(⟨(runAll g (runAll g ls0 ([] ++ l0)).1 (restOf g ([] ++ l0) ++ l2)).1.start * g.block, ((0 + l0.length + l2.length : Nat) : Int)⟩ : S65)] else []).length ≤ 1) := ⟨by split <;> simp⟩
  generalize (if (runAll g (runAll g ls0 ([] ++ l0)).1 (restOf g ([] ++ l0) ++ l2)).1.state = 1 then [(⟨(runAll g (runAll g ls0 ([] ++ l0)).1 (restOf g ([] ++ l0) ++ l2)).1.start * g.block, ((0 + l0.length + l2.length : Nat) : Int)⟩ : S65)] else []) = sC at HSC HEQ HNC
  clear hb2 hb3 HL1 HL2 HL3 HKF HKH HKC
  generalize (runAll g (runAll g ls0 ([] ++ l0)).1 (restOf g ([] ++ l0) ++ l2)).2 = sH at HSH HEQ HNH
  generalize (runAll g ls0 ([] ++ l0)).2 = sF at HSF HEQ HNF
  obtain ⟨sA, hsA⟩ : ∃ s : List S65, s = (sF ++ sH) ++ sC := ⟨_, rfl⟩
  have HSA := Aside0.mk hsA
  clear hsA
  have HSAME : Aside0 (earshotref02_SameSegments.f 4000 sA (segsOf g (l0 ++ l2)) = some true) := ⟨by
    have hf := HNF.out
    have hh := HNH.out
    have hc := HNC.out
    rw [HEQ.out, HSA.out]
    have hl : ((sF ++ sH) ++ sC).length ≤ 2000 := by rw [List.length_append, List.length_append]; omega
    exact seg_same_self _ (by omega) _ (by omega)⟩
  obtain ⟨AF, cF, eF⟩ := Kd.R_slice HSF.out
  subst eF
  obtain ⟨AH, cH, eH⟩ := Kd.R_slice HSH.out
  subst eH
  obtain ⟨AC, cC, eC⟩ := Kd.R_slice HSC.out
  subst eC
  have BK9 := Aside0.mk (blk_drew BKC.out)
  have HB9 := Aside0.mk (below_drew1 HBC.out)
  replace HSF := Aside0.mk (Kd.R_drew HSF.out)
  replace HSH := Aside0.mk (Kd.R_drew HSH.out)
  replace HSC := Aside0.mk (Kd.R_drew HSC.out)
  have HWC : Aside0 (wC.heap.size ≤ wC.drew.heap.size) := ⟨Nat.le_refl _⟩
  have hp0 : wC.drew.cell? ⟨w.heap.size, 0, none⟩ = some (.int .i64 g.block) := (blk_cell BK9.out 0).trans rfl
  have hp1 : wC.drew.cell? ⟨w.heap.size, 1, none⟩ = some (.int .i64 g.high) := (blk_cell BK9.out 1).trans rfl
  have hp2 : wC.drew.cell? ⟨w.heap.size, 2, none⟩ = some (.int .i64 g.low) := (blk_cell BK9.out 2).trans rfl
  have hp3 : wC.drew.cell? ⟨w.heap.size, 3, none⟩ = some (.int .i64 g.rise) := (blk_cell BK9.out 3).trans rfl
  have hp4 : wC.drew.cell? ⟨w.heap.size, 4, none⟩ = some (.int .i64 g.fall) := (blk_cell BK9.out 4).trans rfl
  have hp5 : wC.drew.cell? ⟨w.heap.size, 5, none⟩ = some (.int .i64 g.lead) := (blk_cell BK9.out 5).trans rfl
  have hp6 : wC.drew.cell? ⟨w.heap.size, 6, none⟩ = some (.int .i64 g.longest) := (blk_cell BK9.out 6).trans rfl
  refine start_ (n := 11) (S := fun w' => w'.cell? ⟨w.heap.size, 0, none⟩ = some (.int .i64 g.block) ∧ w'.cell? ⟨w.heap.size, 1, none⟩ = some (.int .i64 g.high) ∧ w'.cell? ⟨w.heap.size, 2, none⟩ = some (.int .i64 g.low) ∧ w'.cell? ⟨w.heap.size, 3, none⟩ = some (.int .i64 g.rise) ∧ w'.cell? ⟨w.heap.size, 4, none⟩ = some (.int .i64 g.fall) ∧ w'.cell? ⟨w.heap.size, 5, none⟩ = some (.int .i64 g.lead) ∧ w'.cell? ⟨w.heap.size, 6, none⟩ = some (.int .i64 g.longest)) (ds := []) #[false, false, false, false, false, false, false, false, false, false, false] (by kernel_rfl) rfl rfl ⟨hp0, hp1, hp2, hp3, hp4, hp5, hp6⟩ (fun hHeld => ?_)
  generalize wC.drew = w9 at BK9 HB9 HSF HSH HSC hHeld HWC ⊢
  refine pure_ (i := 0) (N := some 89) (v := ?_) (a' := ?_) #[true, false, false, false, false, false, false, false, false, false, false] rfl rfl (by kernel_rfl) (fun _ _ _ h => h) (Or.inl ⟨by rfl, ?_⟩) ?_ ?_
  rotate_left
  · intro w'
    go_simp
    with_reducible rfl
  rotate_left
  · simp only [Act.put, List.setIfInBounds_toArray, List.set_cons_zero, List.set_cons_succ, i64_w, i32_w]
    rfl
  refine pure_ (i := 2) (N := some 91) (v := ?_) (a' := ?_) #[true, false, true, false, false, false, false, false, false, false, false] rfl rfl (by kernel_rfl) (fun _ _ _ h => h) (Or.inl ⟨by rfl, ?_⟩) ?_ ?_
  rotate_left
  · intro w'
    go_simp
    with_reducible rfl
  rotate_left
  · simp only [Act.put, List.setIfInBounds_toArray, List.set_cons_zero, List.set_cons_succ, i64_w, i32_w]
    rfl
  refine take_ (i := 4) (N := some 93) (v := ?_) (a' := ?_) #[true, false, true, false, true, false, false, false, false, false, false] rfl rfl (by kernel_rfl) (fun _ _ _ h => h) (Or.inl ⟨by rfl, ?_⟩) hHeld ?_ ?_
  rotate_left
  · rintro w' ⟨s0, s1, s2, s3, s4, s5, s6⟩
    go_simp
    with_reducible rfl
  rotate_left
  · simp only [Act.put, List.setIfInBounds_toArray, List.set_cons_zero, List.set_cons_succ, i64_w, i32_w]
    rfl
  refine one_ (i := 1) (N := some 90) #[true, true, true, false, true, false, false, false, false, false, false] rfl rfl (by kernel_rfl) (by decide) (fun K hK => ?_)
  refine Kd.R_append_rows_step (Kd.int .i64) (w0 := w9) w9.heap.size (by rfl) (.const (.slice none 0 0)) (.tmp 89) 22 3 (.int .i64 0) 8 rfl Try.underlying22 info3 rfl (by decide) (by omega) (.slice none 0 0) ([] : List Int) l0 _ _ _ (fun _ => True) (fun _ => False) rfl rfl (Kd.R_nil _ _ _ _ _) ?aR (fun _ _ h => h) (fun _ h => h.elim) (fun _ _ => trivial) (Below.refl _ _) (Nat.le_refl _) ?aL ?_
  (case aR => exact Kd.C_below HR0.out HB9.out)
  (case aL => simp; omega)
  intro v90 w10 ho_ hb_ hg_ hnew_
  rw [List.nil_append] at ho_
  have HO90 := Aside0.mk ho_
  have HB10 := Aside0.mk hb_
  clear ho_ hb_ hg_ hnew_
  refine hK.out _ _ ⟨(blk_cell (blk_below BK9.out HB10.out) 0).trans rfl, (blk_cell (blk_below BK9.out HB10.out) 1).trans rfl, (blk_cell (blk_below BK9.out HB10.out) 2).trans rfl, (blk_cell (blk_below BK9.out HB10.out) 3).trans rfl, (blk_cell (blk_below BK9.out HB10.out) 4).trans rfl, (blk_cell (blk_below BK9.out HB10.out) 5).trans rfl, (blk_cell (blk_below BK9.out HB10.out) 6).trans rfl⟩ (fun hHeld => ?_)
  clear hK K
  refine norm_ (a' := ?_) ?_ ?_
  rotate_left
  · show Act.put _ (some 90) _ = _
    simp only [Act.put, List.setIfInBounds_toArray, List.set_cons_zero, List.set_cons_succ, i64_w, i32_w]
    rfl
  refine one_ (i := 3) (N := some 92) #[true, true, true, true, true, false, false, false, false, false, false] rfl rfl (by kernel_rfl) (by decide) (fun K hK => ?_)
  refine Kd.R_append_rows_step (Kd.int .i64) (w0 := w9) w9.heap.size (by rfl) (.tmp 90) (.tmp 91) 22 3 (.int .i64 0) 8 rfl Try.underlying22 info3 rfl (by decide) (by omega) v90 l0 l2 _ _ _ (fun _ => True) (fun _ => False) rfl rfl HO90.out ?aR (fun _ _ h => h) (fun _ h => h.elim) (fun _ _ => trivial) HB10.out HB10.out.size ?aL ?_
  (case aR => exact Kd.C_below HR2.out (below_step HB9.out HB10.out))
  (case aL => omega)
  intro v92 w11 ho_ hb_ hg_ hnew_
  obtain ⟨A92, c92, e92⟩ := Kd.R_slice ho_
  subst e92
  have HO92 := Aside0.mk ho_
  have HB11 := Aside0.mk hb_
  clear ho_ hb_ hg_ hnew_
  refine hK.out _ _ ⟨(blk_cell (blk_below BK9.out HB11.out) 0).trans rfl, (blk_cell (blk_below BK9.out HB11.out) 1).trans rfl, (blk_cell (blk_below BK9.out HB11.out) 2).trans rfl, (blk_cell (blk_below BK9.out HB11.out) 3).trans rfl, (blk_cell (blk_below BK9.out HB11.out) 4).trans rfl, (blk_cell (blk_below BK9.out HB11.out) 5).trans rfl, (blk_cell (blk_below BK9.out HB11.out) 6).trans rfl⟩ (fun hHeld => ?_)
  clear hK K
  refine norm_ (a' := ?_) ?_ ?_
  rotate_left
  · show Act.put _ (some 92) _ = _
    simp only [Act.put, List.setIfInBounds_toArray, List.set_cons_zero, List.set_cons_succ, i64_w, i32_w]
    rfl
  refine one_ (i := 5) (N := some 94) #[true, true, true, true, true, true, false, false, false, false, false] rfl rfl (by kernel_rfl) (by decide) (fun K hK => ?_)
  refine goes_ Try.func30 (by kernel_rfl) rfl #[.slice A92 (l0 ++ l2).length c92, .agg #[.int .i64 g.block, .int .i64 g.high, .int .i64 g.low, .int .i64 g.rise, .int .i64 g.fall, .int .i64 g.lead, .int .i64 g.longest]] (by rfl) rfl rfl (by simp only [List.map_toArray, List.map_cons, List.map_nil]; rfl) ?_
  with_reducible refine (wave_Segments.calls A92 c92 (l0 ++ l2) g.block g.high g.low g.rise g.fall g.lead g.longest _ _ _ (Kd.R_reads' HO92.out).2.2 (Kd.R_reads' HO92.out).2.1 HSEG.out).mono ?_
  rintro e w12 ⟨v12, rfl, ho_, hb_⟩
  refine ⟨_, rfl, ?_⟩
  have HSV := Aside0.mk ho_
  have HB12 := Aside0.mk (below_step HB11.out hb_)
  clear ho_ hb_
  refine hK.out _ _ ⟨(blk_cell (blk_below BK9.out HB12.out) 0).trans rfl, (blk_cell (blk_below BK9.out HB12.out) 1).trans rfl, (blk_cell (blk_below BK9.out HB12.out) 2).trans rfl, (blk_cell (blk_below BK9.out HB12.out) 3).trans rfl, (blk_cell (blk_below BK9.out HB12.out) 4).trans rfl, (blk_cell (blk_below BK9.out HB12.out) 5).trans rfl, (blk_cell (blk_below BK9.out HB12.out) 6).trans rfl⟩ (fun hHeld => ?_)
  clear hK K
  refine norm_ (a' := ?_) ?_ ?_
  rotate_left
  · show Act.put _ (some 94) _ = _
    simp only [Act.put, List.setIfInBounds_toArray, List.set_cons_zero, List.set_cons_succ, i64_w, i32_w]
    rfl
  refine pure_ (i := 6) (N := some 88) (v := ?_) (a' := ?_) #[true, true, true, true, true, true, true, false, false, false, false] rfl rfl (by kernel_rfl) (fun _ _ _ h => h) (Or.inl ⟨by rfl, ?_⟩) ?_ ?_
  rotate_left
  · intro w'
    go_simp
    with_reducible rfl
  rotate_left
  · simp only [Act.put, List.setIfInBounds_toArray, List.set_cons_zero, List.set_cons_succ, i64_w, i32_w]
    rfl
  refine pure_ (i := 7) (N := some 95) (v := ?_) (a' := ?_) #[true, true, true, true, true, true, true, true, false, false, false] rfl rfl (by kernel_rfl) (fun _ _ _ h => h) (Or.inl ⟨by rfl, ?_⟩) ?_ ?_
  rotate_left
  · intro w'
    go_simp
    with_reducible rfl
  rotate_left
  · simp only [Act.put, List.setIfInBounds_toArray, List.set_cons_zero, List.set_cons_succ, i64_w, i32_w]
    rfl
  refine pure_ (i := 8) (N := some 96) (v := ?_) (a' := ?_) #[true, true, true, true, true, true, true, true, true, false, false] rfl rfl (by kernel_rfl) (fun _ _ _ h => h) (Or.inl ⟨by rfl, ?_⟩) ?_ ?_
  rotate_left
  · intro w'
    go_simp
    with_reducible rfl
  rotate_left
  · simp only [Act.put, List.setIfInBounds_toArray, List.set_cons_zero, List.set_cons_succ, i64_w, i32_w]
    rfl
  refine pure_ (i := 9) (N := some 19) (v := ?_) (a' := ?_) #[true, true, true, true, true, true, true, true, true, true, false] rfl rfl (by kernel_rfl) (fun _ _ _ h => h) (Or.inl ⟨by rfl, ?_⟩) ?_ ?_
  rotate_left
  · intro w'
    go_simp
    with_reducible rfl
  rotate_left
  · simp only [Act.put, List.setIfInBounds_toArray, List.set_cons_zero, List.set_cons_succ, i64_w, i32_w]
    rfl
  refine pure_ (i := 10) (N := some 20) (v := ?_) (a' := ?_) #[true, true, true, true, true, true, true, true, true, true, true] rfl rfl (by kernel_rfl) (fun _ _ _ h => h) (Or.inl ⟨by rfl, ?_⟩) ?_ ?_
  rotate_left
  · intro w'
    go_simp
    with_reducible rfl
  rotate_left
  · simp only [Act.put, List.setIfInBounds_toArray, List.set_cons_zero, List.set_cons_succ, i64_w, i32_w]
    rfl
  refine done_ (by kernel_rfl) ?_

  replace HSF := Aside0.mk (Kd.R_below HSF.out HB12.out)
  replace HSH := Aside0.mk (Kd.R_below HSH.out HB12.out)
  replace HSC := Aside0.mk (Kd.R_below HSC.out HB12.out)
  replace HSV := Aside0.mk (Kd.R_mono (Kd.R_bound HSV.out) (ok' := fun k => wH.heap.size ≤ k ∧ k < w12.heap.size) (fun k h => ⟨by have h1 := h.2.1; have h2 := HB11.out.size; have h3 := HFH.out; have h4 := HWC.out; omega, h.2.2.1⟩))
  obtain ⟨A12, c12, e12⟩ := Kd.R_slice HSV.out
  subst e12
  have HBA := Aside0.mk (below_step HB9.out HB12.out)
  have HWD : Aside0 (wC.heap.size ≤ w12.heap.size) := ⟨Nat.le_trans HWC.out HB12.out.size⟩
  clear hHeld hp0 hp1 hp2 hp3 hp4 hp5 hp6
  go_wp2_with (first
    | ((with_reducible refine gate_builtin (b := .append) (xs := #[.tmp 120, .tmp 121]) rfl ?_); at_builtin; refine Kd.R_append_rows k65 (Rr := k65.K w12) (w0 := w) w.heap.size rfl (.tmp 120) (.tmp 121) 42 65 (.agg #[(.int .i64 0), (.int .i64 0)]) 16 rfl Try.underlying42 info65 rfl (by decide) (by omega) (.slice AF sF.length cF) sF sH _ _ _ (fun _ => True) (fun _ => False) rfl rfl (Kd.R_mono (Kd.R_lower HSF.out HLW.out) (fun _ _ => trivial)) ?aR (fun x cs h => by rw [k65_open h]; exact k65_mkM _ _ _ x) (fun _ h => h.elim) (fun _ _ => trivial) HBA.out HBA.out.size ?aL ?_; (case aR => exact (Kd.R_reads' HSH.out).2.2); (case aL => have := HNF.out; have := HNH.out; omega); intro v122 w13 ho_ hb_ hg_ hnew_; have HO122 := Aside0.mk ho_; have HBD := Aside0.mk hb_; have HSC := Aside0.mk (Kd.R_grown HSC.out hg_ (fun k hk e_ => by have := (HSF.out.1 k e_.symm); have := HFH.out; omega)); have HSV := Aside0.mk (Kd.R_grown HSV.out hg_ (fun k hk e_ => by have := (HSF.out.1 k e_.symm); have := HFH.out; omega)); have HNO : Aside0 (∀ k, some k = v122.ownBlock → k < wF.heap.size ∨ w12.heap.size ≤ k) := ⟨fun k e_ => by rcases hnew_ with h | ⟨q, h1, h2⟩; exact .inl (HSF.out.1 k (e_.trans h).symm); exact .inr (by have := e_.trans h1; injection this with this; omega)⟩; clear ho_ hb_ hg_ hnew_)
    | ((with_reducible refine gate_builtin (b := .append) (xs := #[.tmp 122, .tmp 123]) rfl ?_); at_builtin; refine Kd.R_append_rows k65 (Rr := k65.K w13) (w0 := w) w.heap.size rfl (.tmp 122) (.tmp 123) 42 65 (.agg #[(.int .i64 0), (.int .i64 0)]) 16 rfl Try.underlying42 info65 rfl (by decide) (by omega) v122 (sF ++ sH) sC _ _ _ (fun _ => True) (fun _ => False) rfl rfl HO122.out ?aR (fun x cs h => by rw [k65_open h]; exact k65_mkM _ _ _ x) (fun _ h => h.elim) (fun _ _ => trivial) HBD.out HBD.out.size ?aL ?_; (case aR => exact (Kd.R_reads' HSC.out).2.2); (case aL => have := HNF.out; have := HNH.out; have := HNC.out; rw [List.length_append]; omega); intro v124 w14 ho_ hb_ hg_ hnew_; rw [← HSA.out] at ho_; obtain ⟨A124, c124, e124⟩ := Kd.R_slice ho_; subst e124; have HO124 := Aside0.mk ho_; have HBE := Aside0.mk hb_; have HSV := Aside0.mk (Kd.R_grown HSV.out hg_ (fun k hk e_ => by have := HNO.out k e_; have := HFH.out; omega)); clear ho_ hb_ hg_ hnew_)
    | (go_at_call 33; (with_reducible refine (earshotref02_SameSegments.calls 4000 A124 c124 _ A12 c12 _ _ _ (Kd.R_reads' HO124.out).2.2 (Kd.R_reads' HO124.out).2.1 (Kd.R_reads' HSV.out).2.2 (Kd.R_reads' HSV.out).2.1 HSAME.out).mono ?_); rintro e wS ⟨rfl, hd_⟩; have HBS := Aside0.mk (show Below w.heap.size w wS from (by obtain ⟨m_, hm_⟩ := hd_; subst hm_; exact pw_below_drewN HBE.out _)); clear hd_)
    | (go_at_call 22; (with_reducible refine (earshotlaw02_known.calls 40 true _ known_40).mono ?_); rintro e wK ⟨rfl, hb_⟩; have HBK := Aside0.mk (below_step HBS.out hb_); clear hb_))
  go_ret
  exact ⟨rfl, HBK.out⟩
end Go.Proofs.Ytigbfcodnbnicaa.P
