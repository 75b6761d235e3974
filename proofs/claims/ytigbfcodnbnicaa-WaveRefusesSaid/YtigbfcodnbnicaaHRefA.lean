/- The law of refused samples, walked: the ways on which it asks nothing of a listener. -/
import Derived.Test.YtigbfcodnbnicaaHSegments
import Derived.Test.YtigbfcodnbnicaaQKnown
import Derived.Test.YtigbfcodnbnicaaQSegs
set_option linter.unusedVariables false
set_option linter.unusedSimpArgs false
namespace Go.Proofs.Ytigbfcodnbnicaa.P
open Go.RowKit Go.Proofs.YtigbfcodnbnicaaW.PrintWords Go.Proofs.YtigbfcodnbnicaaW.PrintLast Go.Proofs.YtigbfcodnbnicaaW.PrintMore

set_option maxHeartbeats 4000000 in
set_option maxRecDepth 100000 in
theorem ref_early (A0 : Option Addr) (c0 : Nat) (l0 : List Int) (A1 : Option Addr) (c1 : Nat) (l1 : List Int) (A2 : Option Addr) (c2 : Nat) (l2 : List Int) (a0 a1 a2 a3 a4 a5 a6 : Int) (w : World) (hr0 : Kd.C (Kd.int .i64) w A0 l0.length l0) (hc0 : l0.length ≤ c0) (hr1 : Kd.C (Kd.int .i64) w A1 l1.length l1) (hc1 : l1.length ≤ c1) (hr2 : Kd.C (Kd.int .i64) w A2 l2.length l2) (hc2 : l2.length ≤ c2) (bG bX bY bW : Bool)
    (hG : l0.length ≤ 500 → l1.length ≤ 500 → l2.length ≤ 500 → gateOK ⟨a0, a1, a2, a3, a4, a5, a6⟩ = bG) (hX : l0.length ≤ 500 → inR (-32768) 32767 l0 = bX) (hY : l2.length ≤ 500 → inR (-32768) 32767 l2 = bY) (hW : l1.length ≤ 500 → inR (-32768) 32767 l1 = bW)
    (hbad : 500 < l0.length ∨ 500 < l1.length ∨ 500 < l2.length ∨ bG = false ∨ bX = false ∨ bY = false ∨ bW = true) :
    Calls Try.prog 8 #[.slice A0 l0.length c0, .slice A1 l1.length c1, .slice A2 l2.length c2, .agg #[.int .i64 a0, .int .i64 a1, .int .i64 a2, .int .i64 a3, .int .i64 a4, .int .i64 a5, .int .i64 a6]] w fun e w' => e = .returned (.bool true) ∧ Below w.heap.size w w' := by
  have HR0 := Aside0.mk hr0
  have HR1 := Aside0.mk hr1
  have HR2 := Aside0.mk hr2
  have HC0 := Aside0.mk hc0
  have HC1 := Aside0.mk hc1
  have HC2 := Aside0.mk hc2
  have hu41 := Try.underlying41
  clear hr0 hc0 hr1 hc1 hr2 hc2
  rcases Nat.lt_or_ge 500 l0.length with n0 | n0
  · clear hG hX hY hW hbad
    go_enter Try.func8, Try.ntmps8
    go_wp2_with (first
    | (go_at_call 31; (with_reducible refine (earshotref02_Gate.calls _ _ _ _ _ _ _ _ _ HG.out).mono ?_); rintro e wG ⟨rfl, hb_⟩; have HBG := Aside0.mk (below_step (below_alloc (Below.refl w.heap.size w) _) hb_); have BKG := Aside0.mk (blk_below (blk_new w (.cells #[.int .i64 a0, .int .i64 a1, .int .i64 a2, .int .i64 a3, .int .i64 a4, .int .i64 a5, .int .i64 a6] 41 (0, 0))) hb_); clear hb_)
    | (go_at_call 27; (with_reducible refine (earshotref02_All.calls 600 A0 c0 l0 _ _ _ _ (Kd.C_below HR0.out HBG.out) HC0.out HX.out).mono ?_); rintro e wX ⟨rfl, hd_⟩; have HBX := Aside0.mk (show Below w.heap.size w wX from (by obtain ⟨m_, hm_⟩ := hd_.out; subst hm_; exact pw_below_drewN HBG.out _)); have BKX := Aside0.mk (blk_below BKG.out (show Below wG.heap.size wG wX from (by obtain ⟨m_, hm_⟩ := hd_.out; subst hm_; exact pw_below_drewN (Below.refl _ _) _))); clear hd_)
    | (go_at_call 27; (with_reducible refine (earshotref02_All.calls 600 A2 c2 l2 _ _ _ _ (Kd.C_below HR2.out HBX.out) HC2.out HY.out).mono ?_); rintro e wY ⟨rfl, hd_⟩; have HBY := Aside0.mk (show Below w.heap.size w wY from (by obtain ⟨m_, hm_⟩ := hd_.out; subst hm_; exact pw_below_drewN HBX.out _)); have BKY := Aside0.mk (blk_below BKX.out (show Below wX.heap.size wX wY from (by obtain ⟨m_, hm_⟩ := hd_.out; subst hm_; exact pw_below_drewN (Below.refl _ _) _))); clear hd_)
    | (go_at_call 27; (with_reducible refine (earshotref02_All.calls 600 A1 c1 l1 _ _ _ _ (Kd.C_below HR1.out HBY.out) HC1.out HW.out).mono ?_); rintro e wW ⟨rfl, hd_⟩; have HBW := Aside0.mk (show Below w.heap.size w wW from (by obtain ⟨m_, hm_⟩ := hd_.out; subst hm_; exact pw_below_drewN HBY.out _)); have BKW := Aside0.mk (blk_below BKY.out (show Below wY.heap.size wY wW from (by obtain ⟨m_, hm_⟩ := hd_.out; subst hm_; exact pw_below_drewN (Below.refl _ _) _))); clear hd_)
    | (go_at_call 22; (with_reducible refine (earshotlaw02_known.calls 40 true _ known_40).mono ?_); rintro e wK ⟨rfl, hb_⟩; have HBK := Aside0.mk (show Below w.heap.size w wK from (by first | exact below_step HBW.out hb_ | exact below_step HBY.out hb_ | exact below_step HBX.out hb_ | exact below_step HBG.out hb_ | exact below_step (below_alloc (Below.refl w.heap.size w) _) hb_)); clear hb_))
    go_ret
    exact ⟨rfl, HBK.out⟩
  rcases Nat.lt_or_ge 500 l1.length with n1 | n1
  · clear hG hX hY hW hbad
    go_enter Try.func8, Try.ntmps8
    go_wp2_with (first
    | (go_at_call 31; (with_reducible refine (earshotref02_Gate.calls _ _ _ _ _ _ _ _ _ HG.out).mono ?_); rintro e wG ⟨rfl, hb_⟩; have HBG := Aside0.mk (below_step (below_alloc (Below.refl w.heap.size w) _) hb_); have BKG := Aside0.mk (blk_below (blk_new w (.cells #[.int .i64 a0, .int .i64 a1, .int .i64 a2, .int .i64 a3, .int .i64 a4, .int .i64 a5, .int .i64 a6] 41 (0, 0))) hb_); clear hb_)
    | (go_at_call 27; (with_reducible refine (earshotref02_All.calls 600 A0 c0 l0 _ _ _ _ (Kd.C_below HR0.out HBG.out) HC0.out HX.out).mono ?_); rintro e wX ⟨rfl, hd_⟩; have HBX := Aside0.mk (show Below w.heap.size w wX from (by obtain ⟨m_, hm_⟩ := hd_.out; subst hm_; exact pw_below_drewN HBG.out _)); have BKX := Aside0.mk (blk_below BKG.out (show Below wG.heap.size wG wX from (by obtain ⟨m_, hm_⟩ := hd_.out; subst hm_; exact pw_below_drewN (Below.refl _ _) _))); clear hd_)
    | (go_at_call 27; (with_reducible refine (earshotref02_All.calls 600 A2 c2 l2 _ _ _ _ (Kd.C_below HR2.out HBX.out) HC2.out HY.out).mono ?_); rintro e wY ⟨rfl, hd_⟩; have HBY := Aside0.mk (show Below w.heap.size w wY from (by obtain ⟨m_, hm_⟩ := hd_.out; subst hm_; exact pw_below_drewN HBX.out _)); have BKY := Aside0.mk (blk_below BKX.out (show Below wX.heap.size wX wY from (by obtain ⟨m_, hm_⟩ := hd_.out; subst hm_; exact pw_below_drewN (Below.refl _ _) _))); clear hd_)
    | (go_at_call 27; (with_reducible refine (earshotref02_All.calls 600 A1 c1 l1 _ _ _ _ (Kd.C_below HR1.out HBY.out) HC1.out HW.out).mono ?_); rintro e wW ⟨rfl, hd_⟩; have HBW := Aside0.mk (show Below w.heap.size w wW from (by obtain ⟨m_, hm_⟩ := hd_.out; subst hm_; exact pw_below_drewN HBY.out _)); have BKW := Aside0.mk (blk_below BKY.out (show Below wY.heap.size wY wW from (by obtain ⟨m_, hm_⟩ := hd_.out; subst hm_; exact pw_below_drewN (Below.refl _ _) _))); clear hd_)
    | (go_at_call 22; (with_reducible refine (earshotlaw02_known.calls 40 true _ known_40).mono ?_); rintro e wK ⟨rfl, hb_⟩; have HBK := Aside0.mk (show Below w.heap.size w wK from (by first | exact below_step HBW.out hb_ | exact below_step HBY.out hb_ | exact below_step HBX.out hb_ | exact below_step HBG.out hb_ | exact below_step (below_alloc (Below.refl w.heap.size w) _) hb_)); clear hb_))
    go_ret
    exact ⟨rfl, HBK.out⟩
  rcases Nat.lt_or_ge 500 l2.length with n2 | n2
  · clear hG hX hY hW hbad
    go_enter Try.func8, Try.ntmps8
    go_wp2_with (first
    | (go_at_call 31; (with_reducible refine (earshotref02_Gate.calls _ _ _ _ _ _ _ _ _ HG.out).mono ?_); rintro e wG ⟨rfl, hb_⟩; have HBG := Aside0.mk (below_step (below_alloc (Below.refl w.heap.size w) _) hb_); have BKG := Aside0.mk (blk_below (blk_new w (.cells #[.int .i64 a0, .int .i64 a1, .int .i64 a2, .int .i64 a3, .int .i64 a4, .int .i64 a5, .int .i64 a6] 41 (0, 0))) hb_); clear hb_)
    | (go_at_call 27; (with_reducible refine (earshotref02_All.calls 600 A0 c0 l0 _ _ _ _ (Kd.C_below HR0.out HBG.out) HC0.out HX.out).mono ?_); rintro e wX ⟨rfl, hd_⟩; have HBX := Aside0.mk (show Below w.heap.size w wX from (by obtain ⟨m_, hm_⟩ := hd_.out; subst hm_; exact pw_below_drewN HBG.out _)); have BKX := Aside0.mk (blk_below BKG.out (show Below wG.heap.size wG wX from (by obtain ⟨m_, hm_⟩ := hd_.out; subst hm_; exact pw_below_drewN (Below.refl _ _) _))); clear hd_)
    | (go_at_call 27; (with_reducible refine (earshotref02_All.calls 600 A2 c2 l2 _ _ _ _ (Kd.C_below HR2.out HBX.out) HC2.out HY.out).mono ?_); rintro e wY ⟨rfl, hd_⟩; have HBY := Aside0.mk (show Below w.heap.size w wY from (by obtain ⟨m_, hm_⟩ := hd_.out; subst hm_; exact pw_below_drewN HBX.out _)); have BKY := Aside0.mk (blk_below BKX.out (show Below wX.heap.size wX wY from (by obtain ⟨m_, hm_⟩ := hd_.out; subst hm_; exact pw_below_drewN (Below.refl _ _) _))); clear hd_)
    | (go_at_call 27; (with_reducible refine (earshotref02_All.calls 600 A1 c1 l1 _ _ _ _ (Kd.C_below HR1.out HBY.out) HC1.out HW.out).mono ?_); rintro e wW ⟨rfl, hd_⟩; have HBW := Aside0.mk (show Below w.heap.size w wW from (by obtain ⟨m_, hm_⟩ := hd_.out; subst hm_; exact pw_below_drewN HBY.out _)); have BKW := Aside0.mk (blk_below BKY.out (show Below wY.heap.size wY wW from (by obtain ⟨m_, hm_⟩ := hd_.out; subst hm_; exact pw_below_drewN (Below.refl _ _) _))); clear hd_)
    | (go_at_call 22; (with_reducible refine (earshotlaw02_known.calls 40 true _ known_40).mono ?_); rintro e wK ⟨rfl, hb_⟩; have HBK := Aside0.mk (show Below w.heap.size w wK from (by first | exact below_step HBW.out hb_ | exact below_step HBY.out hb_ | exact below_step HBX.out hb_ | exact below_step HBG.out hb_ | exact below_step (below_alloc (Below.refl w.heap.size w) _) hb_)); clear hb_))
    go_ret
    exact ⟨rfl, HBK.out⟩
  have HG := Aside0.mk (show earshotref02_Gate.f a0 a1 a2 a3 a4 a5 a6 = some bG by rw [Gate_eq, hG n0 n1 n2])
  have HX := Aside0.mk (show earshotref02_All.f 600 l0 (-32768) 32767 = some bX by rw [all_some _ _ _ (by omega) _ (by omega), hX n0])
  have HY := Aside0.mk (show earshotref02_All.f 600 l2 (-32768) 32767 = some bY by rw [all_some _ _ _ (by omega) _ (by omega), hY n2])
  have HW := Aside0.mk (show earshotref02_All.f 600 l1 (-32768) 32767 = some bW by rw [all_some _ _ _ (by omega) _ (by omega), hW n1])
  clear hG hX hY hW
  have hbad2 : bG = false ∨ (bG = true ∧ bX = false) ∨ (bG = true ∧ bX = true ∧ bY = false) ∨ (bG = true ∧ bX = true ∧ bY = true ∧ bW = true) := by
    rcases hbad with h | h | h | h | h | h | h
    · omega
    · omega
    · omega
    · exact .inl h
    all_goals (cases bG <;> cases bX <;> cases bY <;> simp_all)
  clear hbad
  rcases hbad2 with rfl | ⟨rfl, rfl⟩ | ⟨rfl, rfl, rfl⟩ | ⟨rfl, rfl, rfl, rfl⟩
  all_goals
    go_enter Try.func8, Try.ntmps8
    go_wp2_with (first
      | (go_at_call 31; (with_reducible refine (earshotref02_Gate.calls _ _ _ _ _ _ _ _ _ HG.out).mono ?_); rintro e wG ⟨rfl, hb_⟩; have HBG := Aside0.mk (below_step (below_alloc (Below.refl w.heap.size w) _) hb_); have BKG := Aside0.mk (blk_below (blk_new w (.cells #[.int .i64 a0, .int .i64 a1, .int .i64 a2, .int .i64 a3, .int .i64 a4, .int .i64 a5, .int .i64 a6] 41 (0, 0))) hb_); clear hb_)
      | (go_at_call 27; (with_reducible refine (earshotref02_All.calls 600 A0 c0 l0 _ _ _ _ (Kd.C_below HR0.out HBG.out) HC0.out HX.out).mono ?_); rintro e wX ⟨rfl, hd_⟩; have HBX := Aside0.mk (show Below w.heap.size w wX from (by obtain ⟨m_, hm_⟩ := hd_.out; subst hm_; exact pw_below_drewN HBG.out _)); have BKX := Aside0.mk (blk_below BKG.out (show Below wG.heap.size wG wX from (by obtain ⟨m_, hm_⟩ := hd_.out; subst hm_; exact pw_below_drewN (Below.refl _ _) _))); clear hd_)
      | (go_at_call 27; (with_reducible refine (earshotref02_All.calls 600 A2 c2 l2 _ _ _ _ (Kd.C_below HR2.out HBX.out) HC2.out HY.out).mono ?_); rintro e wY ⟨rfl, hd_⟩; have HBY := Aside0.mk (show Below w.heap.size w wY from (by obtain ⟨m_, hm_⟩ := hd_.out; subst hm_; exact pw_below_drewN HBX.out _)); have BKY := Aside0.mk (blk_below BKX.out (show Below wX.heap.size wX wY from (by obtain ⟨m_, hm_⟩ := hd_.out; subst hm_; exact pw_below_drewN (Below.refl _ _) _))); clear hd_)
      | (go_at_call 27; (with_reducible refine (earshotref02_All.calls 600 A1 c1 l1 _ _ _ _ (Kd.C_below HR1.out HBY.out) HC1.out HW.out).mono ?_); rintro e wW ⟨rfl, hd_⟩; have HBW := Aside0.mk (show Below w.heap.size w wW from (by obtain ⟨m_, hm_⟩ := hd_.out; subst hm_; exact pw_below_drewN HBY.out _)); have BKW := Aside0.mk (blk_below BKY.out (show Below wY.heap.size wY wW from (by obtain ⟨m_, hm_⟩ := hd_.out; subst hm_; exact pw_below_drewN (Below.refl _ _) _))); clear hd_)
      | (go_at_call 22; (with_reducible refine (earshotlaw02_known.calls 40 true _ known_40).mono ?_); rintro e wK ⟨rfl, hb_⟩; have HBK := Aside0.mk (show Below w.heap.size w wK from (by first | exact below_step HBW.out hb_ | exact below_step HBY.out hb_ | exact below_step HBX.out hb_ | exact below_step HBG.out hb_ | exact below_step (below_alloc (Below.refl w.heap.size w) _) hb_)); clear hb_))
    go_ret
    exact ⟨rfl, HBK.out⟩
end Go.Proofs.Ytigbfcodnbnicaa.P
