/- The law of listeners, walked: the way on which all is right; for rows of at most 2^44 numbers. -/
import Derived.Test.YtigbfcodnbnicaaHLisA
import Derived.Test.YtigbfcodnbnicaaQSame
set_option linter.unusedVariables false
set_option linter.unusedSimpArgs false
namespace Go.Proofs.Ytigbfcodnbnicaa.P
open Go.RowKit Go.Proofs.YtigbfcodnbnicaaW.PrintWords Go.Proofs.YtigbfcodnbnicaaW.PrintLast Go.Proofs.YtigbfcodnbnicaaW.PrintMore

theorem runAll_len (g : Gt) (s : Ls) (r : List Int) : (runAll g s r).2.length ≤ r.length := Nat.le_trans (outQ_length g s r _) (Nat.div_le_self _ _)
theorem beq_eq_decide' (a b : Int) : (a == b) = decide (a = b) := rfl
set_option maxHeartbeats 8000000 in
set_option maxRecDepth 100000 in
theorem lis_good (A0 : Option Addr) (c0 : Nat) (ls : List (List Int)) (g : Gt) (A2 : Option Addr) (c2 : Nat) (ag : List Int) (w : World) (hr0 : Kd.C (Kd.slice 3 (Kd.int .i64)) w A0 ls.length ls) (hr2 : Kd.C (Kd.int .i64) w A2 ag.length ag) (hc2 : ag.length ≤ c2) (hb : ∀ x ∈ ls, x.length ≤ 17592186044416) (hl : ls.length ≤ 9223372036854775807) (hgood : ∀ x ∈ ls, inR (-32768) 32767 x = true) (hfew : (cat ls ls.length).length ≤ 2000 ∧ ls.length ≤ 30 ∧ ag.length ≤ 100) (hgate : gateOK g = true) :
    Calls Try.prog 11 #[.slice A0 ls.length c0, .agg #[.int .i64 g.block, .int .i64 g.high, .int .i64 g.low, .int .i64 g.rise, .int .i64 g.fall, .int .i64 g.lead, .int .i64 g.longest], .slice A2 ag.length c2] w fun e w' => e = .returned (.bool true) ∧ Below w.heap.size w w' := by
  have HGD := Aside0.mk hgood
  have HGo := Aside0.mk hgate
  have HGT := Aside0.mk (show earshotref02_Gate.f g.block g.high g.low g.rise g.fall g.lead g.longest = some true by rw [Gate_eq]; exact congrArg some hgate)
  clear hgood hgate
  have HR0 := Aside0.mk hr0
  have HR2 := Aside0.mk hr2
  have HC2 := Aside0.mk hc2
  have HLB := Aside0.mk hb
  have hu41 := Try.underlying41
  have hu65 := Try.underlying65
  have hu71 := Try.underlying71
  clear hr0 hr2 hc2 hb
  go_enter Try.func11, Try.ntmps11
  go_wp2_with fail
  go_loopw [7, 8] (fun v7 v8 wr => ∃ (i : Nat) (n : Int), i ≤ ls.length ∧ v7 = .int .i64 n ∧ v8 = .int .i64 i ∧ Aside0 (ls.length ≤ 30 → n = ((cat ls i).length : Int)) ∧ Aside0 (∀ x ∈ ls.take i, inR (-32768) 32767 x = true) ∧ Aside0 (Below w.heap.size w wr) ∧ Aside0 (wr.heap[w.heap.size]? = some (.cells #[.int .i64 g.block, .int .i64 g.high, .int .i64 g.low, .int .i64 g.rise, .int .i64 g.fall, .int .i64 g.lead, .int .i64 g.longest] 41 (0, 0)))) (fun _ v8 _ => ls.length - (intOf v8).toNat)
  case atStart => exact ⟨0, 0, Nat.zero_le _, rfl, rfl, ⟨fun _ => rfl⟩, ⟨fun x hx => by simp at hx⟩, ⟨below_alloc (Below.refl _ _) _⟩, ⟨blk_new _ _⟩⟩
  case round =>
    obtain ⟨i, n, hi, rfl, rfl, HN, HG1, HB, BK⟩ := hrel
    by_cases hlt : i < ls.length
    · have hd : decide ((i : Int) < (ls.length : Int)) = true := decide_eq_true (by omega)
      obtain ⟨ad, Ae, ce, eA, hx, hle, hie⟩ := at_L1 (Kd.C_below HR0.out HB.out) (i : Int) (by omega) (by omega)
      have HM := Aside0.mk (rdL_mem hlt)
      have HCT := Aside0.mk (cat_succ hlt)
      have HTK : Aside0 (ls.take (i + 1) = ls.take i ++ [rd_L1 ls (i : Int)]) := ⟨take_rd hlt⟩
      generalize rd_L1 ls (i : Int) = x at hx hle hie HM HCT HTK
      rw [Int.toNat_natCast] at hx
      cases eA
      have HRe := Aside0.mk hie
      have HCe := Aside0.mk hle
      have hxl := HLB.out x HM.out
      obtain ⟨n2, hn2⟩ : ∃ n2, n2 = wrap64 (n + (x.length : Int)) := ⟨_, rfl⟩
      have HN2 : Aside0 (ls.length ≤ 30 → n2 = ((cat ls (i + 1)).length : Int)) := ⟨fun h => by
        have h1 := HN.out h
        have h2 := cat_le ls 17592186044416 HLB.out (i + 1) (by omega)
        rw [HCT.out, List.length_append] at h2 ⊢
        rw [hn2, h1, w64 (by omega) (by omega)]
        omega⟩
      have hp1 := eq_true (show 0 ≤ (i : Int) by omega)
      have hp2 := eq_true (show (i : Int) < (ls.length : Int) by omega)
      have hlt2 := hlt
      clear hie hle
      have HX := Aside0.mk (show earshotref02_All.f (x.length + 1) x (-32768) 32767 = some true by rw [all_some _ _ _ (by omega) _ (by omega), HGD.out x HM.out])
      go_wp2_with (go_at_call 27; (with_reducible refine (earshotref02_All.calls (x.length + 1) Ae ce x _ _ _ _ HRe.out HCe.out HX.out).mono ?_); rintro e wX ⟨rfl, hd_⟩; have hb_ : Below wr.heap.size wr wX := (by obtain ⟨m_, hm_⟩ := hd_.out; subst hm_; exact pw_below_drewN (Below.refl _ _) _); have n1_ := Aside0.mk (below_step HB.out hb_); have n2_ := Aside0.mk (blk_below BK.out hb_); clear hd_ hb_ HB BK; have HB := n1_; have BK := n2_; clear n1_ n2_)
      go_roundw
      case rel =>
        refine ⟨i + 1, n2, hlt, ?_, ?_, HN2, ⟨?_⟩, HB, BK⟩
        · rw [hn2]
        · go_num
        · intro y hy
          rw [HTK.out] at hy
          rcases List.mem_append.1 hy with h | h
          · exact HG1.out y h
          · rw [List.mem_singleton.1 h]; exact HGD.out x HM.out
      case measure => simp [intOf]; omega
    · have hd : decide ((i : Int) < (ls.length : Int)) = false := decide_eq_false (by omega)
      obtain rfl : i = ls.length := by omega
      rw [List.take_length] at HG1
      have hn : n = ((cat ls ls.length).length : Int) := HN.out hfew.2.1
      have h1 : n ≤ 2000 := by omega
      have h2 := hfew.2.1
      have h3 := hfew.2.2
      clear hn HN hlt hd
      have hcw0 := (blk_cell BK.out 0).trans rfl; have hcw1 := (blk_cell BK.out 1).trans rfl; have hcw2 := (blk_cell BK.out 2).trans rfl; have hcw3 := (blk_cell BK.out 3).trans rfl; have hcw4 := (blk_cell BK.out 4).trans rfl; have hcw5 := (blk_cell BK.out 5).trans rfl; have hcw6 := (blk_cell BK.out 6).trans rfl
      go_wp2_with (first
        | (go_at_call 36; (with_reducible refine (listen_lis g w.heap.size _ HGo.out HB.out.size).mono ?_); rintro e wL ⟨b, rfl, hl_, hge_, hb_⟩; have HL := Aside0.mk hl_; have GEb := Aside0.mk (Nat.lt_of_lt_of_le (blk_lt BK.out) hge_); clear hl_ hge_; have n0_ := Aside0.mk (below_step HB.out hb_); have m0_ := Aside0.mk (blk_below BK.out hb_); clear HB BK; have HB := n0_; have BK := m0_; clear n0_ m0_; clear hb_; have hcv0 := (blk_cell BK.out 0).trans rfl; have hcv1 := (blk_cell BK.out 1).trans rfl; have hcv2 := (blk_cell BK.out 2).trans rfl; have hcv3 := (blk_cell BK.out 3).trans rfl; have hcv4 := (blk_cell BK.out 4).trans rfl; have hcv5 := (blk_cell BK.out 5).trans rfl; have hcv6 := (blk_cell BK.out 6).trans rfl)
        | (go_at_call 31; (with_reducible refine (earshotref02_Gate.calls _ _ _ _ _ _ _ _ _ HGT.out).mono ?_); rintro e wG ⟨rfl, hb_⟩; have n0_ := Aside0.mk (below_step HB.out hb_); have m0_ := Aside0.mk (blk_below BK.out hb_); have m1_ := Aside0.mk (HL.out.below hb_); clear HB BK HL; have HB := n0_; have BK := m0_; have HL := m1_; clear n0_ m0_ m1_; clear hb_))
      clear hcw0 hcv0 hcw1 hcv1 hcw2 hcv2 hcw3 hcv3 hcw4 hcv4 hcw5 hcv5 hcw6 hcv6
      go_loopw [11, 12, 13] (fun v11 v12 v13 wr => ∃ (i : Nat), i ≤ ls.length ∧ v13 = .int .i64 i ∧ Aside0 (Kd.R (Kd.int .i64) 3 wr w.heap.size (fun _ => True) v11 (cat ls i)) ∧ Aside0 (Kd.R k65 65 wr w.heap.size (fun _ => True) v12 (runAll g ls0 (cat ls i)).2) ∧ Aside0 (Lis g (runAll g ls0 (cat ls i)).1 (cat ls i).length (restOf g (cat ls i)) b w.heap.size wr) ∧ Aside0 (Below w.heap.size w wr) ∧ Aside0 (wr.heap[w.heap.size]? = some (.cells #[.int .i64 g.block, .int .i64 g.high, .int .i64 g.low, .int .i64 g.rise, .int .i64 g.fall, .int .i64 g.lead, .int .i64 g.longest] 41 (0, 0)))) (fun _ _ v13 _ => ls.length - (intOf v13).toNat)
      case atStart => exact ⟨0, Nat.zero_le _, rfl, ⟨Kd.R_nil _ _ _ _ _⟩, ⟨by rw [cat_zero, runAll_nil]; exact Kd.R_nil _ _ _ _ _⟩, ⟨by rw [cat_zero, runAll_nil, restOf_nil]; exact HL.out⟩, HB, BK⟩
      case round =>
        obtain ⟨i, hi, rfl, HO11, HO12, HL, HB, BK⟩ := hrel
        obtain ⟨Ab1, cb1, hbc1, _⟩ := HL.out.cells
        have HWR : Aside0 (w.heap.size ≤ wr.heap.size) := ⟨HB.out.size⟩
        have HBC := Aside0.mk hbc1
        clear hbc1
        by_cases hlt : i < ls.length
        · have hd : decide ((i : Int) < (ls.length : Int)) = true := decide_eq_true (by omega)
          obtain ⟨ad, Ae, ce, eA, hx0, hle, hie⟩ := at_L1 HR0.out (i : Int) (by omega) (by omega)
          have HVX : Aside0 (inR (-32768) 32767 (rd_L1 ls (i : Int)) = true) := ⟨HGD.out _ (rdL_mem hlt)⟩
          obtain ⟨L1, hL1⟩ : ∃ L1, L1 = cat ls (i + 1) := ⟨_, rfl⟩
          have hL2 : L1 = cat ls i ++ rd_L1 ls (i : Int) := hL1.trans (cat_succ hlt)
          have hL3 : L1.length ≤ 2000 := by rw [hL1]; exact Nat.le_trans (cat_le_all ls (i + 1) hlt) hfew.1
          have HLV : Aside0 (∀ v ∈ L1, -32768 ≤ v ∧ v ≤ 32767) := ⟨fun v hv => by
            rw [hL1] at hv
            obtain ⟨y, hy, hvy⟩ := cat_mem hv
            exact inR_mem (HGD.out y hy) v hvy⟩
          generalize rd_L1 ls (i : Int) = x at hx0 hle hie HVX hL2
          generalize cat ls i = lc at HO11 HO12 HL hL2
          have HLE := Aside0.mk hL1.symm
          have HLX := Aside0.mk hL2
          have hlen : L1.length = lc.length + x.length := by rw [hL2, List.length_append]
          have HSM : Aside0 (lc.length + x.length ≤ 2147483648) := ⟨by omega⟩
          have HXL : Aside0 (x.length ≤ 200000) := ⟨by omega⟩
          have hfo := feed_on g (gate_block HGo.out).1 ls0 lc x
          rw [← hL2] at hfo
          have HF1 : Aside0 ((runAll g ls0 L1).1 = (runAll g (runAll g ls0 lc).1 (restOf g lc ++ x)).1) := ⟨by rw [hfo.1]⟩
          have HF2 : Aside0 (restOf g L1 = restOf g (restOf g lc ++ x)) := ⟨hfo.2⟩
          have HF3 := Aside0.mk hlen
          obtain ⟨sX, hsX⟩ : ∃ s, s = (runAll g (runAll g ls0 lc).1 (restOf g lc ++ x)).2 := ⟨_, rfl⟩
          have HF4 := Aside0.mk hsX
          obtain ⟨S1, hS1⟩ : ∃ s, s = (runAll g ls0 L1).2 := ⟨_, rfl⟩
          have hS1L : S1.length ≤ 2000 := by rw [hS1]; exact Nat.le_trans (runAll_len _ _ _) hL3
          have HSE := Aside0.mk hS1.symm
          have hSX : S1 = (runAll g ls0 lc).2 ++ sX := by rw [hS1, hfo.1, hsX]
          have hsl : S1.length = (runAll g ls0 lc).2.length + sX.length := by rw [hSX, List.length_append]
          have HN12 : Aside0 ((runAll g ls0 lc).2.length ≤ 2000) := ⟨by omega⟩
          have HNX : Aside0 (sX.length ≤ 2000) := ⟨by omega⟩
          obtain ⟨sp, hsp⟩ : ∃ sp, ((runAll g ls0 L1).1.state == 1) = sp := ⟨_, rfl⟩
          have HSP := Aside0.mk hsp
          have HSEG : Aside0 (earshotref02_Segments.f 6100 L1 g.block g.high g.low g.rise g.fall g.lead g.longest false = some (S1, sp)) := ⟨by
            rw [Segments_eq g HGo.out L1 (by omega) HLV.out false 6100 (by omega), hS1, ← hsp]
            simp [runAll, beq_eq_decide']⟩
          have HSAME : Aside0 (earshotref02_SameSegments.f 4000 S1 S1 = some true) := ⟨seg_same_self _ (by omega) _ (by omega)⟩
          generalize (runAll g ls0 lc).2 = s12 at HO12 HN12 hSX
          have HSX := Aside0.mk hSX
          clear hL1 hL2 hL3 hlen hfo hsX hS1 hS1L hSX hsl hsp
          rw [Int.toNat_natCast] at hx0
          have HX0 := Aside0.mk hx0
          have hx := pw_cell_below HB.out hx0
          clear hx0
          cases eA
          have HRe := Aside0.mk hie
          have HCe := Aside0.mk hle
          have hp1 := eq_true (show 0 ≤ (i : Int) by omega)
          have hp2 := eq_true (show (i : Int) < (ls.length : Int) by omega)
          have hlt2 := hlt
          clear hie hle
          go_wp2_with (first
            | (go_at_call 37; (with_reducible refine (feed_fresh g _ _ _ b Ae ce x w _ HGo.out HL.out HSM.out HRe.out HVX.out HXL.out (Nat.le_of_lt GEb.out) HB.out).mono ?_); rintro e wF ⟨vF, rfl, hs_, hl_, hb_, hk_⟩; rw [← HF1.out, ← HF2.out, ← HF3.out] at hl_; rw [← HF4.out] at hs_; obtain ⟨AF, cF, eF⟩ := Kd.R_slice hs_; subst eF; have m1_ := Aside0.mk (Kd.R_mono (Kd.R_keep (Kd.R_types (Kd.R_bound HO11.out) HBC.out (by decide)) hk_ (fun _ h => h.2)) (ok' := fun k => k < wr.heap.size) (fun k h => h.1.2.2.1)); have m2_ := Aside0.mk (Kd.R_mono (Kd.R_keep (Kd.R_types (Kd.R_bound HO12.out) HBC.out (by decide)) hk_ (fun _ h => h.2)) (ok' := fun k => k < wr.heap.size) (fun k h => h.1.2.2.1)); have m3_ := Aside0.mk (hk_.blk BK.out (Nat.ne_of_lt GEb.out) (by simp)); clear HO11 HO12 BK HB HL HBC hx; have HO11 := m1_; have HO12 := m2_; have BK := m3_; have HB := Aside0.mk hb_; have HL := Aside0.mk hl_; have HSF := Aside0.mk hs_; have hx := pw_cell_below hb_ HX0.out; clear m1_ m2_ m3_ hs_ hl_ hb_ hk_)
            | ((with_reducible refine gate_builtin (b := .append) (xs := #[.tmp 102, .tmp 106]) rfl ?_); at_builtin; refine Kd.R_append_rows (Kd.int .i64) (w0 := w) w.heap.size rfl (.tmp 102) (.tmp 106) 22 3 (.int .i64 0) 8 rfl Try.underlying22 info3 rfl (by decide) (by omega) u11 lc x _ _ _ (fun _ => True) (fun _ => False) rfl rfl (Kd.R_mono HO11.out (fun _ _ => trivial)) ?aR (fun _ _ h => h) (fun _ h => h.elim) (fun _ _ => trivial) HB.out HB.out.size ?aL ?_; (case aR => exact Kd.C_below HRe.out HB.out); (case aL => have := HSM.out; omega); intro v107 wA ho_ hb_ hg_ hnew_; rw [← HLX.out] at ho_; obtain ⟨A107, c107, e107⟩ := Kd.R_slice ho_; subst e107; obtain ⟨Ab2, cb2, hbF, _⟩ := HL.out.cells; have m1_ := Aside0.mk (HL.out.grown hg_ (Kd.R_ne HO11.out hbF (by decide)) (fun k hk e_ => by have := HO11.out.1 k e_.symm; omega)); have m2_ := Aside0.mk (Kd.R_grown2 HO12.out rfl hg_ (R_two HO11.out HO12.out rfl rfl (by decide))); have m3_ := Aside0.mk (Kd.R_grown2 HSF.out rfl hg_ (R_two HO11.out HSF.out rfl rfl (by decide))); have m4_ := Aside0.mk (blk_grown BK.out hg_ (Kd.R_ne HO11.out BK.out (by decide))); clear HL HO12 HSF BK HO11 HB hbF; have HL := m1_; have HO12 := m2_; have HSF := m3_; have BK := m4_; have HO11 := Aside0.mk ho_; have HB := Aside0.mk hb_; clear m1_ m2_ m3_ m4_ ho_ hb_ hg_ hnew_)
            | ((with_reducible refine gate_builtin (b := .append) (xs := #[.tmp 108, .tmp 109]) rfl ?_); at_builtin; refine Kd.R_append_rows k65 (Rr := k65.K wA) (w0 := w) w.heap.size rfl (.tmp 108) (.tmp 109) 42 65 (.agg #[(.int .i64 0), (.int .i64 0)]) 16 rfl Try.underlying42 info65 rfl (by decide) (by omega) u12 s12 sX _ _ _ (fun _ => True) (fun _ => False) rfl rfl (Kd.R_mono HO12.out (fun _ _ => trivial)) ?aR (fun x cs h => by rw [k65_open h]; exact k65_mkM _ _ _ x) (fun _ h => h.elim) (fun _ _ => trivial) HB.out HB.out.size ?aL ?_; (case aR => exact (Kd.R_reads' HSF.out).2.2); (case aL => have := HN12.out; have := HNX.out; omega); intro v110 wS ho_ hb_ hg_ hnew_; rw [← HSX.out] at ho_; obtain ⟨A110, c110, e110⟩ := Kd.R_slice ho_; subst e110; have m1_ := Aside0.mk (HL.out.grown65 HO12.out hg_); have m2_ := Aside0.mk (Kd.R_grown2 HO11.out rfl hg_ (R_two HO12.out HO11.out rfl rfl (by decide))); have m4_ := Aside0.mk (blk_grown BK.out hg_ (Kd.R_ne HO12.out BK.out (by decide))); clear HL HO12 HSF BK HO11 HB; have HL := m1_; have HO11 := m2_; have BK := m4_; have HO12 := Aside0.mk ho_; have HB := Aside0.mk hb_; clear m1_ m2_ m4_ ho_ hb_ hg_ hnew_; have hcs0 := (blk_cell BK.out 0).trans rfl; have hcs1 := (blk_cell BK.out 1).trans rfl; have hcs2 := (blk_cell BK.out 2).trans rfl; have hcs3 := (blk_cell BK.out 3).trans rfl; have hcs4 := (blk_cell BK.out 4).trans rfl; have hcs5 := (blk_cell BK.out 5).trans rfl; have hcs6 := (blk_cell BK.out 6).trans rfl)
            | (go_at_call 32; (with_reducible refine (earshotref02_Segments.calls 6100 A107 c107 L1 _ _ _ _ _ _ _ false S1 sp _ (Kd.R_reads' HO11.out).2.2 (Kd.R_reads' HO11.out).2.1 HSEG.out).mono ?_); rintro e wR ⟨vR, rfl, ho_, hb_⟩; obtain ⟨AR, cR, eR⟩ := Kd.R_slice ho_; subst eR; have n0_ := Aside0.mk (below_step HB.out hb_); have m0_ := Aside0.mk (blk_below BK.out hb_); have m1_ := Aside0.mk (HL.out.below hb_); have m2_ := Aside0.mk (Kd.R_below HO11.out hb_); have m3_ := Aside0.mk (Kd.R_below HO12.out hb_); clear HB BK HL HO11 HO12; have HB := n0_; have BK := m0_; have HL := m1_; have HO11 := m2_; have HO12 := m3_; clear n0_ m0_ m1_ m2_ m3_; have HSR := Aside0.mk ho_; clear hb_ ho_)
            | (go_at_call 40; (with_reducible refine (at_lis g _ _ _ b _ sp _ HL.out HSP.out).mono ?_); rintro e wT ⟨rfl, hd_⟩; have hb_ : Below wR.heap.size wR wT := (by obtain ⟨m_, hm_⟩ := hd_.out; subst hm_; exact pw_below_drewN (Below.refl _ _) _); clear hd_; have n0_ := Aside0.mk (below_step HB.out hb_); have m0_ := Aside0.mk (blk_below BK.out hb_); have m1_ := Aside0.mk (HL.out.below hb_); have m2_ := Aside0.mk (Kd.R_below HO11.out hb_); have m3_ := Aside0.mk (Kd.R_below HO12.out hb_); have m4_ := Aside0.mk (Kd.R_below HSR.out hb_); clear HB BK HL HO11 HO12 HSR; have HB := n0_; have BK := m0_; have HL := m1_; have HO11 := m2_; have HO12 := m3_; have HSR := m4_; clear n0_ m0_ m1_ m2_ m3_ m4_; clear hb_)
            | (go_at_call 33; (with_reducible refine (earshotref02_SameSegments.calls 4000 A110 c110 S1 AR cR S1 true _ (Kd.R_reads' HO12.out).2.2 (Kd.R_reads' HO12.out).2.1 (Kd.R_reads' HSR.out).2.2 (Kd.R_reads' HSR.out).2.1 HSAME.out).mono ?_); rintro e wU ⟨rfl, hd_⟩; have hb_ : Below wT.heap.size wT wU := (by obtain ⟨m_, hm_⟩ := hd_.out; subst hm_; exact pw_below_drewN (Below.refl _ _) _); clear hd_; have n0_ := Aside0.mk (below_step HB.out hb_); have m0_ := Aside0.mk (blk_below BK.out hb_); have m1_ := Aside0.mk (HL.out.below hb_); have m2_ := Aside0.mk (Kd.R_below HO11.out hb_); have m3_ := Aside0.mk (Kd.R_below HO12.out hb_); clear HB BK HL HO11 HO12; have HB := n0_; have BK := m0_; have HL := m1_; have HO11 := m2_; have HO12 := m3_; clear n0_ m0_ m1_ m2_ m3_; clear hb_))
          go_roundw
          case rel =>
            refine ⟨i + 1, hlt, by go_num, ?_, ?_, ?_, HB, BK⟩
            · rw [HLE.out]; exact HO11
            · rw [HLE.out, HSE.out]; exact HO12
            · rw [HLE.out]; exact ⟨HL.out.lower HWR.out⟩
          case measure => simp [intOf]; omega
        · have hd : decide ((i : Int) < (ls.length : Int)) = false := decide_eq_false (by omega)
          obtain rfl : i = ls.length := by omega
          obtain ⟨LA, hLA⟩ : ∃ L, L = cat ls ls.length := ⟨_, rfl⟩
          have hL3 : LA.length ≤ 2000 := by rw [hLA]; exact hfew.1
          have HLV : Aside0 (∀ v ∈ LA, -32768 ≤ v ∧ v ≤ 32767) := ⟨fun v hv => by
            rw [hLA] at hv
            obtain ⟨y, hy, hvy⟩ := cat_mem hv
            exact inR_mem (HGD.out y hy) v hvy⟩
          rw [← hLA] at HO11 HO12 HL
          clear hLA
          have HSM : Aside0 (LA.length ≤ 2147483648) := ⟨by omega⟩
          obtain ⟨sC, hsC⟩ : ∃ s : List S65, s = (if (runAll g ls0 LA).1.state = 1 then [⟨(runAll g ls0 LA).1.start * g.block, (LA.length : Int)⟩] else []) := ⟨_, rfl⟩
          have HNC : Aside0 (sC.length ≤ 1) := ⟨by rw [hsC]; split <;> simp⟩
          have HCS := Aside0.mk hsC
          obtain ⟨SA, hSA⟩ : ∃ s, s = segsOf g LA := ⟨_, rfl⟩
          have hSX : SA = (runAll g ls0 LA).2 ++ sC := by rw [hSA, hsC]; exact segsOf_all g LA
          have HN12 : Aside0 ((runAll g ls0 LA).2.length ≤ 2000) := ⟨Nat.le_trans (runAll_len _ _ _) hL3⟩
          have hSL : SA.length ≤ 2001 := by have := HN12.out; have := HNC.out; rw [hSX, List.length_append]; omega
          obtain ⟨sp, hsp⟩ : ∃ sp, ((runAll g ls0 LA).1.state == 1) = sp := ⟨_, rfl⟩
          have HSEG : Aside0 (earshotref02_Segments.f 6100 LA g.block g.high g.low g.rise g.fall g.lead g.longest true = some (SA, sp)) := ⟨by
            rw [Segments_eq g HGo.out LA (by omega) HLV.out true 6100 (by omega), hSA, ← hsp]
            simp [runAll, segsOf, beq_eq_decide']⟩
          have HSAME : Aside0 (earshotref02_SameSegments.f 4000 SA SA = some true) := ⟨seg_same_self _ (by omega) _ (by omega)⟩
          generalize (runAll g ls0 LA).2 = s12 at HO12 HN12 hSX
          have HSX := Aside0.mk hSX
          obtain ⟨A11, c11, e11⟩ := Kd.R_slice HO11.out
          subst e11
          clear hL3 hsC hSA hSX hSL hsp
          cases hva : inR (-32768) 32767 ag with
          | true =>
            have HVA := Aside0.mk hva
            have HXA := Aside0.mk (show earshotref02_All.f 200 ag (-32768) 32767 = some true by rw [all_some _ _ _ (by omega) _ (by omega), hva])
            clear hva
            go_wp2_with (first
            | (go_at_call 38; (with_reducible refine (close_cells g _ _ _ b w _ HGo.out HL.out HSM.out (Nat.le_of_lt GEb.out) HB.out).mono ?_); rintro e wC ⟨vC, vB, rfl, hs_, hc_, hb_, hk_⟩; rw [← HCS.out] at hs_; obtain ⟨AC, cC, eC⟩ := Kd.R_slice hs_; subst eC; have m1_ := Aside0.mk (Kd.R_keep (Kd.R_types HO11.out HBC.out (by decide)) hk_ (fun _ h => h.2)); have m2_ := Aside0.mk (Kd.R_mono (Kd.R_keep (Kd.R_types (Kd.R_bound HO12.out) HBC.out (by decide)) hk_ (fun _ h => h.2)) (ok' := fun k => k < wr.heap.size) (fun k h => h.1.2.2.1)); have m3_ := Aside0.mk (hk_.blk BK.out (Nat.ne_of_lt GEb.out) (by simp)); clear HO11 HO12 BK HB HL HBC; have HO11 := m1_; have HO12 := m2_; have BK := m3_; have HB := Aside0.mk hb_; have HCL := Aside0.mk hc_; have HSC := Aside0.mk hs_; have HKW := Aside0.mk hk_.1; clear m1_ m2_ m3_ hs_ hc_ hb_ hk_; have hcs0 := (blk_cell BK.out 0).trans rfl; have hcs1 := (blk_cell BK.out 1).trans rfl; have hcs2 := (blk_cell BK.out 2).trans rfl; have hcs3 := (blk_cell BK.out 3).trans rfl; have hcs4 := (blk_cell BK.out 4).trans rfl; have hcs5 := (blk_cell BK.out 5).trans rfl; have hcs6 := (blk_cell BK.out 6).trans rfl)
            | (go_at_call 32; (with_reducible refine (earshotref02_Segments.calls 6100 A11 c11 LA _ _ _ _ _ _ _ true SA sp _ (Kd.R_reads' HO11.out).2.2 (Kd.R_reads' HO11.out).2.1 HSEG.out).mono ?_); rintro e wR ⟨vR, rfl, ho_, hb_⟩; obtain ⟨AR, cR, eR⟩ := Kd.R_slice ho_; subst eR; have HSR := Aside0.mk (Kd.R_mono (Kd.R_bound ho_) (ok' := fun k => wr.heap.size ≤ k) (fun k h => by have := h.2.1; have := HKW.out; omega)); have n0_ := Aside0.mk (below_step HB.out hb_); have m0_ := Aside0.mk (blk_below BK.out hb_); have m1_ := Aside0.mk (blk_below HCL.out hb_); have m2_ := Aside0.mk (Kd.R_below HO12.out hb_); have m3_ := Aside0.mk (Kd.R_below HSC.out hb_); clear HB BK HCL HO12 HSC; have HB := n0_; have BK := m0_; have HCL := m1_; have HO12 := m2_; have HSC := m3_; clear n0_ m0_ m1_ m2_ m3_; clear hb_ ho_)
            | ((with_reducible refine gate_builtin (b := .append) (xs := #[.tmp 155, .tmp 156]) rfl ?_); (try (refine gate_guard (by rfl) ?_; dsimp only)); at_builtin; refine Kd.R_append_rows k65 (Rr := k65.K wR) (w0 := w) w.heap.size rfl (.tmp 155) (.tmp 156) 42 65 (.agg #[(.int .i64 0), (.int .i64 0)]) 16 rfl Try.underlying42 info65 rfl (by decide) (by omega) u12 s12 sC _ _ _ (fun _ => True) (fun _ => False) rfl rfl (Kd.R_mono HO12.out (fun _ _ => trivial)) ?aR (fun x cs h => by rw [k65_open h]; exact k65_mkM _ _ _ x) (fun _ h => h.elim) (fun _ _ => trivial) HB.out HB.out.size ?aL ?_; (case aR => exact (Kd.R_reads' HSC.out).2.2); (case aL => have := HN12.out; have := HNC.out; omega); intro v157 wP ho_ hb_ hg_ hnew_; rw [← HSX.out] at ho_; obtain ⟨A157, c157, e157⟩ := Kd.R_slice ho_; subst e157; have m1_ := Aside0.mk (blk_grown HCL.out hg_ (Kd.R_ne HO12.out HCL.out (by decide))); have m2_ := Aside0.mk (Kd.R_grown HSR.out hg_ (fun k hk e_ => by have := HO12.out.1 k e_.symm; omega)); clear HCL HSR HO12 HB HSC; have HCL := m1_; have HSR := m2_; have HO12 := Aside0.mk ho_; have HB := Aside0.mk hb_; clear m1_ m2_ ho_ hb_ hg_ hnew_)
            | (go_at_call 33; (with_reducible refine (earshotref02_SameSegments.calls 4000 A157 c157 SA AR cR SA true _ (Kd.R_reads' HO12.out).2.2 (Kd.R_reads' HO12.out).2.1 (Kd.R_reads' HSR.out).2.2 (Kd.R_reads' HSR.out).2.1 HSAME.out).mono ?_); rintro e wU ⟨rfl, hd_⟩; have hb_ : Below wP.heap.size wP wU := (by obtain ⟨m_, hm_⟩ := hd_.out; subst hm_; exact pw_below_drewN (Below.refl _ _) _); clear hd_; have n0_ := Aside0.mk (below_step HB.out hb_); have m0_ := Aside0.mk (blk_below HCL.out hb_); clear HB HCL; have HB := n0_; have HCL := m0_; clear n0_ m0_; clear hb_)
            | (go_at_call 40; (with_reducible refine (at_closed g _ _ _ b _ rfl HCL.out).mono ?_); rintro e wT ⟨rfl, hd_⟩; have hb_ : Below wU.heap.size wU wT := (by obtain ⟨m_, hm_⟩ := hd_.out; subst hm_; exact pw_below_drewN (Below.refl _ _) _); clear hd_; have n0_ := Aside0.mk (below_step HB.out hb_); have m0_ := Aside0.mk (blk_below HCL.out hb_); clear HB HCL; have HB := n0_; have HCL := m0_; clear n0_ m0_; clear hb_)
            | (go_at_call 37; (with_reducible refine (feed_closed g _ _ _ b A2 c2 ag _ rfl (by omega) (Kd.C_below HR2.out HB.out) HVA.out HCL.out).mono ?_); rintro e wE ⟨rfl, hw_⟩; obtain rfl := hw_.symm; clear hw_)
            | (go_at_call 38; (with_reducible refine (close_closed g _ _ _ b w _ rfl HCL.out (Nat.le_of_lt GEb.out) HB.out).mono ?_); rintro e wD ⟨rfl, hb_⟩; clear HB HCL; have HB := Aside0.mk hb_; clear hb_)
            | (go_at_call 27; (with_reducible refine (earshotref02_All.calls 200 A2 c2 ag _ _ _ _ (Kd.C_below HR2.out HB.out) HC2.out HXA.out).mono ?_); rintro e wX ⟨rfl, hd_⟩; have hb_ : Below wD.heap.size wD wX := (by obtain ⟨m_, hm_⟩ := hd_.out; subst hm_; exact pw_below_drewN (Below.refl _ _) _); clear hd_; have n0_ := Aside0.mk (below_step HB.out hb_); clear HB; have HB := n0_; clear n0_ ; clear hb_)
            | (go_at_call 22; (with_reducible refine (earshotlaw02_known.calls 40 true _ known_40).mono ?_); rintro e wK ⟨rfl, hb_⟩; have HBK := Aside0.mk (below_step HB.out hb_); clear hb_))
            go_ret
            exact ⟨rfl, HBK.out⟩
          | false =>
            have HVA := Aside0.mk hva
            have HXA := Aside0.mk (show earshotref02_All.f 200 ag (-32768) 32767 = some false by rw [all_some _ _ _ (by omega) _ (by omega), hva])
            clear hva
            go_wp2_with (first
            | (go_at_call 38; (with_reducible refine (close_cells g _ _ _ b w _ HGo.out HL.out HSM.out (Nat.le_of_lt GEb.out) HB.out).mono ?_); rintro e wC ⟨vC, vB, rfl, hs_, hc_, hb_, hk_⟩; rw [← HCS.out] at hs_; obtain ⟨AC, cC, eC⟩ := Kd.R_slice hs_; subst eC; have m1_ := Aside0.mk (Kd.R_keep (Kd.R_types HO11.out HBC.out (by decide)) hk_ (fun _ h => h.2)); have m2_ := Aside0.mk (Kd.R_mono (Kd.R_keep (Kd.R_types (Kd.R_bound HO12.out) HBC.out (by decide)) hk_ (fun _ h => h.2)) (ok' := fun k => k < wr.heap.size) (fun k h => h.1.2.2.1)); have m3_ := Aside0.mk (hk_.blk BK.out (Nat.ne_of_lt GEb.out) (by simp)); clear HO11 HO12 BK HB HL HBC; have HO11 := m1_; have HO12 := m2_; have BK := m3_; have HB := Aside0.mk hb_; have HCL := Aside0.mk hc_; have HSC := Aside0.mk hs_; have HKW := Aside0.mk hk_.1; clear m1_ m2_ m3_ hs_ hc_ hb_ hk_; have hcs0 := (blk_cell BK.out 0).trans rfl; have hcs1 := (blk_cell BK.out 1).trans rfl; have hcs2 := (blk_cell BK.out 2).trans rfl; have hcs3 := (blk_cell BK.out 3).trans rfl; have hcs4 := (blk_cell BK.out 4).trans rfl; have hcs5 := (blk_cell BK.out 5).trans rfl; have hcs6 := (blk_cell BK.out 6).trans rfl)
            | (go_at_call 32; (with_reducible refine (earshotref02_Segments.calls 6100 A11 c11 LA _ _ _ _ _ _ _ true SA sp _ (Kd.R_reads' HO11.out).2.2 (Kd.R_reads' HO11.out).2.1 HSEG.out).mono ?_); rintro e wR ⟨vR, rfl, ho_, hb_⟩; obtain ⟨AR, cR, eR⟩ := Kd.R_slice ho_; subst eR; have HSR := Aside0.mk (Kd.R_mono (Kd.R_bound ho_) (ok' := fun k => wr.heap.size ≤ k) (fun k h => by have := h.2.1; have := HKW.out; omega)); have n0_ := Aside0.mk (below_step HB.out hb_); have m0_ := Aside0.mk (blk_below BK.out hb_); have m1_ := Aside0.mk (blk_below HCL.out hb_); have m2_ := Aside0.mk (Kd.R_below HO12.out hb_); have m3_ := Aside0.mk (Kd.R_below HSC.out hb_); clear HB BK HCL HO12 HSC; have HB := n0_; have BK := m0_; have HCL := m1_; have HO12 := m2_; have HSC := m3_; clear n0_ m0_ m1_ m2_ m3_; clear hb_ ho_)
            | ((with_reducible refine gate_builtin (b := .append) (xs := #[.tmp 155, .tmp 156]) rfl ?_); (try (refine gate_guard (by rfl) ?_; dsimp only)); at_builtin; refine Kd.R_append_rows k65 (Rr := k65.K wR) (w0 := w) w.heap.size rfl (.tmp 155) (.tmp 156) 42 65 (.agg #[(.int .i64 0), (.int .i64 0)]) 16 rfl Try.underlying42 info65 rfl (by decide) (by omega) u12 s12 sC _ _ _ (fun _ => True) (fun _ => False) rfl rfl (Kd.R_mono HO12.out (fun _ _ => trivial)) ?aR (fun x cs h => by rw [k65_open h]; exact k65_mkM _ _ _ x) (fun _ h => h.elim) (fun _ _ => trivial) HB.out HB.out.size ?aL ?_; (case aR => exact (Kd.R_reads' HSC.out).2.2); (case aL => have := HN12.out; have := HNC.out; omega); intro v157 wP ho_ hb_ hg_ hnew_; rw [← HSX.out] at ho_; obtain ⟨A157, c157, e157⟩ := Kd.R_slice ho_; subst e157; have m1_ := Aside0.mk (blk_grown HCL.out hg_ (Kd.R_ne HO12.out HCL.out (by decide))); have m2_ := Aside0.mk (Kd.R_grown HSR.out hg_ (fun k hk e_ => by have := HO12.out.1 k e_.symm; omega)); clear HCL HSR HO12 HB HSC; have HCL := m1_; have HSR := m2_; have HO12 := Aside0.mk ho_; have HB := Aside0.mk hb_; clear m1_ m2_ ho_ hb_ hg_ hnew_)
            | (go_at_call 33; (with_reducible refine (earshotref02_SameSegments.calls 4000 A157 c157 SA AR cR SA true _ (Kd.R_reads' HO12.out).2.2 (Kd.R_reads' HO12.out).2.1 (Kd.R_reads' HSR.out).2.2 (Kd.R_reads' HSR.out).2.1 HSAME.out).mono ?_); rintro e wU ⟨rfl, hd_⟩; have hb_ : Below wP.heap.size wP wU := (by obtain ⟨m_, hm_⟩ := hd_.out; subst hm_; exact pw_below_drewN (Below.refl _ _) _); clear hd_; have n0_ := Aside0.mk (below_step HB.out hb_); have m0_ := Aside0.mk (blk_below HCL.out hb_); clear HB HCL; have HB := n0_; have HCL := m0_; clear n0_ m0_; clear hb_)
            | (go_at_call 40; (with_reducible refine (at_closed g _ _ _ b _ rfl HCL.out).mono ?_); rintro e wT ⟨rfl, hd_⟩; have hb_ : Below wU.heap.size wU wT := (by obtain ⟨m_, hm_⟩ := hd_.out; subst hm_; exact pw_below_drewN (Below.refl _ _) _); clear hd_; have n0_ := Aside0.mk (below_step HB.out hb_); have m0_ := Aside0.mk (blk_below HCL.out hb_); clear HB HCL; have HB := n0_; have HCL := m0_; clear n0_ m0_; clear hb_)
            | (go_at_call 37; (with_reducible refine (feed_err g _ _ _ b A2 c2 ag _ (by omega) (Kd.C_below HR2.out HB.out) HVA.out HCL.out).mono ?_); rintro e wE ⟨rfl, hw_⟩; obtain rfl := hw_.symm; clear hw_)
            | (go_at_call 38; (with_reducible refine (close_closed g _ _ _ b w _ rfl HCL.out (Nat.le_of_lt GEb.out) HB.out).mono ?_); rintro e wD ⟨rfl, hb_⟩; clear HB HCL; have HB := Aside0.mk hb_; clear hb_)
            | (go_at_call 27; (with_reducible refine (earshotref02_All.calls 200 A2 c2 ag _ _ _ _ (Kd.C_below HR2.out HB.out) HC2.out HXA.out).mono ?_); rintro e wX ⟨rfl, hd_⟩; have hb_ : Below wD.heap.size wD wX := (by obtain ⟨m_, hm_⟩ := hd_.out; subst hm_; exact pw_below_drewN (Below.refl _ _) _); clear hd_; have n0_ := Aside0.mk (below_step HB.out hb_); clear HB; have HB := n0_; clear n0_ ; clear hb_)
            | (go_at_call 22; (with_reducible refine (earshotlaw02_known.calls 40 true _ known_40).mono ?_); rintro e wK ⟨rfl, hb_⟩; have HBK := Aside0.mk (below_step HB.out hb_); clear hb_))
            go_ret
            exact ⟨rfl, HBK.out⟩
end Go.Proofs.Ytigbfcodnbnicaa.P
