/- The law of listeners, walked: the ways on which it asks nothing of a good listener; for rows of at most 2^44 numbers. -/
import Derived.Test.YtigbfcodnbnicaaHShut
import Derived.Test.YtigbfcodnbnicaaQKnown
import Derived.Test.YtigbfcodnbnicaaQSegs
import Derived.Test.YtigbfcodnbnicaaQRows
set_option linter.unusedVariables false
set_option linter.unusedSimpArgs false
namespace Go.Proofs.Ytigbfcodnbnicaa.P
open Go.RowKit Go.Proofs.YtigbfcodnbnicaaW.PrintWords Go.Proofs.YtigbfcodnbnicaaW.PrintLast Go.Proofs.YtigbfcodnbnicaaW.PrintMore

theorem take_rd {ls : List (List Int)} {i : Nat} (h : i < ls.length) : ls.take (i + 1) = ls.take i ++ [rd_L1 ls (i : Int)] := by
  unfold rd_L1
  rw [List.take_add_one, Int.toNat_natCast, List.getD_eq_getElem?_getD, List.getElem?_eq_getElem h]
  rfl
set_option maxHeartbeats 8000000 in
set_option maxRecDepth 100000 in
theorem lis_bad (A0 : Option Addr) (c0 : Nat) (ls : List (List Int)) (g : Gt) (A2 : Option Addr) (c2 : Nat) (ag : List Int) (w : World) (hr0 : Kd.C (Kd.slice 3 (Kd.int .i64)) w A0 ls.length ls) (hr2 : Kd.C (Kd.int .i64) w A2 ag.length ag) (hc2 : ag.length ≤ c2) (hb : ∀ x ∈ ls, x.length ≤ 17592186044416) (hl : ls.length ≤ 9223372036854775807) (hbad : ¬ ∀ x ∈ ls, inR (-32768) 32767 x = true) :
    Calls Try.prog 11 #[.slice A0 ls.length c0, .agg #[.int .i64 g.block, .int .i64 g.high, .int .i64 g.low, .int .i64 g.rise, .int .i64 g.fall, .int .i64 g.lead, .int .i64 g.longest], .slice A2 ag.length c2] w fun e w' => e = .returned (.bool true) ∧ Below w.heap.size w w' := by
  have HBAD := Aside0.mk hbad
  clear hbad
  have HR0 := Aside0.mk hr0
  have HR2 := Aside0.mk hr2
  have HC2 := Aside0.mk hc2
  have HLB := Aside0.mk hb
  have hu41 := Try.underlying41
  have hu65 := Try.underlying65
  have hu71 := Try.underlying71
  clear hr0 hr2 hc2 hb
  go_enter Try.func11, Try.ntmps11
  go_wp2_with fail
  go_loopw [7, 8] (fun v7 v8 wr => ∃ (i : Nat) (n : Int), i ≤ ls.length ∧ v7 = .int .i64 n ∧ v8 = .int .i64 i ∧ Aside0 (ls.length ≤ 30 → n = ((cat ls i).length : Int)) ∧ Aside0 (∀ x ∈ ls.take i, inR (-32768) 32767 x = true) ∧ Aside0 (Below w.heap.size w wr) ∧ Aside0 (wr.heap[w.heap.size]? = some (.cells #[.int .i64 g.block, .int .i64 g.high, .int .i64 g.low, .int .i64 g.rise, .int .i64 g.fall, .int .i64 g.lead, .int .i64 g.longest] 41 (0, 0)))) (fun _ v8 _ => ls.length - (intOf v8).toNat)
  case atStart => exact ⟨0, 0, Nat.zero_le _, rfl, rfl, ⟨fun _ => rfl⟩, ⟨fun x hx => by simp at hx⟩, ⟨below_alloc (Below.refl _ _) _⟩, ⟨blk_new _ _⟩⟩
  case round =>
    obtain ⟨i, n, hi, rfl, rfl, HN, HG1, HB, BK⟩ := hrel
    by_cases hlt : i < ls.length
    · have hd : decide ((i : Int) < (ls.length : Int)) = true := decide_eq_true (by omega)
      obtain ⟨ad, Ae, ce, eA, hx, hle, hie⟩ := at_L1 (Kd.C_below HR0.out HB.out) (i : Int) (by omega) (by omega)
      have HM := Aside0.mk (rdL_mem hlt)
      have HCT := Aside0.mk (cat_succ hlt)
      have HTK : Aside0 (ls.take (i + 1) = ls.take i ++ [rd_L1 ls (i : Int)]) := ⟨take_rd hlt⟩
      generalize rd_L1 ls (i : Int) = x at hx hle hie HM HCT HTK
      rw [Int.toNat_natCast] at hx
      cases eA
      have HRe := Aside0.mk hie
      have HCe := Aside0.mk hle
      have hxl := HLB.out x HM.out
      obtain ⟨n2, hn2⟩ : ∃ n2, n2 = wrap64 (n + (x.length : Int)) := ⟨_, rfl⟩
      have HN2 : Aside0 (ls.length ≤ 30 → n2 = ((cat ls (i + 1)).length : Int)) := ⟨fun h => by
        have h1 := HN.out h
        have h2 := cat_le ls 17592186044416 HLB.out (i + 1) (by omega)
        rw [HCT.out, List.length_append] at h2 ⊢
        rw [hn2, h1, w64 (by omega) (by omega)]
        omega⟩
      have hp1 := eq_true (show 0 ≤ (i : Int) by omega)
      have hp2 := eq_true (show (i : Int) < (ls.length : Int) by omega)
      have hlt2 := hlt
      clear hie hle
      cases hgx : inR (-32768) 32767 x with
      | true =>
        have HGX := Aside0.mk hgx
        clear hgx
        have HX := Aside0.mk (show earshotref02_All.f (x.length + 1) x (-32768) 32767 = some true by rw [all_some _ _ _ (by omega) _ (by omega), HGX.out])
        go_wp2_with (go_at_call 27; (with_reducible refine (earshotref02_All.calls (x.length + 1) Ae ce x _ _ _ _ HRe.out HCe.out HX.out).mono ?_); rintro e wX ⟨rfl, hd_⟩; have hb_ : Below wr.heap.size wr wX := (by obtain ⟨m_, hm_⟩ := hd_.out; subst hm_; exact pw_below_drewN (Below.refl _ _) _); have n1_ := Aside0.mk (below_step HB.out hb_); have n2_ := Aside0.mk (blk_below BK.out hb_); clear hd_ hb_ HB BK; have HB := n1_; have BK := n2_; clear n1_ n2_)
        go_roundw
        case rel =>
          refine ⟨i + 1, n2, hlt, ?_, ?_, HN2, ⟨?_⟩, HB, BK⟩
          · rw [hn2]
          · go_num
          · intro y hy
            rw [HTK.out] at hy
            rcases List.mem_append.1 hy with h | h
            · exact HG1.out y h
            · rw [List.mem_singleton.1 h]; exact HGX.out
        case measure => simp [intOf]; omega
      | false =>
        have HGX := Aside0.mk hgx
        clear hgx
        have HX := Aside0.mk (show earshotref02_All.f (x.length + 1) x (-32768) 32767 = some false by rw [all_some _ _ _ (by omega) _ (by omega), HGX.out])
        go_wp2_with (first | (go_at_call 27; (with_reducible refine (earshotref02_All.calls (x.length + 1) Ae ce x _ _ _ _ HRe.out HCe.out HX.out).mono ?_); rintro e wX ⟨rfl, hd_⟩; have hb_ : Below wr.heap.size wr wX := (by obtain ⟨m_, hm_⟩ := hd_.out; subst hm_; exact pw_below_drewN (Below.refl _ _) _); have n1_ := Aside0.mk (below_step HB.out hb_); have n2_ := Aside0.mk (blk_below BK.out hb_); clear hd_ hb_ HB BK; have HB := n1_; have BK := n2_; clear n1_ n2_) | (go_at_call 22; (with_reducible refine (earshotlaw02_known.calls 40 true _ known_40).mono ?_); rintro e wK ⟨rfl, hb_⟩; have HBK := Aside0.mk (below_step HB.out hb_); clear hb_))
        go_ret
        exact ⟨rfl, HBK.out⟩
    · have hd : decide ((i : Int) < (ls.length : Int)) = false := decide_eq_false (by omega)
      obtain rfl : i = ls.length := by omega
      rw [List.take_length] at HG1
      exact absurd HG1.out HBAD.out
set_option maxHeartbeats 8000000 in
set_option maxRecDepth 100000 in
theorem lis_many (A0 : Option Addr) (c0 : Nat) (ls : List (List Int)) (g : Gt) (A2 : Option Addr) (c2 : Nat) (ag : List Int) (w : World) (hr0 : Kd.C (Kd.slice 3 (Kd.int .i64)) w A0 ls.length ls) (hr2 : Kd.C (Kd.int .i64) w A2 ag.length ag) (hc2 : ag.length ≤ c2) (hb : ∀ x ∈ ls, x.length ≤ 17592186044416) (hl : ls.length ≤ 9223372036854775807) (hgood : ∀ x ∈ ls, inR (-32768) 32767 x = true) (hmany : 2000 < (cat ls ls.length).length ∨ 30 < ls.length ∨ 100 < ag.length) :
    Calls Try.prog 11 #[.slice A0 ls.length c0, .agg #[.int .i64 g.block, .int .i64 g.high, .int .i64 g.low, .int .i64 g.rise, .int .i64 g.fall, .int .i64 g.lead, .int .i64 g.longest], .slice A2 ag.length c2] w fun e w' => e = .returned (.bool true) ∧ Below w.heap.size w w' := by
  have HGD := Aside0.mk hgood
  have HMN := Aside0.mk hmany
  clear hgood hmany
  have HR0 := Aside0.mk hr0
  have HR2 := Aside0.mk hr2
  have HC2 := Aside0.mk hc2
  have HLB := Aside0.mk hb
  have hu41 := Try.underlying41
  have hu65 := Try.underlying65
  have hu71 := Try.underlying71
  clear hr0 hr2 hc2 hb
  go_enter Try.func11, Try.ntmps11
  go_wp2_with fail
  go_loopw [7, 8] (fun v7 v8 wr => ∃ (i : Nat) (n : Int), i ≤ ls.length ∧ v7 = .int .i64 n ∧ v8 = .int .i64 i ∧ Aside0 (ls.length ≤ 30 → n = ((cat ls i).length : Int)) ∧ Aside0 (∀ x ∈ ls.take i, inR (-32768) 32767 x = true) ∧ Aside0 (Below w.heap.size w wr) ∧ Aside0 (wr.heap[w.heap.size]? = some (.cells #[.int .i64 g.block, .int .i64 g.high, .int .i64 g.low, .int .i64 g.rise, .int .i64 g.fall, .int .i64 g.lead, .int .i64 g.longest] 41 (0, 0)))) (fun _ v8 _ => ls.length - (intOf v8).toNat)
  case atStart => exact ⟨0, 0, Nat.zero_le _, rfl, rfl, ⟨fun _ => rfl⟩, ⟨fun x hx => by simp at hx⟩, ⟨below_alloc (Below.refl _ _) _⟩, ⟨blk_new _ _⟩⟩
  case round =>
    obtain ⟨i, n, hi, rfl, rfl, HN, HG1, HB, BK⟩ := hrel
    by_cases hlt : i < ls.length
    · have hd : decide ((i : Int) < (ls.length : Int)) = true := decide_eq_true (by omega)
      obtain ⟨ad, Ae, ce, eA, hx, hle, hie⟩ := at_L1 (Kd.C_below HR0.out HB.out) (i : Int) (by omega) (by omega)
      have HM := Aside0.mk (rdL_mem hlt)
      have HCT := Aside0.mk (cat_succ hlt)
      have HTK : Aside0 (ls.take (i + 1) = ls.take i ++ [rd_L1 ls (i : Int)]) := ⟨take_rd hlt⟩
      generalize rd_L1 ls (i : Int) = x at hx hle hie HM HCT HTK
      rw [Int.toNat_natCast] at hx
      cases eA
      have HRe := Aside0.mk hie
      have HCe := Aside0.mk hle
      have hxl := HLB.out x HM.out
      obtain ⟨n2, hn2⟩ : ∃ n2, n2 = wrap64 (n + (x.length : Int)) := ⟨_, rfl⟩
      have HN2 : Aside0 (ls.length ≤ 30 → n2 = ((cat ls (i + 1)).length : Int)) := ⟨fun h => by
        have h1 := HN.out h
        have h2 := cat_le ls 17592186044416 HLB.out (i + 1) (by omega)
        rw [HCT.out, List.length_append] at h2 ⊢
        rw [hn2, h1, w64 (by omega) (by omega)]
        omega⟩
      have hp1 := eq_true (show 0 ≤ (i : Int) by omega)
      have hp2 := eq_true (show (i : Int) < (ls.length : Int) by omega)
      have hlt2 := hlt
      clear hie hle
      have HX := Aside0.mk (show earshotref02_All.f (x.length + 1) x (-32768) 32767 = some true by rw [all_some _ _ _ (by omega) _ (by omega), HGD.out x HM.out])
      go_wp2_with (go_at_call 27; (with_reducible refine (earshotref02_All.calls (x.length + 1) Ae ce x _ _ _ _ HRe.out HCe.out HX.out).mono ?_); rintro e wX ⟨rfl, hd_⟩; have hb_ : Below wr.heap.size wr wX := (by obtain ⟨m_, hm_⟩ := hd_.out; subst hm_; exact pw_below_drewN (Below.refl _ _) _); have n1_ := Aside0.mk (below_step HB.out hb_); have n2_ := Aside0.mk (blk_below BK.out hb_); clear hd_ hb_ HB BK; have HB := n1_; have BK := n2_; clear n1_ n2_)
      go_roundw
      case rel =>
        refine ⟨i + 1, n2, hlt, ?_, ?_, HN2, ⟨?_⟩, HB, BK⟩
        · rw [hn2]
        · go_num
        · intro y hy
          rw [HTK.out] at hy
          rcases List.mem_append.1 hy with h | h
          · exact HG1.out y h
          · rw [List.mem_singleton.1 h]; exact HGD.out x HM.out
      case measure => simp [intOf]; omega
    · have hd : decide ((i : Int) < (ls.length : Int)) = false := decide_eq_false (by omega)
      obtain rfl : i = ls.length := by omega
      rw [List.take_length] at HG1
      have hn : (2000 < n ∨ 30 < ls.length ∨ 100 < ag.length) := by
        rcases HMN.out with h | h | h
        · rcases Nat.lt_or_ge 30 ls.length with h2 | h2
          · exact .inr (.inl h2)
          · exact .inl (by rw [HN.out h2]; omega)
        · exact .inr (.inl h)
        · exact .inr (.inr h)
      have HNN := Aside0.mk hn
      clear hn
      by_cases h1 : 2000 < n
      · go_wp2_with (go_at_call 22; (with_reducible refine (earshotlaw02_known.calls 40 true _ known_40).mono ?_); rintro e wK ⟨rfl, hb_⟩; have HBK := Aside0.mk (below_step HB.out hb_); clear hb_)
        go_ret
        exact ⟨rfl, HBK.out⟩
      · by_cases h2 : 30 < ls.length
        · go_wp2_with (go_at_call 22; (with_reducible refine (earshotlaw02_known.calls 40 true _ known_40).mono ?_); rintro e wK ⟨rfl, hb_⟩; have HBK := Aside0.mk (below_step HB.out hb_); clear hb_)
          go_ret
          exact ⟨rfl, HBK.out⟩
        · have h3 : 100 < ag.length := by
            have := HNN.out
            omega
          go_wp2_with (go_at_call 22; (with_reducible refine (earshotlaw02_known.calls 40 true _ known_40).mono ?_); rintro e wK ⟨rfl, hb_⟩; have HBK := Aside0.mk (below_step HB.out hb_); clear hb_)
          go_ret
          exact ⟨rfl, HBK.out⟩
set_option maxHeartbeats 8000000 in
set_option maxRecDepth 100000 in
theorem lis_gate (A0 : Option Addr) (c0 : Nat) (ls : List (List Int)) (g : Gt) (A2 : Option Addr) (c2 : Nat) (ag : List Int) (w : World) (hr0 : Kd.C (Kd.slice 3 (Kd.int .i64)) w A0 ls.length ls) (hr2 : Kd.C (Kd.int .i64) w A2 ag.length ag) (hc2 : ag.length ≤ c2) (hb : ∀ x ∈ ls, x.length ≤ 17592186044416) (hl : ls.length ≤ 9223372036854775807) (hgood : ∀ x ∈ ls, inR (-32768) 32767 x = true) (hfew : (cat ls ls.length).length ≤ 2000 ∧ ls.length ≤ 30 ∧ ag.length ≤ 100) (hgate : gateOK g = false) :
    Calls Try.prog 11 #[.slice A0 ls.length c0, .agg #[.int .i64 g.block, .int .i64 g.high, .int .i64 g.low, .int .i64 g.rise, .int .i64 g.fall, .int .i64 g.lead, .int .i64 g.longest], .slice A2 ag.length c2] w fun e w' => e = .returned (.bool true) ∧ Below w.heap.size w w' := by
  have HGD := Aside0.mk hgood
  have HGo := Aside0.mk hgate
  have HGT := Aside0.mk (show earshotref02_Gate.f g.block g.high g.low g.rise g.fall g.lead g.longest = some false by rw [Gate_eq]; exact congrArg some hgate)
  clear hgood hgate
  have HR0 := Aside0.mk hr0
  have HR2 := Aside0.mk hr2
  have HC2 := Aside0.mk hc2
  have HLB := Aside0.mk hb
  have hu41 := Try.underlying41
  have hu65 := Try.underlying65
  have hu71 := Try.underlying71
  clear hr0 hr2 hc2 hb
  go_enter Try.func11, Try.ntmps11
  go_wp2_with fail
  go_loopw [7, 8] (fun v7 v8 wr => ∃ (i : Nat) (n : Int), i ≤ ls.length ∧ v7 = .int .i64 n ∧ v8 = .int .i64 i ∧ Aside0 (ls.length ≤ 30 → n = ((cat ls i).length : Int)) ∧ Aside0 (∀ x ∈ ls.take i, inR (-32768) 32767 x = true) ∧ Aside0 (Below w.heap.size w wr) ∧ Aside0 (wr.heap[w.heap.size]? = some (.cells #[.int .i64 g.block, .int .i64 g.high, .int .i64 g.low, .int .i64 g.rise, .int .i64 g.fall, .int .i64 g.lead, .int .i64 g.longest] 41 (0, 0)))) (fun _ v8 _ => ls.length - (intOf v8).toNat)
  case atStart => exact ⟨0, 0, Nat.zero_le _, rfl, rfl, ⟨fun _ => rfl⟩, ⟨fun x hx => by simp at hx⟩, ⟨below_alloc (Below.refl _ _) _⟩, ⟨blk_new _ _⟩⟩
  case round =>
    obtain ⟨i, n, hi, rfl, rfl, HN, HG1, HB, BK⟩ := hrel
    by_cases hlt : i < ls.length
    · have hd : decide ((i : Int) < (ls.length : Int)) = true := decide_eq_true (by omega)
      obtain ⟨ad, Ae, ce, eA, hx, hle, hie⟩ := at_L1 (Kd.C_below HR0.out HB.out) (i : Int) (by omega) (by omega)
      have HM := Aside0.mk (rdL_mem hlt)
      have HCT := Aside0.mk (cat_succ hlt)
      have HTK : Aside0 (ls.take (i + 1) = ls.take i ++ [rd_L1 ls (i : Int)]) := ⟨take_rd hlt⟩
      generalize rd_L1 ls (i : Int) = x at hx hle hie HM HCT HTK
      rw [Int.toNat_natCast] at hx
      cases eA
      have HRe := Aside0.mk hie
      have HCe := Aside0.mk hle
      have hxl := HLB.out x HM.out
      obtain ⟨n2, hn2⟩ : ∃ n2, n2 = wrap64 (n + (x.length : Int)) := ⟨_, rfl⟩
      have HN2 : Aside0 (ls.length ≤ 30 → n2 = ((cat ls (i + 1)).length : Int)) := ⟨fun h => by
        have h1 := HN.out h
        have h2 := cat_le ls 17592186044416 HLB.out (i + 1) (by omega)
        rw [HCT.out, List.length_append] at h2 ⊢
        rw [hn2, h1, w64 (by omega) (by omega)]
        omega⟩
      have hp1 := eq_true (show 0 ≤ (i : Int) by omega)
      have hp2 := eq_true (show (i : Int) < (ls.length : Int) by omega)
      have hlt2 := hlt
      clear hie hle
      have HX := Aside0.mk (show earshotref02_All.f (x.length + 1) x (-32768) 32767 = some true by rw [all_some _ _ _ (by omega) _ (by omega), HGD.out x HM.out])
      go_wp2_with (go_at_call 27; (with_reducible refine (earshotref02_All.calls (x.length + 1) Ae ce x _ _ _ _ HRe.out HCe.out HX.out).mono ?_); rintro e wX ⟨rfl, hd_⟩; have hb_ : Below wr.heap.size wr wX := (by obtain ⟨m_, hm_⟩ := hd_.out; subst hm_; exact pw_below_drewN (Below.refl _ _) _); have n1_ := Aside0.mk (below_step HB.out hb_); have n2_ := Aside0.mk (blk_below BK.out hb_); clear hd_ hb_ HB BK; have HB := n1_; have BK := n2_; clear n1_ n2_)
      go_roundw
      case rel =>
        refine ⟨i + 1, n2, hlt, ?_, ?_, HN2, ⟨?_⟩, HB, BK⟩
        · rw [hn2]
        · go_num
        · intro y hy
          rw [HTK.out] at hy
          rcases List.mem_append.1 hy with h | h
          · exact HG1.out y h
          · rw [List.mem_singleton.1 h]; exact HGD.out x HM.out
      case measure => simp [intOf]; omega
    · have hd : decide ((i : Int) < (ls.length : Int)) = false := decide_eq_false (by omega)
      obtain rfl : i = ls.length := by omega
      rw [List.take_length] at HG1
      have hn : n = ((cat ls ls.length).length : Int) := HN.out hfew.2.1
      have h1 : n ≤ 2000 := by omega
      have h2 := hfew.2.1
      have h3 := hfew.2.2
      clear hn HN
      have hcw0 := (blk_cell BK.out 0).trans rfl; have hcw1 := (blk_cell BK.out 1).trans rfl; have hcw2 := (blk_cell BK.out 2).trans rfl; have hcw3 := (blk_cell BK.out 3).trans rfl; have hcw4 := (blk_cell BK.out 4).trans rfl; have hcw5 := (blk_cell BK.out 5).trans rfl; have hcw6 := (blk_cell BK.out 6).trans rfl
      go_wp2_with (first
        | (go_at_call 36; (with_reducible refine (listen_bad g _ HGo.out).mono ?_); rintro e wL ⟨rfl, hb_⟩; have n1_ := Aside0.mk (below_step HB.out hb_); have n2_ := Aside0.mk (blk_below BK.out hb_); clear hb_ HB BK; have HB := n1_; have BK := n2_; clear n1_ n2_; have hcv0 := (blk_cell BK.out 0).trans rfl; have hcv1 := (blk_cell BK.out 1).trans rfl; have hcv2 := (blk_cell BK.out 2).trans rfl; have hcv3 := (blk_cell BK.out 3).trans rfl; have hcv4 := (blk_cell BK.out 4).trans rfl; have hcv5 := (blk_cell BK.out 5).trans rfl; have hcv6 := (blk_cell BK.out 6).trans rfl)
        | (go_at_call 31; (with_reducible refine (earshotref02_Gate.calls _ _ _ _ _ _ _ _ _ HGT.out).mono ?_); rintro e wG ⟨rfl, hb_⟩; have n1_ := Aside0.mk (below_step HB.out hb_); clear hb_ HB; have HB := n1_; clear n1_)
        | (go_at_call 22; (with_reducible refine (earshotlaw02_known.calls 40 true _ known_40).mono ?_); rintro e wK ⟨rfl, hb_⟩; have HBK := Aside0.mk (below_step HB.out hb_); clear hb_))
      go_ret
      exact ⟨rfl, HBK.out⟩
end Go.Proofs.Ytigbfcodnbnicaa.P
