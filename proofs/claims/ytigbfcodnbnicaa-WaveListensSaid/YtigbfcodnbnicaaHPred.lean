/- slices.IndexFunc and slices.ContainsFunc with the three range tests of the package, samples, values, and slices.Clone of a list of ints: what each returns; the lists are read as given, and are shorter than stated. -/
import Derived.Test.YtigbfcodnbnicaaHDefs
import Derived.Lib.SliceRun
import Derived.Laws.AppendOwnNone
set_option linter.unusedVariables false
set_option linter.unusedSimpArgs false
namespace Go.Proofs.Ytigbfcodnbnicaa.P
open Go.RowKit Go.Proofs.YtigbfcodnbnicaaW.PrintWords Go.Proofs.YtigbfcodnbnicaaW.PrintLast Go.Proofs.YtigbfcodnbnicaaW.PrintMore

theorem any_inR (lo hi : Int) (l : List Int) : l.any (fun v => decide (v < lo) || decide (hi < v)) = !inR lo hi l := by
  unfold inR
  induction l with
  | nil => rfl
  | cons x t ih =>
    rw [List.any_cons, List.all_cons, ih, Bool.not_and]
    congr 1
    by_cases h1 : lo ≤ x <;> by_cases h2 : x ≤ hi <;> simp [h1, h2, Int.not_lt.mpr, Int.not_le.mp] <;> omega

/-- The place that IndexFunc found. -/
def Found (p : Int → Bool) (l : List Int) (w : World) (e : Ending) (w' : World) : Prop := ∃ r : Int, e = .returned (.int .i64 r) ∧ decide (0 ≤ r) = l.any p ∧ w = w'
theorem any_take_hit {p : Int → Bool} {l : List Int} {k : Nat} (hk : k < l.length) (h : p (rd l k) = true) : l.any p = true := by
  rw [List.any_eq_true]
  refine ⟨l[k], List.getElem_mem hk, ?_⟩
  have : rd l k = l[k] := by simp [rd, hk]
  rw [← this]; exact h
theorem any_take_all {p : Int → Bool} {l : List Int} (h : ∀ j : Nat, j < l.length → p (rd l j) = false) : l.any p = false := by
  rw [List.any_eq_false]
  intro x hx
  obtain ⟨j, hj, rfl⟩ := List.getElem_of_mem hx
  have := h j hj
  have e : rd l j = l[j] := by simp [rd, hj]
  rw [e] at this
  simp [this]

/-! ### the test of a sample -/
theorem test94 (v : Int) (w : World) : Calls Try.prog 94 #[.int .i64 v] w fun e w' => e = .returned (.bool (decide (v < (-32768)) || decide (32767 < v))) ∧ w = w' := by
  by_cases h1 : v < (-32768)
  · have b1 : decide (v < (-32768)) = true := decide_eq_true h1
    go_enter Try.func94, Try.ntmps94
    go_wp2
    go_ret
    exact ⟨by first | rfl | (simp; done) | (simp [b1]; done) | (simp; omega), rfl⟩
  · have b1 : decide (v < (-32768)) = false := decide_eq_false h1
    go_enter Try.func94, Try.ntmps94
    go_wp2
    go_ret
    exact ⟨by first | rfl | (simp; done) | (simp [b1]; done) | (simp; omega), rfl⟩
theorem idx94 (A0 : Option Addr) (c0 : Nat) (l0 : List Int) (w : World) (hr0 : Kd.C (Kd.int .i64) w A0 l0.length l0) (hn : l0.length ≤ 9223372036854775806) :
    Calls Try.prog 97 #[.slice A0 l0.length c0, .func (.func 94) #[] #[]] w (Found (fun v => decide (v < (-32768)) || decide (32767 < v)) l0 w) := by
  have HR0 := Aside0.mk hr0
  clear hr0
  go_enter Try.func97, Try.ntmps97
  go_wp2
  go_loop [8] (fun v8 => ∃ k : Nat, k ≤ l0.length ∧ v8 = .int .i64 k ∧ Aside0 (∀ j : Nat, j < k → (fun v => decide (v < (-32768)) || decide (32767 < v)) (rd l0 j) = false)) (fun v8 => l0.length - (intOf v8).toNat)
  case atStart => exact ⟨0, Nat.zero_le _, rfl, ⟨fun j hj => absurd hj (Nat.not_lt_zero _)⟩⟩
  case round =>
    obtain ⟨k, hk, rfl, HA⟩ := hrel
    by_cases hlt : k < l0.length
    · obtain ⟨ad, e, hx⟩ := Kd.at_int HR0.out k (by omega) (by omega)
      cases e
      rw [Int.toNat_natCast] at hx
      by_cases hp : (fun v => decide (v < (-32768)) || decide (32767 < v)) (rd l0 k) = true
      · have Hp := Aside0.mk hp
        have hq : (decide ((rd l0 ↑k) < (-32768)) || decide (32767 < (rd l0 ↑k))) = true := hp
        clear hp
        go_wp2_with (go_at_call 94; refine (test94 _ _).mono ?_; rintro e w' ⟨rfl, rfl⟩)
        go_ret
        exact ⟨k, rfl, by rw [any_take_hit hlt Hp.out]; simp, rfl⟩
      · have Hp := Aside0.mk (Bool.eq_false_iff.mpr hp)
        have hq : (decide ((rd l0 ↑k) < (-32768)) || decide (32767 < (rd l0 ↑k))) = false := Bool.eq_false_iff.mpr hp
        clear hp
        go_wp2_with (go_at_call 94; refine (test94 _ _).mono ?_; rintro e w' ⟨rfl, rfl⟩)
        go_round
        case rel => exact ⟨k + 1, by omega, by go_num, ⟨fun j hj => by
          rcases Nat.lt_or_ge j k with h | h
          · exact HA.out j h
          · obtain rfl : j = k := by omega
            exact Hp.out⟩⟩
        case measure => simp [intOf]; omega
    · go_wp2
      go_ret
      exact ⟨-1, rfl, by rw [any_take_all (fun j hj => HA.out j (by omega))]; rfl, rfl⟩
theorem has94 (A0 : Option Addr) (c0 : Nat) (l0 : List Int) (w : World) (hr0 : Kd.C (Kd.int .i64) w A0 l0.length l0) (hn : l0.length ≤ 9223372036854775806) (r : Bool) (hr : inR (-32768) 32767 l0 = r) :
    Calls Try.prog 80 #[.slice A0 l0.length c0, .func (.func 94) #[] #[]] w fun e w' => e = .returned (.bool (!r)) ∧ w = w' := by
  have HR0 := Aside0.mk hr0
  have Hr := Aside0.mk hr
  clear hr0 hr
  have hn1 := hn
  go_enter Try.func80, Try.ntmps80
  go_wp2_with (go_at_call 97; refine (idx94 _ _ _ _ HR0.out hn1).mono ?_; rintro e w' ⟨i, rfl, hi, rfl⟩; have Hi := Aside0.mk hi; clear hi)
  go_ret
  exact ⟨by rw [← Hr.out, ← any_inR, ← Hi.out]; rfl, rfl⟩

/-! ### the test of a value -/
theorem test96 (v : Int) (w : World) : Calls Try.prog 96 #[.int .i64 v] w fun e w' => e = .returned (.bool (decide (v < (-2147483647)) || decide (2147483647 < v))) ∧ w = w' := by
  by_cases h1 : v < (-2147483647)
  · have b1 : decide (v < (-2147483647)) = true := decide_eq_true h1
    go_enter Try.func96, Try.ntmps96
    go_wp2
    go_ret
    exact ⟨by first | rfl | (simp; done) | (simp [b1]; done) | (simp; omega), rfl⟩
  · have b1 : decide (v < (-2147483647)) = false := decide_eq_false h1
    go_enter Try.func96, Try.ntmps96
    go_wp2
    go_ret
    exact ⟨by first | rfl | (simp; done) | (simp [b1]; done) | (simp; omega), rfl⟩
theorem idx96 (A0 : Option Addr) (c0 : Nat) (l0 : List Int) (w : World) (hr0 : Kd.C (Kd.int .i64) w A0 l0.length l0) (hn : l0.length ≤ 9223372036854775806) :
    Calls Try.prog 97 #[.slice A0 l0.length c0, .func (.func 96) #[] #[]] w (Found (fun v => decide (v < (-2147483647)) || decide (2147483647 < v)) l0 w) := by
  have HR0 := Aside0.mk hr0
  clear hr0
  go_enter Try.func97, Try.ntmps97
  go_wp2
  go_loop [8] (fun v8 => ∃ k : Nat, k ≤ l0.length ∧ v8 = .int .i64 k ∧ Aside0 (∀ j : Nat, j < k → (fun v => decide (v < (-2147483647)) || decide (2147483647 < v)) (rd l0 j) = false)) (fun v8 => l0.length - (intOf v8).toNat)
  case atStart => exact ⟨0, Nat.zero_le _, rfl, ⟨fun j hj => absurd hj (Nat.not_lt_zero _)⟩⟩
  case round =>
    obtain ⟨k, hk, rfl, HA⟩ := hrel
    by_cases hlt : k < l0.length
    · obtain ⟨ad, e, hx⟩ := Kd.at_int HR0.out k (by omega) (by omega)
      cases e
      rw [Int.toNat_natCast] at hx
      by_cases hp : (fun v => decide (v < (-2147483647)) || decide (2147483647 < v)) (rd l0 k) = true
      · have Hp := Aside0.mk hp
        have hq : (decide ((rd l0 ↑k) < (-2147483647)) || decide (2147483647 < (rd l0 ↑k))) = true := hp
        clear hp
        go_wp2_with (go_at_call 96; refine (test96 _ _).mono ?_; rintro e w' ⟨rfl, rfl⟩)
        go_ret
        exact ⟨k, rfl, by rw [any_take_hit hlt Hp.out]; simp, rfl⟩
      · have Hp := Aside0.mk (Bool.eq_false_iff.mpr hp)
        have hq : (decide ((rd l0 ↑k) < (-2147483647)) || decide (2147483647 < (rd l0 ↑k))) = false := Bool.eq_false_iff.mpr hp
        clear hp
        go_wp2_with (go_at_call 96; refine (test96 _ _).mono ?_; rintro e w' ⟨rfl, rfl⟩)
        go_round
        case rel => exact ⟨k + 1, by omega, by go_num, ⟨fun j hj => by
          rcases Nat.lt_or_ge j k with h | h
          · exact HA.out j h
          · obtain rfl : j = k := by omega
            exact Hp.out⟩⟩
        case measure => simp [intOf]; omega
    · go_wp2
      go_ret
      exact ⟨-1, rfl, by rw [any_take_all (fun j hj => HA.out j (by omega))]; rfl, rfl⟩
theorem has96 (A0 : Option Addr) (c0 : Nat) (l0 : List Int) (w : World) (hr0 : Kd.C (Kd.int .i64) w A0 l0.length l0) (hn : l0.length ≤ 9223372036854775806) (r : Bool) (hr : inR (-2147483647) 2147483647 l0 = r) :
    Calls Try.prog 80 #[.slice A0 l0.length c0, .func (.func 96) #[] #[]] w fun e w' => e = .returned (.bool (!r)) ∧ w = w' := by
  have HR0 := Aside0.mk hr0
  have Hr := Aside0.mk hr
  clear hr0 hr
  have hn1 := hn
  go_enter Try.func80, Try.ntmps80
  go_wp2_with (go_at_call 97; refine (idx96 _ _ _ _ HR0.out hn1).mono ?_; rintro e w' ⟨i, rfl, hi, rfl⟩; have Hi := Aside0.mk hi; clear hi)
  go_ret
  exact ⟨by rw [← Hr.out, ← any_inR, ← Hi.out]; rfl, rfl⟩

/-! ### the test of an element of Energy's -/
theorem test81 (v : Int) (w : World) : Calls Try.prog 81 #[.int .i64 v] w fun e w' => e = .returned (.bool (decide (v < (-65536)) || decide (65535 < v))) ∧ w = w' := by
  by_cases h1 : v < (-65536)
  · have b1 : decide (v < (-65536)) = true := decide_eq_true h1
    go_enter Try.func81, Try.ntmps81
    go_wp2
    go_ret
    exact ⟨by first | rfl | (simp; done) | (simp [b1]; done) | (simp; omega), rfl⟩
  · have b1 : decide (v < (-65536)) = false := decide_eq_false h1
    go_enter Try.func81, Try.ntmps81
    go_wp2
    go_ret
    exact ⟨by first | rfl | (simp; done) | (simp [b1]; done) | (simp; omega), rfl⟩
theorem idx81 (A0 : Option Addr) (c0 : Nat) (l0 : List Int) (w : World) (hr0 : Kd.C (Kd.int .i64) w A0 l0.length l0) (hn : l0.length ≤ 9223372036854775806) :
    Calls Try.prog 97 #[.slice A0 l0.length c0, .func (.func 81) #[] #[]] w (Found (fun v => decide (v < (-65536)) || decide (65535 < v)) l0 w) := by
  have HR0 := Aside0.mk hr0
  clear hr0
  go_enter Try.func97, Try.ntmps97
  go_wp2
  go_loop [8] (fun v8 => ∃ k : Nat, k ≤ l0.length ∧ v8 = .int .i64 k ∧ Aside0 (∀ j : Nat, j < k → (fun v => decide (v < (-65536)) || decide (65535 < v)) (rd l0 j) = false)) (fun v8 => l0.length - (intOf v8).toNat)
  case atStart => exact ⟨0, Nat.zero_le _, rfl, ⟨fun j hj => absurd hj (Nat.not_lt_zero _)⟩⟩
  case round =>
    obtain ⟨k, hk, rfl, HA⟩ := hrel
    by_cases hlt : k < l0.length
    · obtain ⟨ad, e, hx⟩ := Kd.at_int HR0.out k (by omega) (by omega)
      cases e
      rw [Int.toNat_natCast] at hx
      by_cases hp : (fun v => decide (v < (-65536)) || decide (65535 < v)) (rd l0 k) = true
      · have Hp := Aside0.mk hp
        have hq : (decide ((rd l0 ↑k) < (-65536)) || decide (65535 < (rd l0 ↑k))) = true := hp
        clear hp
        go_wp2_with (go_at_call 81; refine (test81 _ _).mono ?_; rintro e w' ⟨rfl, rfl⟩)
        go_ret
        exact ⟨k, rfl, by rw [any_take_hit hlt Hp.out]; simp, rfl⟩
      · have Hp := Aside0.mk (Bool.eq_false_iff.mpr hp)
        have hq : (decide ((rd l0 ↑k) < (-65536)) || decide (65535 < (rd l0 ↑k))) = false := Bool.eq_false_iff.mpr hp
        clear hp
        go_wp2_with (go_at_call 81; refine (test81 _ _).mono ?_; rintro e w' ⟨rfl, rfl⟩)
        go_round
        case rel => exact ⟨k + 1, by omega, by go_num, ⟨fun j hj => by
          rcases Nat.lt_or_ge j k with h | h
          · exact HA.out j h
          · obtain rfl : j = k := by omega
            exact Hp.out⟩⟩
        case measure => simp [intOf]; omega
    · go_wp2
      go_ret
      exact ⟨-1, rfl, by rw [any_take_all (fun j hj => HA.out j (by omega))]; rfl, rfl⟩
theorem has81 (A0 : Option Addr) (c0 : Nat) (l0 : List Int) (w : World) (hr0 : Kd.C (Kd.int .i64) w A0 l0.length l0) (hn : l0.length ≤ 9223372036854775806) (r : Bool) (hr : inR (-65536) 65535 l0 = r) :
    Calls Try.prog 80 #[.slice A0 l0.length c0, .func (.func 81) #[] #[]] w fun e w' => e = .returned (.bool (!r)) ∧ w = w' := by
  have HR0 := Aside0.mk hr0
  have Hr := Aside0.mk hr
  clear hr0 hr
  have hn1 := hn
  go_enter Try.func80, Try.ntmps80
  go_wp2_with (go_at_call 97; refine (idx81 _ _ _ _ HR0.out hn1).mono ?_; rintro e w' ⟨i, rfl, hi, rfl⟩; have Hi := Aside0.mk hi; clear hi)
  go_ret
  exact ⟨by rw [← Hr.out, ← any_inR, ← Hi.out]; rfl, rfl⟩

/-! ### samples, values -/
theorem wave_samples.calls (A0 : Option Addr) (c0 : Nat) (l0 : List Int) (r : Bool) (w : World) (hr0 : Kd.C (Kd.int .i64) w A0 l0.length l0) (hc0 : l0.length ≤ c0) (h : wave_samples.f l0 = some r) :
    Calls Try.prog 76 #[.slice A0 l0.length c0] w fun e w' => e = .returned (.bool r) ∧ Drawn0 w w' := by
  unfold wave_samples.f at h
  by_cases hl : l0.length ≤ 200000
  · rw [if_pos hl] at h
    have HR0 := Aside0.mk hr0
    have Hr := Aside0.mk (Option.some.inj h)
    clear hr0 h hc0
    go_enter Try.func76, Try.ntmps76
    go_wp2_with (go_at_call 80; refine (has94 _ _ _ _ HR0.out (by omega) r Hr.out).mono ?_; rintro e w' ⟨rfl, rfl⟩)
    go_ret
    exact ⟨by simp, Drawn0.refl _⟩
  · rw [if_neg hl] at h
    exact absurd h (by simp)
theorem wave_values.calls (A0 : Option Addr) (c0 : Nat) (l0 : List Int) (r : Int) (w : World) (hr0 : Kd.C (Kd.int .i64) w A0 l0.length l0) (hc0 : l0.length ≤ c0) (h : wave_values.f l0 = some r) :
    Calls Try.prog 79 #[.slice A0 l0.length c0] w fun e w' => e = .returned (.int .i64 r) ∧ Drawn0 w w' := by
  unfold wave_values.f at h
  have HR0 := Aside0.mk hr0
  clear hr0 hc0
  by_cases hl : l0.length > 200000
  · rw [if_pos hl] at h
    obtain rfl := Option.some.inj h
    have b1 : decide ((200000 : Int) < (l0.length : Int)) = true := decide_eq_true (by omega)
    clear hl h
    go_enter Try.func79, Try.ntmps79
    go_wp2
    go_ret
    exact ⟨rfl, Drawn0.refl _⟩
  · rw [if_neg hl] at h
    have b1 : decide ((200000 : Int) < (l0.length : Int)) = false := decide_eq_false (by omega)
    by_cases hv : inR (-2147483647) 2147483647 l0 = true
    · rw [if_pos hv] at h
      obtain rfl := Option.some.inj h
      have Hv := Aside0.mk hv
      clear hv h
      go_enter Try.func79, Try.ntmps79
      go_wp2_with (go_at_call 80; refine (has96 _ _ _ _ HR0.out (by omega) true Hv.out).mono ?_; rintro e w' ⟨rfl, rfl⟩)
      go_ret
      exact ⟨rfl, Drawn0.refl _⟩
    · rw [if_neg hv] at h
      obtain rfl := Option.some.inj h
      have Hv := Aside0.mk (Bool.eq_false_iff.mpr hv)
      clear hv h
      go_enter Try.func79, Try.ntmps79
      go_wp2_with (go_at_call 80; refine (has96 _ _ _ _ HR0.out (by omega) false Hv.out).mono ?_; rintro e w' ⟨rfl, rfl⟩)
      go_ret
      exact ⟨rfl, Drawn0.refl _⟩

/-! ### Clone -/
set_option maxHeartbeats 8000000 in
set_option maxRecDepth 100000 in
theorem slices_Clone_int_int.calls (A0 : Option Addr) (c0 : Nat) (l0 : List Int) (r : List Int) (w : World) (hr0 : Kd.C (Kd.int .i64) w A0 l0.length l0) (hc0 : l0.length ≤ c0) (h : slices_Clone_int_int.f l0 = some r) :
    Calls Try.prog 83 #[.slice A0 l0.length c0] w fun e w' => ∃ v0_ : Value, e = .returned (v0_) ∧ Kd.R (Kd.int .i64) 3 w' w.heap.size (fun _ => True) v0_ r ∧ Below w.heap.size w w' := by
  unfold slices_Clone_int_int.f at h
  by_cases hl : l0.length ≤ 17592186044000
  · rw [if_pos hl] at h
    have HR0 := Aside0.mk hr0
    clear hr0 hc0
    have qT : ∀ (w : World) (a : Option Addr) (n c n' c' : Nat), (binOp .eql 22 (.slice a n c) (.slice none n' c')).run Try.prog w = .ok (.bool a.isNone) w := fun w a n c n' c' => Lib.run_eql_slice_nil w _ _ a n c n' c' Try.underlying22
    cases A0 with
    | none =>
      have hz : l0 = [] := by
        cases l0 with
        | nil => rfl
        | cons x t =>
          obtain ⟨ad, e, _⟩ := HR0.out.2.2 (by simp)
          exact absurd e (by simp)
      subst hz
      obtain rfl := Option.some.inj h
      clear h
      go_enter Try.func83, Try.ntmps83
      go_wp2
      go_ret
      exact ⟨_, rfl, Kd.R_nil _ _ _ _ _, Below.refl _ _⟩
    | some ad =>
      have Hr := Aside0.mk (Option.some.inj h)
      clear h
      have hu22 := Try.underlying22
      have HB := Aside0.mk (Below.refl w.heap.size w)
      go_enter Try.func83, Try.ntmps83
      go_wp2_with (first | ((with_reducible refine gate_dst (N := 5) rfl ?_); refine Kd.R_lit (Kd.int .i64) (w0 := w) w.heap.size 3 ?hg (N := 5) ?hd (xs := ([] : List Int)) (inner := []) (ok := fun _ => True) (okp := fun _ => True) ?hr ?hp (fun _ hk => hk) trivial HB.out (Nat.le_refl _) (by simp) ?_; (case hd => rfl); (case hg => rfl); (case hr => first | (go_simp; done) | (go_simp; rfl)); (case hp => exact Reps.none _ _); intro v5 w5 ho5 hb5 hg_ hnew_; have HX5 := Aside0.mk hg_; clear hg_ hnew_; have HO5 := Aside0.mk ho5; have HB5 := Aside0.mk hb5; clear ho5 hb5) | ((with_reducible refine gate_builtin (b := .append) (xs := #[.tmp 5, .tmp 6]) rfl ?_); at_builtin; refine Kd.R_append_rows (Kd.int .i64) (w0 := w) w.heap.size rfl (.tmp 5) (.tmp 6) 22 3 (.int .i64 0) 8 rfl Try.underlying22 info3 rfl (by decide) (by omega) v5 ([] : List Int) l0 _ _ _ (fun _ => True) (fun _ => False) rfl rfl HO5.out ?aR (fun _ _ h => h) (fun _ h => h.elim) (fun _ _ => trivial) HB5.out (by have := HB5.out.size; omega) ?aL ?_; (case aR => exact Kd.C_below HR0.out ((Below.refl _ _).grown HX5.out (Nat.le_refl _) (fun k e => by cases e))); (case aL => simp; omega); intro v7 w7 ho7 hb7 hg_ hnew_; clear hg_ hnew_; have HO7 := Aside0.mk ho7; have HB7 := Aside0.mk hb7; clear ho7 hb7))
      go_ret
      exact ⟨_, rfl, by rw [← Hr.out]; exact HO7.out, HB7.out⟩
  · rw [if_neg hl] at h
    exact absurd h (by simp)
end Go.Proofs.Ytigbfcodnbnicaa.P
