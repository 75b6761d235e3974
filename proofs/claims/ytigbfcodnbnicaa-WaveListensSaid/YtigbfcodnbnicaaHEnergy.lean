/- energy and Energy: the sum of the squares of a list whose elements are samples, or the error; the list is read as given. -/
import Derived.Test.YtigbfcodnbnicaaHPred
import Derived.Test.YtigbfcodnbnicaaXLeaf
set_option linter.unusedVariables false
set_option linter.unusedSimpArgs false
namespace Go.Proofs.Ytigbfcodnbnicaa.P
open Go.RowKit Go.Proofs.YtigbfcodnbnicaaW.PrintWords Go.Proofs.YtigbfcodnbnicaaW.PrintLast Go.Proofs.YtigbfcodnbnicaaW.PrintMore

theorem inR_mem {lo hi : Int} {l : List Int} (h : inR lo hi l = true) : ∀ v ∈ l, lo ≤ v ∧ v ≤ hi := by
  intro v hv
  unfold inR at h
  rw [List.all_eq_true] at h
  have := h v hv
  simpa using this
theorem rd_mem {l : List Int} {i : Nat} (h : i < l.length) : rd l i ∈ l := by
  have : rd l i = l[i] := by simp [rd, h]
  rw [this]; exact List.getElem_mem h
theorem rd_get {l : List Int} {i : Nat} (h : i < l.length) : rd l i = l[i] := by simp [rd, h]
theorem w64 {x : Int} (h0 : -9223372036854775808 ≤ x) (h1 : x ≤ 9223372036854775807) : wrap64 x = x := by unfold wrap64; omega
theorem sumsq_cons (x : Int) (t : List Int) : sumsq (x :: t) = x * x + sumsq t := by simp [sumsq]
theorem sumsq_bd {l : List Int} (h : ∀ v ∈ l, -65536 ≤ v ∧ v ≤ 65535) : 0 ≤ sumsq l ∧ sumsq l ≤ 4294967296 * l.length := by
  induction l with
  | nil => simp [sumsq]
  | cons x t ih =>
    have h1 := ih (fun v hv => h v (List.mem_cons_of_mem _ hv))
    have h2 := h x List.mem_cons_self
    have h3 : 0 ≤ x * x ∧ x * x ≤ 4294967296 := by
      constructor
      · rcases Int.le_total 0 x with h | h
        · exact Int.mul_nonneg h h
        · exact Int.mul_nonneg_of_nonpos_of_nonpos h h
      · have e : x * x = (x.natAbs * x.natAbs : Nat) := by rw [Int.natCast_mul, ← Int.natAbs_mul_self' x]
        have hx : x.natAbs ≤ 65536 := by omega
        have := Nat.mul_le_mul hx hx
        omega
    rw [sumsq_cons]
    simp only [List.length_cons]
    omega
theorem energy_l0 (l : List Int) (hl : l.length ≤ 200000) (hb : ∀ v ∈ l, -65536 ≤ v ∧ v ≤ 65535) : ∀ (d k i : Nat) (s : Int), i + d = l.length → d < k → 0 ≤ s → s ≤ 4294967296 * i →
    wave_energy.l0 k s l l.length i = some (s + sumsq (l.drop i)) := by
  intro d
  induction d with
  | zero =>
    intro k i s h1 h2 h3 h4
    obtain ⟨k, rfl⟩ : ∃ m, k = m + 1 := ⟨k - 1, by omega⟩
    simp only [wave_energy.l0]
    rw [if_neg (by omega), List.drop_eq_nil_of_le (by omega)]
    simp [sumsq]
  | succ d ih =>
    intro k i s h1 h2 h3 h4
    obtain ⟨k, rfl⟩ : ∃ m, k = m + 1 := ⟨k - 1, by omega⟩
    have hi : i < l.length := by omega
    have hm := hb _ (rd_mem hi)
    have hq : 0 ≤ rd l i * rd l i ∧ rd l i * rd l i ≤ 4294967296 := by
      have := sumsq_bd (l := [rd l i]) (fun v hv => by obtain rfl := List.mem_singleton.mp hv; exact hm)
      simp [sumsq] at this
      exact this
    simp only [wave_energy.l0]
    rw [if_pos (by omega), if_pos (by omega), if_pos (by omega), w64 (x := rd l ↑i * rd l ↑i) (by omega) (by omega), w64 (by omega) (by omega), w64 (by omega) (by omega)]
    have e1 : ((i : Int) + 1) = ((i + 1 : Nat) : Int) := by omega
    rw [e1, ih k (i + 1) _ (by omega) (by omega) (by omega) (by push_cast; omega)]
    rw [List.drop_eq_getElem_cons hi, sumsq_cons, ← rd_get hi]
    congr 1; omega
theorem energy_some (l : List Int) (hl : l.length ≤ 200000) (hb : ∀ v ∈ l, -65536 ≤ v ∧ v ≤ 65535) : wave_energy.f (l.length + 1) l = some (sumsq l) := by
  unfold wave_energy.f
  have := energy_l0 l hl hb l.length (l.length + 1) 0 0 (by omega) (by omega) (by omega) (by omega)
  simpa using this
theorem wave_Energy.calls (A0 : Option Addr) (c0 : Nat) (l0 : List Int) (r1 : Int) (r2 : Int) (w : World) (hr0 : Kd.C (Kd.int .i64) w A0 l0.length l0) (hc0 : l0.length ≤ c0) (h : wave_Energy.f l0 = some (r1, r2)) :
    Calls Try.prog 44 #[.slice A0 l0.length c0] w fun e w' => e = .returned (.tuple #[.int .i64 r1, .int .i64 r2]) ∧ Drawn0 w w' := by
  unfold wave_Energy.f at h
  have HR0 := Aside0.mk hr0
  have HC0 := Aside0.mk hc0
  clear hr0 hc0
  by_cases hl : l0.length > 200000
  · rw [if_pos hl] at h
    obtain ⟨rfl, rfl⟩ := Prod.mk.inj (Option.some.inj h)
    have b1 : decide ((200000 : Int) < (l0.length : Int)) = true := decide_eq_true (by omega)
    clear hl h
    go_enter Try.func44, Try.ntmps44
    go_wp2
    go_ret2
    exact ⟨rfl, Drawn0.refl _⟩
  · rw [if_neg hl] at h
    have b1 : decide ((200000 : Int) < (l0.length : Int)) = false := decide_eq_false (by omega)
    by_cases hv : inR (-65536) 65535 l0 = true
    · rw [if_pos hv] at h
      obtain ⟨rfl, rfl⟩ := Prod.mk.inj (Option.some.inj h)
      have Hv := Aside0.mk hv
      clear hv h
      have HE := Aside0.mk (energy_some l0 (by omega) (inR_mem Hv.out))
      go_enter Try.func44, Try.ntmps44
      go_wp2_with (first | (go_at_call 80; refine (has81 _ _ _ _ HR0.out (by omega) true Hv.out).mono ?_; rintro e w' ⟨rfl, rfl⟩) | (go_at_call 82; refine (wave_energy.calls _ _ _ l0 _ _ HR0.out HC0.out HE.out).mono ?_; rintro e w' ⟨rfl, ⟨nd, rfl⟩⟩))
      go_ret2
      exact ⟨rfl, Drawn0.step (Drawn0.refl _) _⟩
    · rw [if_neg hv] at h
      obtain ⟨rfl, rfl⟩ := Prod.mk.inj (Option.some.inj h)
      have Hv := Aside0.mk (Bool.eq_false_iff.mpr hv)
      clear hv h
      go_enter Try.func44, Try.ntmps44
      go_wp2_with (go_at_call 80; refine (has81 _ _ _ _ HR0.out (by omega) false Hv.out).mono ?_; rintro e w' ⟨rfl, rfl⟩)
      go_ret2
      exact ⟨rfl, Drawn0.refl _⟩
end Go.Proofs.Ytigbfcodnbnicaa.P
