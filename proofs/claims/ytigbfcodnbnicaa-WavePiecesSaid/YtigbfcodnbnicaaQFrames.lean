/- The reference's frames over plain numbers: they are the program's; lists of at most 2^62 elements. -/
import Derived.Test.YtigbfcodnbnicaaQVals
import Derived.Test.YtigbfcodnbnicaaHFrB
import Derived.Test.YtigbfcodnbnicaaXF53
import Derived.Test.YtigbfcodnbnicaaXF54
set_option linter.unusedVariables false
set_option linter.unusedSimpArgs false
namespace Go.Proofs.Ytigbfcodnbnicaa.P
open Go.RowKit Go.Proofs.YtigbfcodnbnicaaW.PrintWords Go.Proofs.YtigbfcodnbnicaaW.PrintLast Go.Proofs.YtigbfcodnbnicaaW.PrintMore

theorem frameAt_length (l : List Int) (sz st t : Nat) : (frameAt l sz st t).length = sz := by simp [frameAt]
theorem frameAt_get (l : List Int) (sz st t i : Nat) (h : i < sz) : (frameAt l sz st t).getD i 0 = l.getD (t * st + i) 0 := by
  unfold frameAt
  rw [List.getD_eq_getElem?_getD, List.getElem?_map, List.getElem?_range h]
  rfl
theorem cnt_l0 {l : List Int} {sz st N : Nat} {pad : Bool} (hlt : FrLt l.length sz st pad N) (hl : l.length ≤ 200000) (hsz0 : 1 ≤ sz) (hsz : sz ≤ 4096) (hst : st ≤ 4096) (hNb : N ≤ 4000000) (K : Nat) (res : Option (List (List Int) × Int)) (hj : ∀ k, K < k → earshotref02_Frames.j2 k l sz st N = res) :
    ∀ (d c k : Nat), c + d = N → d + K + 1 < k → earshotref02_Frames.l0 k l sz st pad c ((c * st : Nat) : Int) = res := by
  intro d
  induction d with
  | zero =>
    intro c k h1 h2
    obtain ⟨k, rfl, h3⟩ := succ_of h2
    have h := hlt c
    obtain ⟨f, hf⟩ : ∃ f, f = c * st := ⟨_, rfl⟩
    rw [← hf] at h ⊢
    have hn : ¬ c < N := by omega
    have hn2 := fun e => hn (h.2 e)
    obtain rfl : c = N := by omega
    rw [earshotref02_Frames.l0]
    by_cases c1 : (f : Int) < (l.length : Int)
    · rw [if_pos c1, if_neg (fun e => hn2 (.inr ⟨e, by omega⟩)), w64 (by omega) (by omega), if_neg (fun e => hn2 (.inl (by omega)))]
      exact hj k (by omega)
    · rw [if_neg c1]
      exact hj k (by omega)
  | succ d ih =>
    intro c k h1 h2
    obtain ⟨k, rfl, h3⟩ := succ_of h2
    have h := (hlt c).1 (by omega)
    have hih := ih (c + 1) k (by omega) (by omega)
    rw [Nat.succ_mul] at hih
    obtain ⟨f, hf⟩ : ∃ f, f = c * st := ⟨_, rfl⟩
    rw [← hf] at h hih ⊢
    have c1 : (f : Int) < (l.length : Int) := by
      rcases h with h | h
      · omega
      · have := h.2
        omega
    rw [earshotref02_Frames.l0, if_pos c1, w64 (x := (c : Int) + 1) (by omega) (by omega), w64 (x := (f : Int) + (st : Int)) (by omega) (by omega), show (c : Int) + 1 = ((c + 1 : Nat) : Int) by omega, show (f : Int) + (st : Int) = ((f + st : Nat) : Int) by omega, hih]
    by_cases c2 : pad = true
    · rw [if_pos c2]
    · rw [if_neg c2, w64 (by omega) (by omega), if_pos (by
        rcases h with h | h
        · omega
        · exact absurd h.1 c2)]
theorem frame_l2 {l : List Int} {sz st N : Nat} (hl : l.length ≤ 200000) (hsz : sz ≤ 4096) (fs : List (List Int)) (hfs : fs.length ≤ 4000000) (t : Nat) (ht : t ≤ 4000000) (hf : t * st ≤ 200000) (K : Nat) (res : Option (List (List Int) × Int))
    (hcont : ∀ k, K < k → earshotref02_Frames.l1 k l sz st N (fs ++ [frameAt l sz st t]) ((t + 1 : Nat) : Int) = res) :
    ∀ (d i k : Nat), i + d = sz → d + K + 1 < k → earshotref02_Frames.l2 k l sz st N fs t (mixT (frameAt l sz st t) (List.replicate sz 0) i) i = res := by
  have hE : (frameAt l sz st t).length = (List.replicate sz (0 : Int)).length := by rw [frameAt_length, List.length_replicate]
  intro d
  induction d with
  | zero =>
    intro i k h1 h2
    obtain ⟨k, rfl, h3⟩ := succ_of h2
    rw [earshotref02_Frames.l2, if_neg (by omega), if_pos (by omega), wnx (by omega), mix_end hE (by rw [List.length_replicate]; omega)]
    exact hcont k (by omega)
  | succ d ih =>
    intro i k h1 h2
    obtain ⟨k, rfl, h3⟩ := succ_of h2
    have hih := ih (i + 1) k (by omega) (by omega)
    have hfe : ((t : Int) * (st : Int)) = ((t * st : Nat) : Int) := by rw [Int.natCast_mul]
    have hg := frameAt_get l sz st t i (by omega)
    have hms := mix_set hE (i := i) (by rw [List.length_replicate]; omega)
    have hma := mix_at hE (i := i) (by rw [List.length_replicate]; omega)
    have hml := mix_length hE i
    rw [List.length_replicate] at hml
    obtain ⟨f, hf2⟩ : ∃ f, f = t * st := ⟨_, rfl⟩
    rw [← hf2] at hf hfe hg
    rw [earshotref02_Frames.l2, if_pos (by omega), hfe, w64 (x := (f : Int)) (by omega) (by omega), w64 (x := (f : Int) + (i : Int)) (by omega) (by omega), wnx (by omega)]
    by_cases c1 : (f : Int) + (i : Int) < (l.length : Int)
    · rw [if_pos c1, if_pos (by omega), if_pos (by omega), if_pos (by rw [hml]; omega), show (f : Int) + (i : Int) = ((f + i : Nat) : Int) by omega, rd_getD, Int.toNat_natCast, ← hg, hms]
      exact hih
    · have hz : l.getD (f + i) 0 = 0 := by
        rw [List.getD_eq_getElem?_getD, List.getElem?_eq_none (by omega)]
        rfl
      have e : mixT (frameAt l sz st t) (List.replicate sz 0) i = mixT (frameAt l sz st t) (List.replicate sz 0) (i + 1) := by
        rw [← hms, hg, hz]
        have hi : i < (mixT (frameAt l sz st t) (List.replicate sz 0) i).length := by rw [hml]; omega
        have hr : (List.replicate sz (0 : Int)).getD i 0 = 0 := by simp [List.getD, List.getElem?_replicate]; split <;> rfl
        rw [hr, List.getD_eq_getElem?_getD, List.getElem?_eq_getElem hi, Option.getD_some] at hma
        have hs := List.set_getElem_self hi
        rw [hma] at hs
        exact hs.symm
      rw [if_neg c1, e]
      exact hih
theorem frames_l1 {l : List Int} {sz st N : Nat} {pad : Bool} (hlt : FrLt l.length sz st pad N) (hl : l.length ≤ 200000) (hsz : sz ≤ 4096) (hN : N ≤ 4000000) :
    ∀ (d t k : Nat), t + d = N → (d + 1) * (sz + 3) < k → earshotref02_Frames.l1 k l sz st N (framesTo l sz st t) t = some (framesTo l sz st N, 0) := by
  intro d
  induction d with
  | zero =>
    intro t k h1 h2
    obtain ⟨k, rfl, h3⟩ := succ_of h2
    obtain rfl : t = N := by omega
    rw [earshotref02_Frames.l1, if_neg (by omega)]
  | succ d ih =>
    intro t k h1 h2
    obtain ⟨k, rfl, h3⟩ := succ_of h2
    have h := (hlt t).1 (by omega)
    have hf : t * st ≤ 200000 := by
      rcases h with h | h
      · omega
      · omega
    rw [show (d + 1 + 1) * (sz + 3) = (d + 1) * (sz + 3) + (sz + 3) by rw [Nat.succ_mul]] at h3
    rw [earshotref02_Frames.l1, if_pos (by omega), if_pos (by omega), if_pos (by omega), Int.toNat_natCast]
    have hz : List.replicate sz (0 : Int) = mixT (frameAt l sz st t) (List.replicate sz 0) 0 := by simp [mixT]
    rw [hz]
    refine frame_l2 hl hsz (framesTo l sz st t) (by rw [framesTo_length]; omega) t (by omega) hf ((d + 1) * (sz + 3)) _ ?_ sz 0 k (by omega) (by omega)
    intro k' hk'
    rw [← framesTo_succ]
    exact ih (t + 1) k' (by omega) hk'
theorem RefFrames_eq (l : List Int) (hl : l.length ≤ 4611686018427387904) (a1 a2 : Int) (a3 : Bool) (k : Nat) (hk : l.length < k) (hk2 : 900000000 < k) : earshotref02_Frames.f k l a1 a2 a3 = wave_Frames.f l a1 a2 a3 := by
  unfold earshotref02_Frames.f wave_Frames.f
  by_cases h1 : (l.length : Int) > 200000
  · have e : valErr l = 5 := by unfold valErr; rw [if_pos (by omega)]
    rw [if_pos h1, e]
    rfl
  obtain ⟨k, rfl⟩ : ∃ m, k = m + 1 := ⟨k - 1, by omega⟩
  have j0t : ∀ q, q = true → earshotref02_Frames.j0 (k + 1) l a1 a2 a3 q = some ([], 2) := fun q hq => by rw [earshotref02_Frames.j0, if_pos hq]
  rw [if_neg h1, Values_eq l hl _ hk, Option.bind_some]
  by_cases hv : inR (-2147483647) 2147483647 l = true
  · have e : valErr l = 0 := by unfold valErr; rw [if_neg (by omega), if_pos hv]
    rw [if_pos hv, e, if_neg (show ¬ (0 : Int) ≠ 0 by decide)]
    by_cases c : a1 < 1 ∨ a1 > 4096 ∨ a2 < 1 ∨ a2 > 4096
    · rw [if_pos c]
      by_cases c1 : a1 < 1
      · rw [if_pos c1, j0t _ rfl]
      by_cases c2 : a1 > 4096
      · rw [if_neg c1, if_pos c2, j0t _ rfl]
      by_cases c3 : a2 < 1
      · rw [if_neg c1, if_neg c2, if_pos c3, j0t _ rfl]
      · rw [if_neg c1, if_neg c2, if_neg c3, j0t _ (decide_eq_true (by omega))]
    · rw [if_neg c, if_neg (by omega), if_neg (by omega), if_neg (by omega), decide_eq_false (by omega), earshotref02_Frames.j0, if_neg (by decide)]
      obtain ⟨sz, rfl⟩ := Int.eq_ofNat_of_zero_le (a := a1) (by omega)
      obtain ⟨st, rfl⟩ := Int.eq_ofNat_of_zero_le (a := a2) (by omega)
      have hlt := frameN_lt l.length sz st a3 (by omega) (by omega)
      have hbd : 0 ≤ frameN l.length sz st a3 ∧ frameN l.length sz st a3 ≤ 204096 := by
        unfold frameN
        split
        · have b1 := Int.ediv_nonneg (a := (l.length : Int) + st - 1) (b := st) (by omega) (by omega)
          have b2 := Int.ediv_le_self (a := (l.length : Int) + st - 1) (st : Int) (by omega)
          omega
        · split
          · have b1 := Int.ediv_nonneg (a := (l.length : Int) - sz) (b := st) (by omega) (by omega)
            have b2 := Int.ediv_le_self (a := (l.length : Int) - sz) (st : Int) (by omega)
            omega
          · omega
      obtain ⟨N, hN⟩ := Int.eq_ofNat_of_zero_le hbd.1
      rw [hN] at hbd ⊢
      rw [hN, Int.toNat_natCast] at hlt
      have hm : (N : Int) * (sz : Int) = ((N * sz : Nat) : Int) := by rw [Int.natCast_mul]
      have hm2 : N * sz ≤ 204096 * 4096 := Nat.mul_le_mul (by omega) (by omega)
      have hm3 : (N + 1) * (sz + 3) ≤ 204097 * 4099 := Nat.mul_le_mul (by omega) (by omega)
      rw [hm, Int.toNat_natCast, Int.toNat_natCast, Int.toNat_natCast]
      refine (cnt_l0 hlt (by omega) (by omega) (by omega) (by omega) (by omega) ((N + 1) * (sz + 3) + 2) (if ((N * sz : Nat) : Int) > 4000000 then some ([], 5) else some ((List.range N).map fun t => frameAt l sz st t, 0)) ?_ N 0 k (by omega) (by omega) |> fun h => by rw [Nat.zero_mul] at h; exact h)
      intro k' hk'
      obtain ⟨k', rfl⟩ : ∃ m, k' = m + 1 := ⟨k' - 1, by omega⟩
      rw [earshotref02_Frames.j2, hm, w64 (by omega) (by omega)]
      by_cases c5 : ((N * sz : Nat) : Int) > 4000000
      · rw [if_pos c5, if_pos c5]
      · rw [if_neg c5, if_neg c5]
        exact frames_l1 hlt (by omega) (by omega) (by omega) N 0 k' (by omega) (by omega)
  · have e : valErr l = 2 := by unfold valErr; rw [if_neg (by omega), if_neg hv]
    rw [if_neg hv, e, j0t _ rfl]
    rfl
/-- What Frames returns is a list of rows none of which is long. -/
theorem frames_some (l : List Int) (hl : l.length ≤ 4611686018427387904) (a1 a2 : Int) (a3 : Bool) : ∃ r e, wave_Frames.f l a1 a2 a3 = some (r, e) ∧ r.length ≤ 4000000 ∧ ∀ x ∈ r, x.length ≤ 4096 := by
  unfold wave_Frames.f
  by_cases c1 : valErr l ≠ 0
  · rw [if_pos c1]
    exact ⟨_, _, rfl, Nat.zero_le _, fun x hx => by cases hx⟩
  rw [if_neg c1]
  by_cases c2 : a1 < 1 ∨ a1 > 4096 ∨ a2 < 1 ∨ a2 > 4096
  · rw [if_pos c2]
    exact ⟨_, _, rfl, Nat.zero_le _, fun x hx => by cases hx⟩
  rw [if_neg c2]
  by_cases c3 : frameN l.length a1 a2 a3 * a1 > 4000000
  · rw [if_pos c3]
    exact ⟨_, _, rfl, Nat.zero_le _, fun x hx => by cases hx⟩
  rw [if_neg c3]
  refine ⟨_, _, rfl, ?_, fun x hx => ?_⟩
  · rw [List.length_map, List.length_range]
    rcases Decidable.em (0 ≤ frameN l.length a1 a2 a3) with h | h
    rotate_left
    · omega
    · have h2 : frameN l.length a1 a2 a3 * 1 ≤ frameN l.length a1 a2 a3 * a1 := Int.mul_le_mul_of_nonneg_left (by omega) h
      omega
  · obtain ⟨t, _, rfl⟩ := List.mem_map.1 hx
    rw [frameAt_length]
    omega
theorem lists_l0 (fs : List (List Int)) (hl : fs.length ≤ 4611686018427387904) (B : Nat) (hB : ∀ x ∈ fs, x.length ≤ B) (hB2 : B ≤ 4611686018427387904) : ∀ (d k i : Nat), i + d = fs.length → d + B + 1 < k → earshotref02_SameLists.l0 k fs fs i = some true := by
  intro d
  induction d with
  | zero =>
    intro k i h1 h2
    obtain ⟨k, rfl, _⟩ := succ_of h2
    rw [earshotref02_SameLists.l0, if_neg (by omega)]
  | succ d ih =>
    intro k i h1 h2
    obtain ⟨k, rfl, h3⟩ := succ_of h2
    have hi : i < fs.length := by omega
    have hr : rd_L1 fs (i : Int) = fs[i] := by
      show fs.getD (i : Int).toNat [] = fs[i]
      rw [Int.toNat_natCast, List.getD_eq_getElem?_getD, List.getElem?_eq_getElem hi]
      rfl
    have hb := hB _ (List.getElem_mem hi)
    rw [earshotref02_SameLists.l0, if_pos (by omega), if_pos (by omega), if_pos (by omega), hr, same_self _ (by omega) k (by omega), Option.bind_some, if_pos rfl, wnx (by omega)]
    exact ih k (i + 1) (by omega) (by omega)
theorem lists_self (fs : List (List Int)) (hl : fs.length ≤ 4611686018427387904) (B : Nat) (hB : ∀ x ∈ fs, x.length ≤ B) (hB2 : B ≤ 4611686018427387904) (k : Nat) (hk : fs.length + B + 1 < k) : earshotref02_SameLists.f k fs fs = some true := by
  unfold earshotref02_SameLists.f
  rw [if_pos rfl]
  exact lists_l0 fs hl B hB hB2 fs.length k 0 (by omega) hk
end Go.Proofs.Ytigbfcodnbnicaa.P
