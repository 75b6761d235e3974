/- Packed bytes as lists: their lengths, the sum; for every recording. -/
import Derived.Test.YtigbfcodnbnicaaHDefs
import Derived.Test.YtigbfcodnbnicaaHResA
import Derived.Test.YtigbfcodnbnicaaXMid
import Derived.Test.YtigbfcodnbnicaaXF72
set_option linter.unusedVariables false
set_option linter.unusedSimpArgs false
namespace Go.Proofs.Ytigbfcodnbnicaa.P
open Go.RowKit Go.Proofs.YtigbfcodnbnicaaW.PrintWords Go.Proofs.YtigbfcodnbnicaaW.PrintLast Go.Proofs.YtigbfcodnbnicaaW.PrintMore
attribute [local go_sem] max2_int min2_int max_two min_two max_three min_three max_four min_four

theorem leb_length : ∀ (n : Int) (j : Nat), (leb n j).length = j
  | _, 0 => rfl
  | n, j + 1 => by simp [leb, leb_length (n / 256) j]
/-- The sum of bytes, from a sum on. -/
def sumFrom (c : Int) (b : List Int) : Int := b.foldl (fun c x => (65599 * c + x + 1) % 4294967296) c
theorem sum_l0 (l : List Int) (hl : l.length ≤ 4611686018427387904) (hb : ∀ v ∈ l, 0 ≤ v ∧ v ≤ 255) : ∀ (d k i : Nat) (c : Int), i + d = l.length → d < k → wave_sum.l0 k c l l.length i = some (sumFrom c (l.drop i)) := by
  intro d
  induction d with
  | zero =>
    intro k i c h1 h2
    obtain ⟨k, rfl⟩ : ∃ m, k = m + 1 := ⟨k - 1, by omega⟩
    rw [wave_sum.l0, if_neg (show ¬ (i : Int) < (l.length : Int) by omega), List.drop_eq_nil_of_le (by omega)]
    rfl
  | succ d ih =>
    intro k i c h1 h2
    have ihh := fun c => ih (k - 1) (i + 1) c (by omega) (by omega)
    obtain ⟨k, rfl⟩ : ∃ m, k = m + 1 := ⟨k - 1, by omega⟩
    simp only [Nat.add_sub_cancel] at ihh
    have hi : i < l.length := by omega
    have hv := hb _ (List.getElem_mem hi)
    have e1 : rd l (i : Int) = l[i] := by simp [rd, hi]
    rw [wave_sum.l0, if_pos (show (i : Int) < (l.length : Int) by omega), if_pos (show 0 ≤ (i : Int) by omega), if_pos (show (i : Int) < (l.length : Int) by omega), w64 (x := (i : Int) + 1) (by omega) (by omega), show (i : Int) + 1 = ((i + 1 : Nat) : Int) by omega, e1, ihh, List.drop_eq_getElem_cons hi]
    have e2 : ((65599 * c % 4294967296 + l[i] % 4294967296) % 4294967296 + 1) % 4294967296 = (65599 * c + l[i] + 1) % 4294967296 := by omega
    rw [e2]
    rfl
theorem sum_eq (l : List Int) (hl : l.length ≤ 4611686018427387904) (hb : ∀ v ∈ l, 0 ≤ v ∧ v ≤ 255) (k : Nat) (hk : l.length < k) : wave_sum.f k l = some (sumB l) := by
  unfold wave_sum.f
  have := sum_l0 l hl hb l.length k 0 1 (by omega) hk
  rw [List.drop_zero] at this
  exact this
theorem sumB_bd (l : List Int) : 0 ≤ sumB l ∧ sumB l < 4294967296 := by
  have h : ∀ (l : List Int) (c : Int), 0 ≤ c → c < 4294967296 → 0 ≤ sumFrom c l ∧ sumFrom c l < 4294967296 := by
    intro l
    induction l with
    | nil => intro c h0 h1; exact ⟨h0, h1⟩
    | cons x t ih => intro c h0 h1; exact ih _ (by show 0 ≤ (65599 * c + x + 1) % 4294967296; omega) (by show (65599 * c + x + 1) % 4294967296 < 4294967296; omega)
  exact h l 1 (by omega) (by omega)
theorem leb_bytes : ∀ (n : Int) (j : Nat), ∀ v ∈ leb n j, 0 ≤ v ∧ v ≤ 255
  | _, 0 => by simp [leb]
  | n, j + 1 => by
    intro v hv
    simp only [leb, List.mem_cons] at hv
    rcases hv with rfl | hv
    · omega
    · exact leb_bytes (n / 256) j v hv
/-- The bytes of so many samples off the front. -/
def smpBytes (l : List Int) (j : Nat) : List Int := (l.take j).flatMap fun v => leb (v % 65536) 2
theorem smpBytes_length (l : List Int) (j : Nat) (hj : j ≤ l.length) : (smpBytes l j).length = 2 * j := by
  unfold smpBytes
  rw [List.length_flatMap]
  simp only [leb_length]
  have : ∀ q : List Int, (q.map fun _ => 2).sum = 2 * q.length := by
    intro q
    induction q with
    | nil => rfl
    | cons x t ih => simp [ih]; omega
  rw [this, List.length_take]
  omega
theorem smpBytes_succ (l : List Int) (j : Nat) (hj : j < l.length) : smpBytes l (j + 1) = smpBytes l j ++ leb (rd l j % 65536) 2 := by
  unfold smpBytes
  rw [List.take_succ_eq_append_getElem hj, List.flatMap_append]
  simp [rd, hj]
theorem smpBytes_bytes (l : List Int) (j : Nat) : ∀ v ∈ smpBytes l j, 0 ≤ v ∧ v ≤ 255 := by
  intro v hv
  unfold smpBytes at hv
  rw [List.mem_flatMap] at hv
  obtain ⟨x, _, hx⟩ := hv
  exact leb_bytes _ _ v hx
/-- What Pack has put together before the samples, and after j of them. -/
def hd8 (rate n : Int) : List Int := ([69, 65, 82, 49] ++ leb rate 4) ++ leb n 4
theorem hd8_length (rate n : Int) : (hd8 rate n).length = 12 := by simp [hd8, leb_length]
theorem hd8_bytes (rate n : Int) : ∀ v ∈ hd8 rate n, 0 ≤ v ∧ v ≤ 255 := by
  intro v hv
  unfold hd8 at hv
  simp only [List.mem_append] at hv
  rcases hv with (hv | hv) | hv
  · simp at hv; omega
  · exact leb_bytes _ _ v hv
  · exact leb_bytes _ _ v hv
theorem packBody_eq (rate : Int) (l : List Int) : packBody rate l = hd8 rate l.length ++ smpBytes l l.length := by
  unfold packBody hd8 smpBytes
  rw [List.take_length]
theorem u32_and16 {x : Int} (h0 : 0 ≤ x) (h1 : x < 4294967296) : bits .and .u32 x 65535 = x % 65536 := bits_mask .u32 32 (by decide) (fun n a b => by rw [IntKind.wrap_u32]; omega) 16 (by decide) x h0 h1
theorem mod_mod16 (x : Int) : x % 4294967296 % 65536 = x % 65536 := by omega
theorem recErr_ok2 {a : Int} {l : List Int} (h : recErr a l = 0) : l.length ≤ 200000 ∧ 1 ≤ a ∧ a ≤ 192000 ∧ ∀ v ∈ l, -32768 ≤ v ∧ v ≤ 32767 := by
  unfold recErr at h
  by_cases h1 : l.length > 200000
  · rw [if_pos h1] at h; omega
  · rw [if_neg h1] at h
    by_cases h2 : a < 1 ∨ a > 192000 ∨ inR (-32768) 32767 l = false
    · rw [if_pos h2] at h; omega
    · have h5 : inR (-32768) 32767 l = true := by
        cases e : inR (-32768) 32767 l with
        | true => rfl
        | false => exact absurd (.inr (.inr e)) h2
      exact ⟨by omega, by omega, by omega, inR_mem h5⟩
end Go.Proofs.Ytigbfcodnbnicaa.P
