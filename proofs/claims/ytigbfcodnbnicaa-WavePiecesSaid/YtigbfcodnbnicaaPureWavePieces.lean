/- The law of pieces over plain numbers: padded frames one after the other are the list and zeros; those without padding are the first of them; for every list and size. -/
import Derived.Test.YtigbfcodnbnicaaQFrames
import Derived.Test.YtigbfcodnbnicaaQKnown
import Derived.Test.YtigbfcodnbnicaaXF19
set_option linter.unusedVariables false
set_option linter.unusedSimpArgs false
namespace Go.Proofs.Ytigbfcodnbnicaa.Pure
open Go.RowKit Go.Proofs.Ytigbfcodnbnicaa.P Go.Proofs.YtigbfcodnbnicaaW.PrintWords Go.Proofs.YtigbfcodnbnicaaW.PrintLast Go.Proofs.YtigbfcodnbnicaaW.PrintMore

/-- The first elements of a list and zeros. -/
def padTo (l : List Int) (n : Nat) : List Int := (List.range n).map fun i => l.getD i 0
theorem padTo_length (l : List Int) (n : Nat) : (padTo l n).length = n := by simp [padTo]
theorem padTo_next (l : List Int) (n sz t : Nat) (h : n = t * sz) : padTo l n ++ frameAt l sz sz t = padTo l (n + sz) := by
  subst h
  unfold padTo frameAt
  rw [List.range_add, List.map_append, List.map_map]
  rfl
theorem padTo_take (l : List Int) (n : Nat) (h : l.length ≤ n) : (padTo l n).take l.length = l := by
  apply List.ext_getElem?
  intro i
  rw [List.getElem?_take]
  by_cases hi : i < l.length
  · rw [if_pos hi]
    unfold padTo
    rw [List.getElem?_map, List.getElem?_range (by omega), List.getElem?_eq_getElem hi]
    simp [List.getD, hi]
  · rw [if_neg hi, List.getElem?_eq_none (by omega)]
theorem padTo_drop (l : List Int) (n : Nat) : inR 0 0 ((padTo l n).drop l.length) = true := by
  refine inR_of fun v hv => ?_
  obtain ⟨i, hi, rfl⟩ := List.mem_iff_getElem.1 hv
  rw [List.getElem_drop]
  unfold padTo
  rw [List.getElem_map, List.getElem_range, List.getD_eq_getElem?_getD, List.getElem?_eq_none (by omega)]
  exact ⟨Int.le_refl _, Int.le_refl _⟩
theorem framesTo_take (l : List Int) (sz st m n : Nat) (h : m ≤ n) : (framesTo l sz st n).take m = framesTo l sz st m := by
  unfold framesTo
  rw [← List.map_take, List.take_range, Nat.min_eq_left h]
theorem framesTo_get (l : List Int) (sz st n t : Nat) (h : t < n) : rd_L1 (framesTo l sz st n) (t : Int) = frameAt l sz st t := by
  show (framesTo l sz st n).getD (t : Int).toNat [] = _
  unfold framesTo
  rw [Int.toNat_natCast, List.getD_eq_getElem?_getD, List.getElem?_map, List.getElem?_range h]
  rfl
theorem pieces_l0 {l : List Int} {sz N M : Nat} (hsz0 : 1 ≤ sz) (hsz : sz ≤ 500) (hl : l.length ≤ 2000) (hN1 : l.length ≤ N * sz) (hN2 : N * sz < l.length + sz) (hM : M = l.length / sz) :
    ∀ (d t k : Nat), t + d = N → d + 10000 < k → earshotlaw02_WavePieces.l0 k l sz (framesTo l sz sz N) 0 (framesTo l sz sz M) 0 (padTo l (t * sz)) t = some true := by
  intro d
  have hNN : N ≤ 3000 := by
    have := Nat.le_mul_of_pos_right N hsz0
    omega
  induction d with
  | zero =>
    intro t k h1 h2
    obtain ⟨k, rfl, h3⟩ := succ_of h2
    obtain ⟨k, rfl⟩ : ∃ m, k = m + 1 := ⟨k - 1, by omega⟩
    obtain rfl : t = N := by omega
    have hp := padTo_length l (t * sz)
    have hMN : M ≤ t := by
      rw [hM]
      have : l.length / sz * sz ≤ l.length := Nat.div_mul_le_self _ _
      rcases Nat.lt_or_ge t (l.length / sz) with h | h
      · have h4 : (t + 1) * sz ≤ l.length / sz * sz := Nat.mul_le_mul_right _ h
        rw [Nat.succ_mul] at h4
        omega
      · exact h
    rw [earshotlaw02_WavePieces.l0, framesTo_length, if_neg (by omega), if_pos rfl, if_pos rfl, hp, if_neg (by omega), w64 (by omega) (by omega), if_neg (by omega), if_pos (by omega), if_pos (by omega), Int.toNat_natCast, padTo_take l _ hN1, same_self l (by omega) _ (by omega), Option.bind_some, if_pos rfl,
      all_some _ 0 0 (by rw [List.length_drop, hp]; omega) _ (by rw [List.length_drop, hp]; omega), padTo_drop, Option.bind_some, earshotlaw02_WavePieces.j2, if_neg (by decide), if_neg (by omega), framesTo_length, framesTo_length]
    have hq : ((l.length : Int) / (sz : Int)) = ((l.length / sz : Nat) : Int) := by rw [Int.natCast_ediv]
    have hq2 : l.length / sz ≤ l.length := Nat.div_le_self _ _
    rw [hq, w64 (by omega) (by omega), if_pos (by rw [hM]), if_pos (by omega), if_pos (by omega), Int.toNat_natCast, framesTo_take l sz sz M t hMN, lists_self _ (by rw [framesTo_length]; omega) 500 (fun x hx => by
      obtain ⟨j, _, rfl⟩ := List.mem_map.1 hx
      rw [frameAt_length]
      omega) (by decide) k (by rw [framesTo_length]; omega), Option.bind_some, if_pos rfl, known_k k (by omega)]
    rfl
  | succ d ih =>
    intro t k h1 h2
    obtain ⟨k, rfl, h3⟩ := succ_of h2
    have hih := ih (t + 1) k (by omega) (by omega)
    rw [Nat.succ_mul] at hih
    have hts : t * sz ≤ N * sz := Nat.mul_le_mul_right _ (by omega)
    rw [earshotlaw02_WavePieces.l0, framesTo_length, if_pos (by omega), if_pos (by omega), framesTo_get l sz sz N t (by omega), frameAt_length, if_pos rfl, padTo_length, if_pos (by omega), padTo_next l (t * sz) sz t rfl, wnx (by omega)]
    exact hih
theorem pieces_j0t (l : List Int) (a1 : Int) (k : Nat) (hk : 100 < k) : earshotlaw02_WavePieces.j0 k l a1 true = some true := by
  obtain ⟨k, rfl⟩ : ∃ m, k = m + 1 := ⟨k - 1, by omega⟩
  rw [earshotlaw02_WavePieces.j0, known_k k (by omega), if_pos rfl]
  rfl
theorem WavePieces (l : List Int) (a1 : Int) (hm : l.length ≤ maxLen) (hw : ∀ x ∈ l, (Lit.int .i64 x).wf = true) (w1 : (Lit.int .i64 a1).wf = true) : ∃ k, earshotlaw02_WavePieces.f k l a1 = some true := by
  obtain ⟨K, hK⟩ : ∃ K, K = 20000 := ⟨_, rfl⟩
  refine ⟨K, ?_⟩
  unfold earshotlaw02_WavePieces.f
  by_cases c1 : (l.length : Int) > 2000
  · rw [if_pos c1]; exact pieces_j0t l a1 K (by omega)
  rw [if_neg c1]
  by_cases c2 : a1 < 1
  · rw [if_pos c2]; exact pieces_j0t l a1 K (by omega)
  rw [if_neg c2]
  by_cases c3 : a1 > 500
  · rw [if_pos c3]; exact pieces_j0t l a1 K (by omega)
  rw [if_neg c3, Values_eq l (by omega) K (by omega), Option.bind_some]
  cases hv : inR (-2147483647) 2147483647 l with
  | false => exact pieces_j0t l a1 K (by omega)
  | true =>
    obtain ⟨sz, rfl⟩ := Int.eq_ofNat_of_zero_le (a := a1) (by omega)
    have e : valErr l = 0 := by unfold valErr; rw [if_neg (by omega), if_pos hv]
    have hsz0 : 1 ≤ sz := by omega
    have b1 : l.length / sz * sz ≤ l.length := Nat.div_mul_le_self _ _
    have b2 : l.length < l.length / sz * sz + sz := by
      have := Nat.lt_div_mul_add (a := l.length) (b := sz) hsz0
      exact this
    -- how many frames there are
    have nF : frameN l.length sz sz false = ((l.length / sz : Nat) : Int) := by
      have h := frameN_lt l.length sz sz false hsz0 hsz0
      have h0 : 0 ≤ frameN l.length sz sz false := by
        unfold frameN
        rw [if_neg (by decide)]
        split
        · have := Int.ediv_nonneg (a := (l.length : Int) - sz) (b := sz) (by omega) (by omega)
          omega
        · omega
      obtain ⟨n, hn⟩ := Int.eq_ofNat_of_zero_le h0
      rw [hn, Int.toNat_natCast] at h
      rw [hn]
      have key : ∀ k, k < n ↔ k < l.length / sz := fun k => by
        rw [h k, show (k < l.length / sz) = (k + 1 ≤ l.length / sz) from rfl, Nat.le_div_iff_mul_le (by omega), Nat.succ_mul]
        constructor
        · rintro (h1 | h1)
          · exact h1
          · cases h1.1
        · exact fun h1 => .inl h1
      have k1 := key n
      have k2 := key (l.length / sz)
      omega
    obtain ⟨N, hN⟩ : ∃ N, N = (l.length + sz - 1) / sz := ⟨_, rfl⟩
    have nT : frameN l.length sz sz true = (N : Int) := by
      unfold frameN
      rw [if_pos rfl, hN, Int.natCast_ediv]
      congr 1
      omega
    have d1 : N * sz ≤ l.length + sz - 1 := by rw [hN]; exact Nat.div_mul_le_self _ _
    have d2 : l.length + sz - 1 < N * sz + sz := by
      rw [hN]
      exact Nat.lt_div_mul_add (a := l.length + sz - 1) (b := sz) hsz0
    have f1 : wave_Frames.f l sz sz true = some (framesTo l sz sz N, 0) := by
      unfold wave_Frames.f
      rw [e, if_neg (by decide), if_neg (by omega), nT, if_neg (by rw [← Int.natCast_mul]; omega)]
      simp only [Int.toNat_natCast]
      rfl
    have f2 : wave_Frames.f l sz sz false = some (framesTo l sz sz (l.length / sz), 0) := by
      unfold wave_Frames.f
      rw [e, if_neg (by decide), if_neg (by omega), nF, if_neg (by rw [← Int.natCast_mul]; omega)]
      simp only [Int.toNat_natCast]
      rfl
    obtain ⟨K, rfl⟩ : ∃ m, K = m + 1 := ⟨K - 1, by omega⟩
    have hNN := Nat.le_mul_of_pos_right N hsz0
    have h := pieces_l0 (l := l) (sz := sz) (N := N) (M := l.length / sz) hsz0 (by omega) (by omega) (by omega) (by omega) rfl N 0 K (by omega) (by omega)
    rw [Nat.zero_mul] at h
    rw [earshotlaw02_WavePieces.j0, if_neg (by decide), f1, Option.bind_some, f2, Option.bind_some]
    exact h
end Go.Proofs.Ytigbfcodnbnicaa.Pure
