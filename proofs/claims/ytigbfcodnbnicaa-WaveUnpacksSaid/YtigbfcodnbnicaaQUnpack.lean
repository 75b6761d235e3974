/- What the reference unpacks, over plain numbers; for bytes. -/
import Derived.Test.YtigbfcodnbnicaaQPack
import Derived.Test.YtigbfcodnbnicaaQVals
import Derived.Test.YtigbfcodnbnicaaQValid
import Derived.Test.YtigbfcodnbnicaaXF35
set_option linter.unusedVariables false
set_option linter.unusedSimpArgs false
namespace Go.Proofs.Ytigbfcodnbnicaa.P
open Go.RowKit Go.Proofs.YtigbfcodnbnicaaW.PrintWords Go.Proofs.YtigbfcodnbnicaaW.PrintLast Go.Proofs.YtigbfcodnbnicaaW.PrintMore

theorem get_l0 (b : List Int) (hb : ∀ v ∈ b, 0 ≤ v ∧ v ≤ 255) (h4 : b.length ≤ 4) : ∀ (n k : Nat), n ≤ b.length → n < k → earshotref02_get.l0 k b (geb (b.drop n)) ((n : Int) - 1) = some (geb b)
  | 0, k, _, hk => by
    obtain ⟨k, rfl⟩ : ∃ m, k = m + 1 := ⟨k - 1, by omega⟩
    unfold earshotref02_get.l0
    rw [if_neg (by omega)]
    rfl
  | n + 1, k, hn, hk => by
    obtain ⟨k, rfl⟩ : ∃ m, k = m + 1 := ⟨k - 1, by omega⟩
    unfold earshotref02_get.l0
    have e : ((n + 1 : Nat) : Int) - 1 = (n : Int) := by omega
    have hi : n < b.length := by omega
    have hx := hb _ (List.getElem_mem hi)
    have hg := geb_bd (b.drop (n + 1)) (fun v hv => hb v (List.mem_of_mem_drop hv))
    have hg2 : geb (b.drop (n + 1)) < 4294967296 := by
      have hm : (b.drop (n + 1)).length = 0 ∨ (b.drop (n + 1)).length = 1 ∨ (b.drop (n + 1)).length = 2 ∨ (b.drop (n + 1)).length = 3 := by rw [List.length_drop]; omega
      rcases hm with h | h | h | h <;> (rw [h] at hg; exact Int.lt_of_lt_of_le hg.2 (by decide))
    have hr : rd b (n : Int) = b[n] := by
      show b.getD (n : Int).toNat 0 = b[n]
      rw [Int.toNat_natCast, List.getD_eq_getElem?_getD, List.getElem?_eq_getElem hi]
      rfl
    have hd : geb (b.drop n) = b[n] + 256 * geb (b.drop (n + 1)) := by rw [List.drop_eq_getElem_cons hi]; rfl
    rw [e, if_pos (by omega), if_pos (by omega), if_pos (by omega), hr, w64 (x := 256 * geb (b.drop (n + 1))) (by omega) (by omega), w64 (x := b[n]) (by omega) (by omega), w64 (x := 256 * geb (b.drop (n + 1)) + b[n]) (by omega) (by omega), w64 (x := (n : Int) - 1) (by omega) (by omega), show 256 * geb (b.drop (n + 1)) + b[n] = geb (b.drop n) by rw [hd]; omega]
    exact get_l0 b hb h4 n k (by omega) (by omega)
theorem get_eq (b : List Int) (hb : ∀ v ∈ b, 0 ≤ v ∧ v ≤ 255) (h4 : b.length ≤ 4) (k : Nat) (hk : 10 ≤ k) : earshotref02_get.f k b = some (geb b) := by
  unfold earshotref02_get.f
  have h := get_l0 b hb h4 b.length k (Nat.le_refl _) (by omega)
  rw [List.drop_length] at h
  rw [w64 (by omega) (by omega)]
  exact h
theorem getAt (l : List Int) (p q n : Nat) (hq : q = p + n) (hb : ∀ v ∈ l, 0 ≤ v ∧ v ≤ 255) (hn : n ≤ 4) (k : Nat) (hk : 10 ≤ k) : earshotref02_get.f k ((l.take q).drop p) = some (gebAt l p n) := by
  subst hq
  rw [List.drop_take, show p + n - p = n by omega]
  exact get_eq _ (fun v hv => hb v (List.mem_of_mem_drop (List.mem_of_mem_take hv))) (by rw [List.length_take]; omega) k hk
/-- What the reference returns. -/
def refU (b : List Int) (N : Nat) : Int × List Int × Bool := if recErr (gebAt b 4 4) (unpPart b N) = 0 ∧ packB (gebAt b 4 4) (unpPart b N) = b then (gebAt b 4 4, unpPart b N, true) else (0, [], false)
theorem ref_l0 (b : List Int) (hb : ∀ v ∈ b, 0 ≤ v ∧ v ≤ 255) (N : Nat) (hN : b.length = 16 + 2 * N) (h6 : N ≤ 300000) : ∀ (d j k : Nat), j + d = N → d + N + 20 < k → earshotref02_Unpack.l0 k b ((12 + 2 * j : Nat) : Int) (gebAt b 4 4) (unpPart b j) = some (refU b N)
  | 0, j, k, hj, hk => by
    obtain ⟨k, rfl⟩ : ∃ m, k = m + 1 := ⟨k - 1, by omega⟩
    obtain rfl : j = N := by omega
    rw [earshotref02_Unpack.l0, w64 (by omega) (by omega), if_neg (by omega), Valid_eq _ _ (by rw [unpPart_length]; omega) _ (by rw [unpPart_length]; omega), Option.bind_some]
    by_cases he : recErr (gebAt b 4 4) (unpPart b j) = 0
    · rw [if_pos (decide_eq_true he)]
      unfold earshotref02_Pack.f refU
      rw [if_pos he, Option.bind_some]
      by_cases hp : packB (gebAt b 4 4) (unpPart b j) = b
      · rw [if_pos (by rw [hp]), if_pos ⟨he, hp⟩]
      · rw [if_neg (fun e => hp (nums_inj _ _ (pack_bytes _ _) hb e)), if_neg (fun e => hp e.2)]
    · rw [if_neg (by rw [decide_eq_false he]; decide)]
      unfold refU
      rw [if_neg (fun e => he e.1)]
  | d + 1, j, k, hj, hk => by
    obtain ⟨k, rfl⟩ : ∃ m, k = m + 1 := ⟨k - 1, by omega⟩
    have ih := ref_l0 b hb N hN h6 d (j + 1) k (by omega) (by omega)
    have hl := unpPart_length b j
    have e1 : wrap64 (((12 + 2 * j : Nat) : Int) + 2) = ((12 + 2 * (j + 1) : Nat) : Int) := by rw [w64 (by omega) (by omega)]; omega
    have hbd := gebAt_bd b (12 + 2 * j) 2 hb (by omega)
    have hbd2 : gebAt b (12 + 2 * j) 2 < 65536 := hbd.2
    rw [unpPart_succ] at ih
    rw [earshotref02_Unpack.l0, e1, w64 (x := (b.length : Int) - 4) (by omega) (by omega), if_pos (by omega), if_pos (by omega), if_pos (by omega), if_pos (by omega), Int.toNat_natCast, Int.toNat_natCast, getAt b (12 + 2 * j) _ 2 (by omega) hb (by omega) k (by omega), Option.bind_some]
    by_cases c : gebAt b (12 + 2 * j) 2 > 32767
    · rw [if_pos c, if_pos (by omega), w64 (by omega) (by omega)]
      rw [show sx (gebAt b (12 + 2 * j) 2) = gebAt b (12 + 2 * j) 2 - 65536 from if_pos c] at ih
      exact ih
    · rw [if_neg c, if_pos (by omega)]
      rw [show sx (gebAt b (12 + 2 * j) 2) = gebAt b (12 + 2 * j) 2 from if_neg c] at ih
      exact ih
theorem RefUnpack_eq (b : List Int) (hb : ∀ v ∈ b, 0 ≤ v ∧ v ≤ 255) (N : Nat) (hN : b.length = 16 + 2 * N) (h6 : N ≤ 300000) (k : Nat) (hk : 2 * N + 30 < k) : earshotref02_Unpack.f k b = some (refU b N) := by
  obtain ⟨k, rfl⟩ : ∃ m, k = m + 1 := ⟨k - 1, by omega⟩
  have h := ref_l0 b hb N hN h6 N 0 k (by omega) (by omega)
  have g := getAt b 4 8 4 rfl hb (by omega) k (by omega)
  have e : ((b.length : Int) % 2 != 0) = false := by rw [show (b.length : Int) % 2 = 0 by omega]; rfl
  unfold earshotref02_Unpack.f
  rw [if_neg (by omega), e, earshotref02_Unpack.j0, if_neg (by decide), if_pos (by decide), if_pos (by omega), g, Option.bind_some]
  exact h
theorem RefUnpack_no (b : List Int) (h : b.length < 16 ∨ b.length % 2 = 1) (k : Nat) (hk : 1 ≤ k) : earshotref02_Unpack.f k b = some (0, [], false) := by
  obtain ⟨k, rfl⟩ : ∃ m, k = m + 1 := ⟨k - 1, by omega⟩
  unfold earshotref02_Unpack.f
  by_cases c : (b.length : Int) < 16
  · rw [if_pos c, earshotref02_Unpack.j0, if_pos rfl]
  · have e : ((b.length : Int) % 2 != 0) = true := by rw [show (b.length : Int) % 2 = 1 by omega]; rfl
    rw [if_neg c, e, earshotref02_Unpack.j0, if_pos rfl]
/-- Bytes that pass the checks are what their recording packs to. -/
theorem unpack_conv {b : List Int} (hb : ∀ v ∈ b, 0 ≤ v ∧ v ≤ 255) (N : Nat) (hN : b.length = 16 + 2 * N) (h6 : N ≤ 200000) (h1 : b.take 4 = [69, 65, 82, 49]) (h2 : 1 ≤ gebAt b 4 4) (h3 : gebAt b 4 4 ≤ 192000) (h4 : gebAt b 8 4 = N) (h5 : geb (b.drop (b.length - 4)) = sumB (b.take (b.length - 4))) : recErr (gebAt b 4 4) (unpPart b N) = 0 ∧ packB (gebAt b 4 4) (unpPart b N) = b := by
  have hs := samples_unp b N (by omega)
  have hl := unpPart_length b N
  have hm : ∀ v ∈ (b.drop 12).take (2 * N), 0 ≤ v ∧ v ≤ 255 := fun v hv => hb v (List.mem_of_mem_drop (List.mem_of_mem_take hv))
  have hr := samplesOf_range _ hm
  rw [hs] at hr
  have hp := pack_samples _ hm (by rw [List.length_take, List.length_drop]; omega)
  rw [hs] at hp
  have hin : inR (-32768) 32767 (unpPart b N) = true := by
    unfold inR
    rw [List.all_eq_true]
    intro v hv
    have := hr v hv
    simp only [Bool.and_eq_true, decide_eq_true_eq]
    exact this
  refine ⟨?_, ?_⟩
  · unfold recErr
    rw [if_neg (by omega), if_neg (fun e => e.elim (by omega) (fun e => e.elim (by omega) (fun e => by rw [hin] at e; cases e)))]
  · have l4 : ∀ p, p + 4 ≤ b.length → leb (gebAt b p 4) 4 = (b.drop p).take 4 := fun p h => by
      have hq := leb_geb ((b.drop p).take 4) (fun v hv => hb v (List.mem_of_mem_drop (List.mem_of_mem_take hv)))
      rw [List.length_take, List.length_drop, Nat.min_eq_left (by omega)] at hq
      exact hq
    have hbody : packBody (gebAt b 4 4) (unpPart b N) = b.take (b.length - 4) := by
      unfold packBody
      rw [hl, ← h4, l4 4 (by omega), l4 8 (by omega), hp, ← h1, ← List.take_add, ← List.take_add, ← List.take_add]
      congr 1
      omega
    have ht : leb (geb (b.drop (b.length - 4))) 4 = b.drop (b.length - 4) := by
      have hq := leb_geb (b.drop (b.length - 4)) (fun v hv => hb v (List.mem_of_mem_drop hv))
      rw [List.length_drop, show b.length - (b.length - 4) = 4 by omega] at hq
      exact hq
    unfold packB
    rw [hbody, ← h5, ht, List.take_append_drop]
/-- What the program unpacks, by what the reference unpacks. -/
theorem unpack_ref {b : List Int} (hb : ∀ v ∈ b, 0 ≤ v ∧ v ≤ 255) (h5 : b.length ≤ 500000) (k : Nat) (hk : 600000 < k) : ∃ u : Int × List Int × Bool, earshotref02_Unpack.f k b = some u ∧ wave_Unpack.f b = some (u.1, u.2.1, if u.2.2 = true then 0 else 4) ∧ u.2.1.length ≤ 500000 := by
  have hin := inR_bytes hb
  by_cases c1 : b.length < 16 ∨ b.length % 2 = 1
  · refine ⟨_, RefUnpack_no b c1 k (by omega), ?_, Nat.zero_le _⟩
    unfold wave_Unpack.f
    rw [hin, if_neg (by decide), if_neg (by omega)]
    by_cases c2 : b.length < 16 ∨ b.take 4 ≠ [69, 65, 82, 49]
    · rw [if_pos c2]; rfl
    rw [if_neg c2, if_pos (.inr (.inr (.inr (by omega))))]
    rfl
  obtain ⟨N, hN⟩ : ∃ N, b.length = 16 + 2 * N := ⟨(b.length - 16) / 2, by omega⟩
  refine ⟨_, RefUnpack_eq b hb N hN (by omega) k (by omega), ?_, ?_⟩
  · by_cases ok : recErr (gebAt b 4 4) (unpPart b N) = 0 ∧ packB (gebAt b 4 4) (unpPart b N) = b
    · have h := unpack_pack ok.1
      rw [ok.2] at h
      unfold refU
      rw [if_pos ok]
      exact h
    · unfold refU
      rw [if_neg ok]
      unfold wave_Unpack.f
      rw [hin, if_neg (by decide), if_neg (by omega)]
      by_cases c2 : b.length < 16 ∨ b.take 4 ≠ [69, 65, 82, 49]
      · rw [if_pos c2]; rfl
      rw [if_neg c2]
      have ea : geb ((b.drop 4).take 4) = gebAt b 4 4 := rfl
      have en : geb ((b.drop 8).take 4) = gebAt b 8 4 := rfl
      rw [ea, en]
      by_cases c3 : gebAt b 4 4 < 1 ∨ gebAt b 4 4 > 192000 ∨ gebAt b 8 4 > 200000 ∨ (b.length : Int) ≠ 16 + 2 * gebAt b 8 4
      · rw [if_pos c3]; rfl
      rw [if_neg c3]
      by_cases c4 : geb (b.drop (b.length - 4)) ≠ sumB (b.take (b.length - 4))
      · rw [if_pos c4]; rfl
      exact absurd (unpack_conv hb N hN (by omega) (Decidable.not_not.1 fun e => c2 (.inr e)) (by omega) (by omega) (by omega) (Decidable.not_not.1 c4)) ok
  · unfold refU
    split
    · show (unpPart b N).length ≤ 500000
      rw [unpPart_length]
      omega
    · exact Nat.zero_le _
end Go.Proofs.Ytigbfcodnbnicaa.P
