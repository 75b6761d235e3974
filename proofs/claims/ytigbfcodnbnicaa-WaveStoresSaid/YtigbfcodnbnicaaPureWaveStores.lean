/- The law of storing over plain numbers: what is packed unpacks to itself, and a changed byte is refused; for every recording, place and byte. -/
import Derived.Test.YtigbfcodnbnicaaQTamper
import Derived.Test.YtigbfcodnbnicaaQBase
import Derived.Test.YtigbfcodnbnicaaQValid
import Derived.Test.YtigbfcodnbnicaaQKnown
import Derived.Test.YtigbfcodnbnicaaXF9
set_option linter.unusedVariables false
set_option linter.unusedSimpArgs false
namespace Go.Proofs.Ytigbfcodnbnicaa.Pure
open Go.RowKit Go.Proofs.Ytigbfcodnbnicaa.P Go.Proofs.YtigbfcodnbnicaaW.PrintWords Go.Proofs.YtigbfcodnbnicaaW.PrintLast Go.Proofs.YtigbfcodnbnicaaW.PrintMore

theorem stores_j2 (a0 : Int) (l : List Int) (he : recErr a0 l = 0) (h3 : l.length ≤ 3000) (a1 a2 : Int) (h2 : 0 ≤ a2 ∧ a2 ≤ 255) (q : Bool) (hq : q = false → 0 ≤ a1 ∧ a1 < (packB a0 l).length ∧ a2 ≠ 0) (k : Nat) (hk : 40 < k) : earshotlaw02_WaveStores.j2 k a1 a2 (packB a0 l) q = some true := by
  obtain ⟨k, rfl⟩ : ∃ m, k = m + 1 := ⟨k - 1, by omega⟩
  rw [earshotlaw02_WaveStores.j2]
  rw [known_k k (by omega)]
  cases q with
  | true => rfl
  | false =>
    obtain ⟨p1, p2, p3⟩ := hq rfl
    obtain ⟨i, rfl⟩ := Int.eq_ofNat_of_zero_le p1
    have hl := pack_length a0 l
    have hb := pack_bytes a0 l
    have hs := sumB_bd (packBody a0 l)
    have es : geb (leb (sumB (packBody a0 l)) 4) = sumB (packBody a0 l) := geb_leb4 (by omega) (by omega)
    obtain ⟨_, _, _, _, q5, q6⟩ := pack_parts a0 l
    have hi : i < (packB a0 l).length := by omega
    have hrd : rd (packB a0 l) (i : Int) = (packB a0 l).getD i 0 := by unfold rd; rw [Int.toNat_natCast]
    have hbi : 0 ≤ (packB a0 l).getD i 0 ∧ (packB a0 l).getD i 0 ≤ 255 := by
      rw [List.getD_eq_getElem?_getD, List.getElem?_eq_getElem hi]
      exact hb _ (List.getElem_mem hi)
    have t := tamper (b := packB a0 l) (i := i) (y := ((packB a0 l).getD i 0 + a2) % 256) hb (by omega) (by omega) (by rw [q5, q6, es]) hi (by omega) (by omega)
    rw [if_neg (by decide), if_pos p1, if_pos p2, hrd, Int.toNat_natCast, t]
    rfl
theorem WaveStores (a0 : Int) (l : List Int) (a1 a2 : Int) (w0 : (Lit.int .i64 a0).wf = true) (hm : l.length ≤ maxLen) (hw : ∀ x ∈ l, (Lit.int .i64 x).wf = true) (w1 : (Lit.int .i64 a1).wf = true) (w2 : (Lit.int .u8 a2).wf = true) : ∃ k, earshotlaw02_WaveStores.f k a0 l a1 a2 = some true := by
  have h2 : 0 ≤ a2 ∧ a2 ≤ 255 := Go.bounds_u8 w2
  refine ⟨3997 + 1 + 1 + 1, ?_⟩
  unfold earshotlaw02_WaveStores.f
  by_cases h3 : (l.length : Int) > 3000
  · rw [if_pos h3]
    rw [earshotlaw02_WaveStores.j0]
    rw [if_pos rfl, known_k _ (by omega)]
    rfl
  rw [if_neg h3, Valid_eq a0 l (by omega) _ (by omega), Option.bind_some]
  rw [earshotlaw02_WaveStores.j0]
  by_cases he : recErr a0 l = 0
  · rw [if_neg (by rw [decide_eq_true he]; decide)]
    unfold wave_Pack.f
    rw [if_neg (fun e => e he), Option.bind_some]
    simp only
    rw [unpack_pack he, Option.bind_some]
    simp only
    rw [if_pos trivial, if_pos trivial, if_pos trivial, same_self l (by omega) _ (by omega), Option.bind_some]
    rw [earshotlaw02_WaveStores.j1]
    rw [if_neg (by decide)]
    by_cases c1 : a1 < 0
    · rw [if_pos c1]
      exact stores_j2 a0 l he (by omega) a1 a2 h2 true (fun e => by cases e) _ (by omega)
    rw [if_neg c1]
    by_cases c2 : a1 ≥ ((packB a0 l).length : Int)
    · rw [if_pos c2]
      exact stores_j2 a0 l he (by omega) a1 a2 h2 true (fun e => by cases e) _ (by omega)
    rw [if_neg c2]
    refine stores_j2 a0 l he (by omega) a1 a2 h2 _ (fun e => ⟨by omega, by omega, ?_⟩) _ (by omega)
    exact fun e2 => by rw [e2] at e; cases e
  · rw [if_pos (by rw [decide_eq_false he]; decide), known_k _ (by omega)]
    rfl
end Go.Proofs.Ytigbfcodnbnicaa.Pure
