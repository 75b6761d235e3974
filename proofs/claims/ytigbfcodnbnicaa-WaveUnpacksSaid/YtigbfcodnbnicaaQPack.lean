/- Packed recordings over plain numbers: what is packed is unpacked again, and what unpacks is what its recording packs to; for bytes. -/
import Derived.Test.YtigbfcodnbnicaaHUnpack
set_option linter.unusedVariables false
set_option linter.unusedSimpArgs false
namespace Go.Proofs.Ytigbfcodnbnicaa.P
open Go.RowKit Go.Proofs.YtigbfcodnbnicaaW.PrintWords Go.Proofs.YtigbfcodnbnicaaW.PrintLast Go.Proofs.YtigbfcodnbnicaaW.PrintMore

theorem geb_leb4 {n : Int} (h1 : 0 ≤ n) (h2 : n < 4294967296) : geb (leb n 4) = n := by
  simp only [leb, geb]
  omega
theorem pack_length (a : Int) (l : List Int) : (packB a l).length = 16 + 2 * l.length := by
  unfold packB
  rw [packBody_eq, List.length_append, List.length_append, hd8_length, smpBytes_length l l.length (Nat.le_refl _), leb_length]
  omega
theorem packBody_length (a : Int) (l : List Int) : (packBody a l).length = 12 + 2 * l.length := by
  rw [packBody_eq, List.length_append, hd8_length, smpBytes_length l l.length (Nat.le_refl _)]
theorem packBody_bytes (a : Int) (l : List Int) : ∀ v ∈ packBody a l, 0 ≤ v ∧ v ≤ 255 := by
  rw [packBody_eq]
  intro v hv
  rcases List.mem_append.1 hv with h | h
  · exact hd8_bytes _ _ v h
  · exact smpBytes_bytes _ _ v h
theorem pack_bytes (a : Int) (l : List Int) : ∀ v ∈ packB a l, 0 ≤ v ∧ v ≤ 255 := by
  intro v hv
  unfold packB at hv
  rcases List.mem_append.1 hv with h | h
  · exact packBody_bytes a l v h
  · exact leb_bytes _ _ v h
/-- Every list of bytes is put together of the bytes of its number. -/
theorem leb_geb : ∀ b : List Int, (∀ v ∈ b, 0 ≤ v ∧ v ≤ 255) → leb (geb b) b.length = b
  | [], _ => rfl
  | x :: t, h => by
    have hx := h x List.mem_cons_self
    have ih := leb_geb t (fun v hv => h v (List.mem_cons_of_mem _ hv))
    show ((x + 256 * geb t) % 256) :: leb ((x + 256 * geb t) / 256) t.length = x :: t
    rw [show (x + 256 * geb t) % 256 = x by omega, show (x + 256 * geb t) / 256 = geb t by omega, ih]
theorem smp_flat (l : List Int) : smpBytes l l.length = l.flatMap fun v => leb (v % 65536) 2 := by unfold smpBytes; rw [List.take_length]
theorem leb2 (n : Int) : leb n 2 = [n % 256, n / 256 % 256] := rfl
theorem samples_pack : ∀ l : List Int, (∀ v ∈ l, -32768 ≤ v ∧ v ≤ 32767) → samplesOf (l.flatMap fun v => leb (v % 65536) 2) = l
  | [], _ => rfl
  | x :: t, h => by
    have hx := h x List.mem_cons_self
    have ih := samples_pack t (fun v hv => h v (List.mem_cons_of_mem _ hv))
    rw [List.flatMap_cons, leb2]
    show (if x % 65536 % 256 + 256 * (x % 65536 / 256 % 256) > 32767 then x % 65536 % 256 + 256 * (x % 65536 / 256 % 256) - 65536 else x % 65536 % 256 + 256 * (x % 65536 / 256 % 256)) :: samplesOf (t.flatMap fun v => leb (v % 65536) 2) = x :: t
    rw [ih]
    congr 1
    split <;> omega
theorem pack_samples : ∀ m : List Int, (∀ v ∈ m, 0 ≤ v ∧ v ≤ 255) → m.length % 2 = 0 → (samplesOf m).flatMap (fun v => leb (v % 65536) 2) = m
  | [], _, _ => rfl
  | [a], _, h => by simp at h
  | a :: b :: t, hb, h => by
    have ha := hb a List.mem_cons_self
    have hbb := hb b (List.mem_cons_of_mem _ List.mem_cons_self)
    have ih := pack_samples t (fun v hv => hb v (List.mem_cons_of_mem _ (List.mem_cons_of_mem _ hv))) (by simp at h; omega)
    simp only [samplesOf]
    rw [List.flatMap_cons, ih, leb2]
    have e : (if a + 256 * b > 32767 then a + 256 * b - 65536 else a + 256 * b) % 65536 = a + 256 * b := by split <;> omega
    rw [e, show (a + 256 * b) % 256 = a by omega, show (a + 256 * b) / 256 % 256 = b by omega]
    rfl
theorem samplesOf_range : ∀ m : List Int, (∀ v ∈ m, 0 ≤ v ∧ v ≤ 255) → ∀ v ∈ samplesOf m, -32768 ≤ v ∧ v ≤ 32767
  | [], _ => by simp [samplesOf]
  | [a], _ => by simp [samplesOf]
  | a :: b :: t, hb => by
    have ha := hb a List.mem_cons_self
    have hbb := hb b (List.mem_cons_of_mem _ List.mem_cons_self)
    have ih := samplesOf_range t (fun v hv => hb v (List.mem_cons_of_mem _ (List.mem_cons_of_mem _ hv)))
    intro v hv
    simp only [samplesOf, List.mem_cons] at hv
    rcases hv with rfl | hv
    · split <;> omega
    · exact ih v hv
theorem samplesOf_length : ∀ m : List Int, (samplesOf m).length = m.length / 2
  | [] => rfl
  | [a] => by simp [samplesOf]
  | a :: b :: t => by
    simp only [samplesOf, List.length_cons]
    rw [samplesOf_length t]
    omega
theorem inR_bytes {b : List Int} (h : ∀ v ∈ b, 0 ≤ v ∧ v ≤ 255) : inR 0 255 b = true := by
  unfold inR
  rw [List.all_eq_true]
  intro v hv
  have := h v hv
  simp only [Bool.and_eq_true, decide_eq_true_eq]
  exact this
/-- The parts of packed bytes. -/
theorem pack_parts (a : Int) (l : List Int) : (packB a l).take 4 = [69, 65, 82, 49] ∧ ((packB a l).drop 4).take 4 = leb a 4 ∧ ((packB a l).drop 8).take 4 = leb l.length 4 ∧ ((packB a l).drop 12).take ((packB a l).length - 16) = smpBytes l l.length ∧ (packB a l).take ((packB a l).length - 4) = packBody a l ∧ (packB a l).drop ((packB a l).length - 4) = leb (sumB (packBody a l)) 4 := by
  have hl := pack_length a l
  have hb := packBody_length a l
  have e : packB a l = [69, 65, 82, 49] ++ (leb a 4 ++ (leb l.length 4 ++ (smpBytes l l.length ++ leb (sumB (packBody a l)) 4))) := by
    unfold packB
    rw [packBody_eq]
    unfold hd8
    simp only [List.append_assoc]
  have e2 : packB a l = packBody a l ++ leb (sumB (packBody a l)) 4 := rfl
  have n1 : (leb a 4).length = 4 := leb_length _ _
  have n2 : (leb (l.length : Int) 4).length = 4 := leb_length _ _
  have n3 := smpBytes_length l l.length (Nat.le_refl _)
  have d4 : (packB a l).drop 4 = leb a 4 ++ (leb l.length 4 ++ (smpBytes l l.length ++ leb (sumB (packBody a l)) 4)) := by rw [e]; rfl
  have d8 : (packB a l).drop 8 = leb l.length 4 ++ (smpBytes l l.length ++ leb (sumB (packBody a l)) 4) := by
    rw [show (8 : Nat) = 4 + 4 from rfl, ← List.drop_drop, d4]
    exact List.drop_left' n1
  have d12 : (packB a l).drop 12 = smpBytes l l.length ++ leb (sumB (packBody a l)) 4 := by
    rw [show (12 : Nat) = 8 + 4 from rfl, ← List.drop_drop, d8]
    exact List.drop_left' n2
  refine ⟨?_, ?_, ?_, ?_, ?_, ?_⟩
  · rw [e]; rfl
  · rw [d4]
    exact List.take_left' n1
  · rw [d8]
    exact List.take_left' n2
  · rw [d12]
    exact List.take_left' (by rw [n3, hl]; omega)
  · rw [hl, e2]
    exact List.take_left' (by rw [hb]; omega)
  · rw [hl, e2]
    exact List.drop_left' (by rw [hb]; omega)
theorem sum_mod (l : List Int) : sumB l % 4294967296 = sumB l := by
  have := sumB_bd l
  omega
theorem unpack_pack {a : Int} {l : List Int} (he : recErr a l = 0) : wave_Unpack.f (packB a l) = some (a, l, 0) := by
  obtain ⟨hl, ha1, ha2, hv⟩ := recErr_ok2 he
  have hlen := pack_length a l
  obtain ⟨p1, p2, p3, p4, p5, p6⟩ := pack_parts a l
  have hs := sumB_bd (packBody a l)
  have ea : geb (leb a 4) = a := geb_leb4 (by omega) (by omega)
  have el : geb (leb (l.length : Int) 4) = l.length := geb_leb4 (by omega) (by omega)
  have es : geb (leb (sumB (packBody a l)) 4) = sumB (packBody a l) := geb_leb4 (by omega) (by omega)
  unfold wave_Unpack.f
  rw [if_neg (show ¬ inR 0 255 (packB a l) = false by rw [inR_bytes (pack_bytes a l)]; decide), if_neg (show ¬ (packB a l).length > 500000 by omega), if_neg (show ¬ ((packB a l).length < 16 ∨ (packB a l).take 4 ≠ [69, 65, 82, 49]) from fun h => h.elim (by omega) (fun e => e p1)),
    p2, p3, ea, el, if_neg (by rw [hlen]; omega), p6, p5, es, if_neg (fun e => e rfl), p4, smp_flat, samples_pack l hv]
end Go.Proofs.Ytigbfcodnbnicaa.P
