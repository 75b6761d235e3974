/- The reference's Gate and Segments over plain numbers: which gates are right, and which segments any list of samples has; for lists of at most 200000 samples. -/
import Derived.Test.YtigbfcodnbnicaaQBase
import Derived.Test.YtigbfcodnbnicaaHBlocks
import Derived.Test.YtigbfcodnbnicaaXF31
import Derived.Test.YtigbfcodnbnicaaXF32
set_option linter.unusedVariables false
set_option linter.unusedSimpArgs false
namespace Go.Proofs.Ytigbfcodnbnicaa.P
open Go.RowKit Go.Proofs.YtigbfcodnbnicaaW.PrintWords Go.Proofs.YtigbfcodnbnicaaW.PrintLast Go.Proofs.YtigbfcodnbnicaaW.PrintMore

theorem mxmax (a b : Int) : mx a b = max a b := by unfold mx; rw [Int.max_def]; split <;> split <;> omega
theorem Gate_eq (a0 a1 a2 a3 a4 a5 a6 : Int) : earshotref02_Gate.f a0 a1 a2 a3 a4 a5 a6 = some (gateOK ⟨a0, a1, a2, a3, a4, a5, a6⟩) := by
  unfold earshotref02_Gate.f
  have bad : ¬ (1 ≤ a0 ∧ a0 ≤ 4096 ∧ 0 ≤ a2 ∧ a2 ≤ a1 ∧ a1 ≤ 1073741824 ∧ 1 ≤ a3 ∧ a3 ≤ 1000 ∧ 1 ≤ a4 ∧ a4 ≤ 1000 ∧ 0 ≤ a5 ∧ a5 ≤ 1000 ∧ a3 + a4 + a5 ≤ a6 ∧ a6 ≤ 100000) → gateOK ⟨a0, a1, a2, a3, a4, a5, a6⟩ = false := by
    intro h
    cases hg : gateOK ⟨a0, a1, a2, a3, a4, a5, a6⟩ with
    | false => rfl
    | true => exact absurd (gate_ok hg) h
  by_cases c1 : a0 ≥ 1
  · rw [if_pos c1]
    by_cases c2 : a0 ≤ 4096
    · rw [if_pos c2]
      by_cases c3 : a2 ≥ 0
      · rw [if_pos c3]
        by_cases c4 : a2 ≤ a1
        · rw [if_pos c4]
          by_cases c5 : a1 ≤ 1073741824
          · rw [if_pos c5]
            by_cases c6 : a3 ≥ 1
            · rw [if_pos c6]
              by_cases c7 : a3 ≤ 1000
              · rw [if_pos c7]
                by_cases c8 : a4 ≥ 1
                · rw [if_pos c8]
                  by_cases c9 : a4 ≤ 1000
                  · rw [if_pos c9]
                    by_cases c10 : a5 ≥ 0
                    · rw [if_pos c10]
                      by_cases c11 : a5 ≤ 1000
                      · rw [if_pos c11, w64 (x := a3 + a4) (by omega) (by omega), w64 (x := a3 + a4 + a5) (by omega) (by omega)]
                        by_cases c12 : a6 ≥ a3 + a4 + a5
                        · rw [if_pos c12]
                          congr 1
                          unfold gateOK
                          simp only [decide_eq_true (show 1 ≤ a0 by omega), decide_eq_true c2, decide_eq_true (show 0 ≤ a2 by omega), decide_eq_true c4, decide_eq_true c5, decide_eq_true (show 1 ≤ a3 by omega), decide_eq_true c7, decide_eq_true (show 1 ≤ a4 by omega), decide_eq_true c9, decide_eq_true (show 0 ≤ a5 by omega), decide_eq_true c11, decide_eq_true (show a3 + a4 + a5 ≤ a6 by omega), Bool.and_self, Bool.true_and]
                        · rw [if_neg c12, bad (by omega)]
                      · rw [if_neg c11, bad (by omega)]
                    · rw [if_neg c10, bad (by omega)]
                  · rw [if_neg c9, bad (by omega)]
                · rw [if_neg c8, bad (by omega)]
              · rw [if_neg c7, bad (by omega)]
            · rw [if_neg c6, bad (by omega)]
          · rw [if_neg c5, bad (by omega)]
        · rw [if_neg c4, bad (by omega)]
      · rw [if_neg c3, bad (by omega)]
    · rw [if_neg c2, bad (by omega)]
  · rw [if_neg c1, bad (by omega)]
theorem refE_l0 (l : List Int) (hl : l.length ≤ 200000) (hb : ∀ v ∈ l, -32768 ≤ v ∧ v ≤ 32767) : ∀ (d k i : Nat) (s : Int), i + d = l.length → d < k → 0 ≤ s → s ≤ 4294967296 * i →
    earshotref02_Energy.l0 k l s i = some (s + sumsq (l.drop i)) := by
  intro d
  induction d with
  | zero =>
    intro k i s h1 h2 h3 h4
    obtain ⟨k, rfl⟩ : ∃ m, k = m + 1 := ⟨k - 1, by omega⟩
    rw [earshotref02_Energy.l0, if_neg (show ¬ (i : Int) < (l.length : Int) by omega), List.drop_eq_nil_of_le (by omega)]
    simp [sumsq]
  | succ d ih =>
    intro k i s h1 h2 h3 h4
    obtain ⟨k, rfl⟩ : ∃ m, k = m + 1 := ⟨k - 1, by omega⟩
    have hi : i < l.length := by omega
    have hm := hb _ (rd_mem hi)
    have hq : 0 ≤ rd l i * rd l i ∧ rd l i * rd l i ≤ 4294967296 := by
      have := sumsq_bd (l := [rd l i]) (fun v hv => by obtain rfl := List.mem_singleton.mp hv; omega)
      simp [sumsq] at this
      exact this
    have e2 : sumsq (l.drop i) = rd l i * rd l i + sumsq (l.drop (i + 1)) := by rw [List.drop_eq_getElem_cons hi, sumsq_cons, rd_get hi]
    have nx : ∀ j : Nat, j ≤ 200000 → wrap64 ((j : Int) + 1) = ((j + 1 : Nat) : Int) := fun j hj => by rw [w64 (by omega) (by omega)]; omega
    rw [earshotref02_Energy.l0, if_pos (show (i : Int) < (l.length : Int) by omega), if_pos (show 0 ≤ (i : Int) by omega), nx i (by omega), e2]
    clear nx
    generalize rd l (i : Int) * rd l (i : Int) = q at *
    rw [w64 (x := q) (by omega) (by omega), w64 (x := s + q) (by omega) (by omega), ih k (i + 1) (s + q) (by omega) (by omega) (by omega) (by omega)]
    congr 1
    omega
theorem refE (l : List Int) (hl : l.length ≤ 200000) (hb : ∀ v ∈ l, -32768 ≤ v ∧ v ≤ 32767) (k : Nat) (hk : l.length < k) : earshotref02_Energy.f k l = some (sumsq l) := by
  have := refE_l0 l hl hb l.length k 0 0 (by omega) hk (by omega) (by omega)
  rw [List.drop_zero, Int.zero_add] at this
  exact this
theorem runBlocks_succ (g : Gt) (q : Nat) (s : Ls) (r : List Int) : runBlocks g (q + 1) s r = ((runBlocks g q (proc g s (sumsq (r.take g.block.toNat))).1 (r.drop g.block.toNat)).1, (proc g s (sumsq (r.take g.block.toNat))).2.toList ++ (runBlocks g q (proc g s (sumsq (r.take g.block.toNat))).1 (r.drop g.block.toNat)).2) := rfl
/-- One block of the reference's loop. -/
theorem seg_step (g : Gt) (hg : gateOK g = true) (l : List Int) (hl : l.length ≤ 200000) (hv : ∀ v ∈ l, -32768 ≤ v ∧ v ≤ 32767) (closed : Bool) (B q : Nat) (hB : g.block = (B : Int)) (hq : (q + 1) * B ≤ l.length) (s : Ls) (hi : Inv s) (hs : s.blocks = q) (out : List S65) (ho : out.length ≤ q) (k : Nat) (hk : l.length < k) :
    ∃ k', k ≤ k' ∧ earshotref02_Segments.l0 (k + 1 + 1) l closed out (decide (s.state = 1)) s.run s.start s.free q g.block g.high g.low g.rise g.fall g.lead g.longest =
      earshotref02_Segments.l0 k' l closed (out ++ (proc g s (sumsq ((l.drop (q * B)).take B))).2.toList) (decide ((proc g s (sumsq ((l.drop (q * B)).take B))).1.state = 1)) (proc g s (sumsq ((l.drop (q * B)).take B))).1.run (proc g s (sumsq ((l.drop (q * B)).take B))).1.start (proc g s (sumsq ((l.drop (q * B)).take B))).1.free ((q + 1 : Nat) : Int) g.block g.high g.low g.rise g.fall g.lead g.longest := by
  obtain ⟨gb1, gb2, gl1, gl2, gh1, gr1, gr2, gf1, gf2, gd1, gd2, gn1, gn2⟩ := gate_ok hg
  obtain ⟨st, i1, i2, i3, i4, i5, i6⟩ := hi
  have hq1 : q ≤ 200000 := by
    have h : (q + 1) * 1 ≤ (q + 1) * B := Nat.mul_le_mul_left _ (by omega)
    omega
  have hqB : q * B + B = (q + 1) * B := by rw [Nat.add_mul, Nat.one_mul]
  have e1 : wrap64 (wrap64 ((q : Int) + 1) * g.block) = (((q + 1) * B : Nat) : Int) := by
    rw [w64 (x := (q : Int) + 1) (by omega) (by omega), hB, show ((q : Int) + 1) * (B : Int) = (((q + 1) * B : Nat) : Int) by push_cast; rfl]
    generalize (q + 1) * B = z at *
    exact w64 (by omega) (by omega)
  have E1 := Aside0.mk e1
  clear e1
  have e2 : wrap64 ((q : Int) * g.block) = ((q * B : Nat) : Int) := by
    rw [hB, show (q : Int) * (B : Int) = ((q * B : Nat) : Int) by push_cast; rfl]
    generalize (q + 1) * B = z at *
    generalize q * B = y at *
    exact w64 (by omega) (by omega)
  have E2 := Aside0.mk e2
  clear e2
  have e3 : (l.take ((q + 1) * B)).drop (q * B) = (l.drop (q * B)).take B := by
    rw [List.drop_take]
    congr 1
    omega
  have hE : ∀ k, l.length < k → earshotref02_Energy.f k ((l.drop (q * B)).take B) = some (sumsq ((l.drop (q * B)).take B)) := by
    intro k hk
    have hlen : ((l.drop (q * B)).take B).length ≤ l.length := by rw [List.length_take, List.length_drop]; omega
    exact refE _ (by omega) (fun v hm => hv v (List.mem_of_mem_drop (List.mem_of_mem_take hm))) k (by omega)
  have hEb : 0 ≤ sumsq ((l.drop (q * B)).take B) := (sumsq_bd (l := (l.drop (q * B)).take B) (fun v hm => by have := hv v (List.mem_of_mem_drop (List.mem_of_mem_take hm)); omega)).1
  rw [earshotref02_Segments.l0, E1.out, E2.out, if_pos (show (((q + 1) * B : Nat) : Int) ≤ (l.length : Int) by omega), if_pos (show 0 ≤ ((q * B : Nat) : Int) by omega), if_pos (show ((q * B : Nat) : Int) ≤ (((q + 1) * B : Nat) : Int) by omega), Int.toNat_natCast, Int.toNat_natCast, e3, hE (k + 1) (by omega), Option.bind_some]
  clear E1 E2 hqB hq
  generalize sumsq ((l.drop (q * B)).take B) = E at *
  have ph := mul_in (show 0 ≤ g.high by omega) gh1 (show 0 ≤ g.block by omega) gb2
  have pl := mul_in gl1 (show g.low ≤ 1073741824 by omega) (show 0 ≤ g.block by omega) gb2
  have ps := mul_in i3 (show s.start ≤ 4294967296 by omega) (show 0 ≤ g.block by omega) gb2
  have pq := mul_in (show 0 ≤ (q : Int) + 1 by omega) (show (q : Int) + 1 ≤ 4294967296 by omega) (show 0 ≤ g.block by omega) gb2
  have nq : ((q : Int) + 1) = ((q + 1 : Nat) : Int) := by omega
  rw [w64 (x := g.high * g.block) (by omega) (by omega), w64 (x := g.low * g.block) (by omega) (by omega), w64 (x := (q : Int) + 1) (by omega) (by omega)]
  have fin : ∀ (k' : Nat) (o : List S65) (s' : Ls), proc g s E = (s', o.head?) → o.length ≤ 1 → k ≤ k' → ∃ k'', k ≤ k'' ∧ earshotref02_Segments.l0 k' l closed (out ++ o) (decide (s'.state = 1)) s'.run s'.start s'.free ((q : Int) + 1) g.block g.high g.low g.rise g.fall g.lead g.longest =
      earshotref02_Segments.l0 k'' l closed (out ++ (proc g s E).2.toList) (decide ((proc g s E).1.state = 1)) (proc g s E).1.run (proc g s E).1.start (proc g s E).1.free ((q + 1 : Nat) : Int) g.block g.high g.low g.rise g.fall g.lead g.longest := by
    intro k' o s' hp ho2 hk'
    refine ⟨k', hk', ?_⟩
    rw [hp, nq]
    congr 1
    congr 1
    match o, ho2 with
    | [], _ => rfl
    | [x], _ => rfl
  rcases st with h0 | h1
  · rw [decide_eq_false (show ¬ s.state = 1 by omega), if_neg (show ¬ (false : Bool) = true by decide)]
    by_cases c1 : E < g.high * g.block
    · rw [if_pos c1, if_neg (show ¬ 0 = g.rise by omega)]
      have := fin (k + 1) [] { s with blocks := s.blocks + 1, run := 0 } (by unfold proc nextRun; rw [if_pos h0, decide_eq_false (show ¬ g.high * g.block ≤ E by omega)]; simp [show ¬ 0 = g.rise by omega]) (by simp) (by omega)
      rw [List.append_nil] at this
      rw [show (false : Bool) = decide (s.state = 1) from (decide_eq_false (show ¬ s.state = 1 by omega)).symm]
      exact this
    · rw [if_neg c1, w64 (x := s.run + 1) (by omega) (by omega)]
      by_cases c2 : s.run + 1 = g.rise
      · rw [if_pos c2, w64 (x := (q : Int) - g.rise) (by omega) (by omega), w64 (x := (q : Int) - g.rise + 1) (by omega) (by omega), w64 (x := (q : Int) - g.rise + 1 - g.lead) (by omega) (by omega), mxmax]
        have := fin (k + 1) [] { state := 1, blocks := s.blocks + 1, run := 0, start := max (s.blocks - g.rise + 1 - g.lead) s.free, free := s.free } (by unfold proc nextRun; rw [if_pos h0, decide_eq_true (show g.high * g.block ≤ E by omega), if_pos rfl, if_pos c2]; rfl) (by simp) (by omega)
        rw [List.append_nil, hs] at this
        exact this
      · rw [if_neg c2]
        have := fin (k + 1) [] { s with blocks := s.blocks + 1, run := s.run + 1 } (by unfold proc nextRun; rw [if_pos h0, decide_eq_true (show g.high * g.block ≤ E by omega), if_pos rfl, if_neg c2]; rfl) (by simp) (by omega)
        rw [List.append_nil] at this
        rw [show (false : Bool) = decide (s.state = 1) from (decide_eq_false (show ¬ s.state = 1 by omega)).symm]
        exact this
  · rw [decide_eq_true h1, if_pos rfl]
    have hns : ¬ s.state = 0 := by omega
    have j1 : ∀ run' : Int, 0 ≤ run' → run' ≤ s.run + 1 → nextRun s.run (decide (E < g.low * g.block)) = run' → ∃ k'', k ≤ k'' ∧ earshotref02_Segments.j1 (k + 1) l closed out true run' s.start s.free (q : Int) g.block g.high g.low g.rise g.fall g.lead g.longest =
      earshotref02_Segments.l0 k'' l closed (out ++ (proc g s E).2.toList) (decide ((proc g s E).1.state = 1)) (proc g s E).1.run (proc g s E).1.start (proc g s E).1.free ((q + 1 : Nat) : Int) g.block g.high g.low g.rise g.fall g.lead g.longest := by
      intro run' r0 r1 hr
      have hol : out.length < 8796093022208 := by omega
      rw [earshotref02_Segments.j1, w64 (x := (q : Int) - g.fall) (by omega) (by omega), w64 (x := (q : Int) - g.fall + 1) (by omega) (by omega), w64 (x := (q : Int) + 1) (by omega) (by omega), w64 (x := (q : Int) + 1 - s.start) (by omega) (by omega), w64 (x := s.start * g.block) (by omega) (by omega), w64 (x := ((q : Int) + 1) * g.block) (by omega) (by omega)]
      by_cases c1 : run' = g.fall
      · have pf := mul_in (show 0 ≤ (q : Int) - g.fall + 1 by omega) (show (q : Int) - g.fall + 1 ≤ 4294967296 by omega) (show 0 ≤ g.block by omega) gb2
        rw [if_pos c1, if_pos (show (q : Int) - g.fall + 1 ≥ 0 by omega), if_pos hol, w64 (x := ((q : Int) - g.fall + 1) * g.block) (by omega) (by omega)]
        have := fin k [⟨s.start * g.block, (s.blocks - g.fall + 1) * g.block⟩] { state := 0, blocks := s.blocks + 1, run := 0, start := s.start, free := s.blocks - g.fall + 1 } (by unfold proc; rw [if_neg hns, if_pos (hr.trans c1)]; rfl) (by simp) (by omega)
        rw [hs] at this
        exact this
      · rw [if_neg c1]
        by_cases c2 : (q : Int) + 1 - s.start = g.longest
        · rw [if_pos c2, if_pos (show (q : Int) + 1 ≥ 0 by omega), if_pos hol]
          have := fin k [⟨s.start * g.block, (s.blocks + 1) * g.block⟩] { state := 0, blocks := s.blocks + 1, run := 0, start := s.start, free := s.blocks + 1 } (by unfold proc; rw [if_neg hns, if_neg (by rw [hr]; exact c1), if_pos (by omega)]; rfl) (by simp) (by omega)
          rw [hs] at this
          exact this
        · rw [if_neg c2, if_neg (show ¬ (-1 : Int) ≥ 0 by decide)]
          have := fin k [] { s with blocks := s.blocks + 1, run := run' } (by unfold proc; rw [if_neg hns, if_neg (by rw [hr]; exact c1), if_neg (by omega), hr]; rfl) (by simp) (by omega)
          rw [List.append_nil] at this
          rw [show (true : Bool) = decide (s.state = 1) from (decide_eq_true h1).symm]
          exact this
    by_cases c1 : E ≥ g.low * g.block
    · rw [if_pos c1]
      exact j1 0 (by omega) (by omega) (by unfold nextRun; rw [decide_eq_false (show ¬ E < g.low * g.block by omega)]; rfl)
    · rw [if_neg c1, w64 (x := s.run + 1) (by omega) (by omega)]
      exact j1 (s.run + 1) (by omega) (by omega) (by unfold nextRun; rw [decide_eq_true (show E < g.low * g.block by omega)]; rfl)
theorem seg_l0 (g : Gt) (hg : gateOK g = true) (l : List Int) (hl : l.length ≤ 200000) (hv : ∀ v ∈ l, -32768 ≤ v ∧ v ≤ 32767) (closed : Bool) (B : Nat) (hB : g.block = (B : Int)) : ∀ (d k q : Nat) (s : Ls) (out : List S65), q + d = l.length / B → 2 * d + 5 + l.length ≤ k → Inv s → s.blocks = q → out.length ≤ q →
    earshotref02_Segments.l0 k l closed out (decide (s.state = 1)) s.run s.start s.free q g.block g.high g.low g.rise g.fall g.lead g.longest =
      some (out ++ (runBlocks g d s (l.drop (q * B))).2 ++ (if closed = true ∧ (runBlocks g d s (l.drop (q * B))).1.state = 1 then [(⟨(runBlocks g d s (l.drop (q * B))).1.start * g.block, l.length⟩ : S65)] else []), decide ((runBlocks g d s (l.drop (q * B))).1.state = 1)) := by
  obtain ⟨gb1, gb2, _⟩ := gate_ok hg
  have hB1 : 1 ≤ B := by omega
  intro d
  induction d with
  | zero =>
    intro k q s out h1 h2 hi hs ho
    obtain ⟨k, rfl⟩ : ∃ m, k = m + 1 := ⟨k - 1, by omega⟩
    have hqB : q * B ≤ l.length := by
      rw [show q = l.length / B by omega]
      exact Nat.div_mul_le_self _ _
    have hqB2 : l.length < (q + 1) * B := by
      rw [show q = l.length / B by omega, Nat.mul_comm]
      exact Nat.lt_mul_div_succ _ (by omega)
    have hq1 : q ≤ 200000 := by
      have h : q * 1 ≤ q * B := Nat.mul_le_mul_left _ (by omega)
      omega
    have hadd : (q + 1) * B = q * B + B := by rw [Nat.add_mul, Nat.one_mul]
    have e1 : wrap64 (wrap64 ((q : Int) + 1) * g.block) = (((q + 1) * B : Nat) : Int) := by
      rw [w64 (x := (q : Int) + 1) (by omega) (by omega), hB, show ((q : Int) + 1) * (B : Int) = (((q + 1) * B : Nat) : Int) by push_cast; rfl]
      generalize (q + 1) * B = z at *
      generalize q * B = y at *
      exact w64 (by omega) (by omega)
    have E1 := Aside0.mk e1
    clear e1
    have i3 := hi.start0
    have i4 := hi.start1
    have ps := mul_in i3 (show s.start ≤ 4294967296 by omega) (show 0 ≤ g.block by omega) gb2
    have hol : out.length < 8796093022208 := by omega
    rw [earshotref02_Segments.l0, E1.out, if_neg (show ¬ (((q + 1) * B : Nat) : Int) ≤ (l.length : Int) by omega), w64 (x := s.start * g.block) (by omega) (by omega)]
    have hrb : runBlocks g 0 s (l.drop (q * B)) = (s, []) := rfl
    rw [hrb, List.append_nil]
    cases closed with
    | false => simp
    | true =>
      rw [if_pos rfl]
      by_cases h : s.state = 1
      · rw [decide_eq_true h, if_pos rfl, if_pos hol, if_pos ⟨rfl, h⟩]
      · rw [decide_eq_false h, if_neg (by decide), if_neg (fun e => h e.2), List.append_nil]
  | succ d ih =>
    intro k q s out h1 h2 hi hs ho
    obtain ⟨k, rfl⟩ : ∃ m, k = m + 1 + 1 := ⟨k - 2, by omega⟩
    have hq : (q + 1) * B ≤ l.length := by
      have h : (q + 1) * B ≤ l.length / B * B := Nat.mul_le_mul_right _ (by omega)
      have := Nat.div_mul_le_self l.length B
      omega
    obtain ⟨k', hk', hstep⟩ := seg_step g hg l hl hv closed B q hB hq s hi hs out ho k (by omega)
    have hpi := proc_inv hg hi (sumsq ((l.drop (q * B)).take B))
    have hlen : (proc g s (sumsq ((l.drop (q * B)).take B))).2.toList.length ≤ 1 := by cases (proc g s (sumsq ((l.drop (q * B)).take B))).2 <;> simp
    have := ih k' (q + 1) (proc g s (sumsq ((l.drop (q * B)).take B))).1 (out ++ (proc g s (sumsq ((l.drop (q * B)).take B))).2.toList) (by omega) (by omega) hpi.1 (by rw [hpi.2, hs]; omega) (by rw [List.length_append]; omega)
    rw [hstep, this]
    have hBn : g.block.toNat = B := by omega
    have e : l.drop ((q + 1) * B) = (l.drop (q * B)).drop B := by rw [List.drop_drop, Nat.add_mul, Nat.one_mul]
    rw [e, runBlocks_succ, hBn, List.append_assoc out]
theorem Segments_eq (g : Gt) (hg : gateOK g = true) (l : List Int) (hl : l.length ≤ 200000) (hv : ∀ v ∈ l, -32768 ≤ v ∧ v ≤ 32767) (closed : Bool) (k : Nat) (hk : 3 * l.length + 5 ≤ k) :
    earshotref02_Segments.f k l g.block g.high g.low g.rise g.fall g.lead g.longest closed = some ((runBlocks g (l.length / g.block.toNat) ls0 l).2 ++ (if closed = true ∧ (runBlocks g (l.length / g.block.toNat) ls0 l).1.state = 1 then [(⟨(runBlocks g (l.length / g.block.toNat) ls0 l).1.start * g.block, l.length⟩ : S65)] else []), decide ((runBlocks g (l.length / g.block.toNat) ls0 l).1.state = 1)) := by
  obtain ⟨gb1, gb2, _⟩ := gate_ok hg
  obtain ⟨B, hB⟩ := Int.eq_ofNat_of_zero_le (show 0 ≤ g.block by omega)
  have hBn : g.block.toNat = B := by omega
  have hd : l.length / B ≤ l.length := Nat.div_le_self _ _
  have := seg_l0 g hg l hl hv closed B hB (l.length / B) k 0 ls0 [] (by omega) (by omega) inv0 rfl (by simp)
  rw [hBn]
  rw [Nat.zero_mul, List.drop_zero, List.nil_append] at this
  unfold earshotref02_Segments.f
  exact this
end Go.Proofs.Ytigbfcodnbnicaa.P
