/- The law of order over plain numbers: segments come one after the other, are not empty, not too long, and lie within the samples; loud samples are speech from the first one on. For every list and gate. -/
import Derived.Test.YtigbfcodnbnicaaQSegs
import Derived.Test.YtigbfcodnbnicaaQKnown
import Derived.Test.YtigbfcodnbnicaaXF10
set_option linter.unusedVariables false
set_option linter.unusedSimpArgs false
namespace Go.Proofs.Ytigbfcodnbnicaa.Pure
open Go.RowKit Go.Proofs.Ytigbfcodnbnicaa.P Go.Proofs.YtigbfcodnbnicaaW.PrintWords Go.Proofs.YtigbfcodnbnicaaW.PrintLast Go.Proofs.YtigbfcodnbnicaaW.PrintMore

/-- What the law asks of segments behind a place. -/
def okS (B n lg : Int) : Int → List S65 → Prop
  | _, [] => True
  | last, s :: t => last ≤ s.f0 ∧ s.f0 < s.f1 ∧ s.f1 ≤ n ∧ s.f0 % B = 0 ∧ s.f1 - s.f0 < (lg + 1) * B ∧ 0 ≤ s.f0 ∧ okS B n lg s.f1 t
/-- What holds between two blocks, beside Inv. -/
structure Inv2 (g : Gt) (s : Ls) : Prop where
  wait : s.state = 0 → s.free + s.run ≤ s.blocks
  speak : s.state = 1 → s.free ≤ s.start ∧ s.start + s.run + 1 ≤ s.blocks ∧ s.blocks - s.start < g.longest
def shut (g : Gt) (n : Int) (s : Ls) : List S65 := if s.state = 1 then [⟨s.start * g.block, n⟩] else []
theorem mulB {x y B : Int} (hB : 1 ≤ B) (h : x ≤ y) : x * B ≤ y * B := Int.mul_le_mul_of_nonneg_right h (by omega)
theorem proc_inv2 {g : Gt} {s : Ls} (hg : gateOK g = true) (h : Inv s) (h2 : Inv2 g s) (E : Int) : Inv2 g (proc g s E).1 := by
  obtain ⟨gb1, gb2, gl1, gl2, gh1, gr1, gr2, gf1, gf2, gd1, gd2, gn1, gn2⟩ := gate_ok hg
  obtain ⟨st, i1, i2, i3, i4, i5, i6⟩ := h
  obtain ⟨hw, hs⟩ := h2
  unfold proc
  by_cases c0 : s.state = 0
  · have hw := hw c0
    rw [if_pos c0]
    by_cases c1 : nextRun s.run (decide (g.high * g.block ≤ E)) = g.rise
    · have hr := nextRun_bd (goes := decide (g.high * g.block ≤ E)) i1
      rw [if_pos c1]
      refine ⟨fun e => absurd e (show ¬ (1 : Int) = 0 by decide), fun _ => ?_⟩
      show s.free ≤ max (s.blocks - g.rise + 1 - g.lead) s.free ∧ max (s.blocks - g.rise + 1 - g.lead) s.free + 0 + 1 ≤ s.blocks + 1 ∧ s.blocks + 1 - max (s.blocks - g.rise + 1 - g.lead) s.free < g.longest
      omega
    · have hr := nextRun_bd (goes := decide (g.high * g.block ≤ E)) i1
      rw [if_neg c1]
      refine ⟨fun _ => ?_, fun e => absurd (c0.symm.trans e) (show ¬ (0 : Int) = 1 by decide)⟩
      show s.free + nextRun s.run (decide (g.high * g.block ≤ E)) ≤ s.blocks + 1
      omega
  · have c1 : s.state = 1 := by omega
    have hs := hs c1
    have hr := nextRun_bd (goes := decide (E < g.low * g.block)) i1
    rw [if_neg c0]
    by_cases c2 : nextRun s.run (decide (E < g.low * g.block)) = g.fall
    · rw [if_pos c2]
      refine ⟨fun _ => ?_, fun e => absurd e (show ¬ (0 : Int) = 1 by decide)⟩
      show s.blocks - g.fall + 1 + 0 ≤ s.blocks + 1
      omega
    · rw [if_neg c2]
      by_cases c3 : s.blocks - s.start + 1 = g.longest
      · rw [if_pos c3]
        refine ⟨fun _ => ?_, fun e => absurd e (show ¬ (0 : Int) = 1 by decide)⟩
        show s.blocks + 1 + 0 ≤ s.blocks + 1
        omega
      · rw [if_neg c3]
        refine ⟨fun e => absurd (c1.symm.trans e) (show ¬ (1 : Int) = 0 by decide), fun _ => ?_⟩
        show s.free ≤ s.start ∧ s.start + nextRun s.run (decide (E < g.low * g.block)) + 1 ≤ s.blocks + 1 ∧ s.blocks + 1 - s.start < g.longest
        omega
/-- What a block adds: nothing, or a segment that ends where the listener is free. -/
theorem proc_out {g : Gt} {s : Ls} (hg : gateOK g = true) (h : Inv s) (h2 : Inv2 g s) (E : Int) :
    ((proc g s E).2 = none ∧ (proc g s E).1.free = s.free) ∨ ((proc g s E).2 = some ⟨s.start * g.block, (proc g s E).1.free * g.block⟩ ∧ s.free ≤ s.start ∧ s.start + 1 ≤ (proc g s E).1.free ∧ (proc g s E).1.free - s.start ≤ g.longest ∧ (proc g s E).1.free ≤ s.blocks + 1) := by
  obtain ⟨gb1, gb2, gl1, gl2, gh1, gr1, gr2, gf1, gf2, gd1, gd2, gn1, gn2⟩ := gate_ok hg
  obtain ⟨st, i1, i2, i3, i4, i5, i6⟩ := h
  obtain ⟨hw, hs⟩ := h2
  unfold proc
  by_cases c0 : s.state = 0
  · rw [if_pos c0]
    by_cases c1 : nextRun s.run (decide (g.high * g.block ≤ E)) = g.rise
    · rw [if_pos c1]; exact .inl ⟨rfl, rfl⟩
    · rw [if_neg c1]; exact .inl ⟨rfl, rfl⟩
  · have hs := hs (by omega)
    have hr := nextRun_bd (goes := decide (E < g.low * g.block)) i1
    rw [if_neg c0]
    by_cases c2 : nextRun s.run (decide (E < g.low * g.block)) = g.fall
    · rw [if_pos c2]
      refine .inr ⟨rfl, ?_⟩
      show s.free ≤ s.start ∧ s.start + 1 ≤ s.blocks - g.fall + 1 ∧ s.blocks - g.fall + 1 - s.start ≤ g.longest ∧ s.blocks - g.fall + 1 ≤ s.blocks + 1
      omega
    · rw [if_neg c2]
      by_cases c3 : s.blocks - s.start + 1 = g.longest
      · rw [if_pos c3]
        refine .inr ⟨rfl, ?_⟩
        show s.free ≤ s.start ∧ s.start + 1 ≤ s.blocks + 1 ∧ s.blocks + 1 - s.start ≤ g.longest ∧ s.blocks + 1 ≤ s.blocks + 1
        omega
      · rw [if_neg c3]; exact .inl ⟨rfl, rfl⟩
theorem segs_ok (g : Gt) (hg : gateOK g = true) (n : Int) : ∀ (d : Nat) (s : Ls) (r : List Int), Inv s → Inv2 g s → (s.blocks + d) * g.block ≤ n → n < (s.blocks + d + 1) * g.block →
    okS g.block n g.longest (s.free * g.block) ((runBlocks g d s r).2 ++ shut g n (runBlocks g d s r).1)
  | 0, s, r, hi, h2, n1, n2 => by
    obtain ⟨gb1, gb2, gl1, gl2, gh1, gr1, gr2, gf1, gf2, gd1, gd2, gn1, gn2⟩ := gate_ok hg
    have e : runBlocks g 0 s r = (s, []) := rfl
    rw [e, List.nil_append]
    unfold shut
    by_cases h : s.state = 1
    · obtain ⟨a1, a2, a3⟩ := h2.speak h
      have i0 := hi.start0
      have i1 := hi.run0
      rw [if_pos h]
      have m1 := mulB gb1 a1
      have m2 := mulB gb1 (show s.start + 1 ≤ s.blocks + ((0 : Nat) : Int) by omega)
      have m3 := mulB gb1 (show s.blocks + ((0 : Nat) : Int) + 1 ≤ s.start + g.longest by omega)
      rw [Int.add_mul, Int.one_mul] at m2
      rw [Int.add_mul s.start] at m3
      have m4 : (g.longest + 1) * g.block = g.longest * g.block + g.block := by rw [Int.add_mul, Int.one_mul]
      refine ⟨m1, by show s.start * g.block < n; omega, Int.le_refl n, Int.mul_emod_left _ _, by show n - s.start * g.block < _; omega, Int.mul_nonneg i0 (by omega), trivial⟩
    · rw [if_neg h]; trivial
  | d + 1, s, r, hi, h2, n1, n2 => by
    obtain ⟨gb1, gb2, gl1, gl2, gh1, gr1, gr2, gf1, gf2, gd1, gd2, gn1, gn2⟩ := gate_ok hg
    rw [runBlocks_succ]
    generalize sumsq (r.take g.block.toNat) = E
    have hpi := proc_inv hg hi E
    have hp2 := proc_inv2 hg hi h2 E
    have ho := proc_out hg hi h2 E
    have i0 := hi.start0
    have ih := segs_ok g hg n d (proc g s E).1 (r.drop g.block.toNat) hpi.1 hp2 (by rw [hpi.2]; rw [show s.blocks + 1 + (d : Int) = s.blocks + ((d + 1 : Nat) : Int) by omega]; exact n1) (by rw [hpi.2]; rw [show s.blocks + 1 + (d : Int) = s.blocks + ((d + 1 : Nat) : Int) by omega]; exact n2)
    rcases ho with ⟨h1, h3⟩ | ⟨h1, h3, h4, h5, h6⟩
    · rw [h1]
      rw [h3] at ih
      exact ih
    · rw [h1]
      have m1 := mulB gb1 h3
      have m2 := mulB gb1 h4
      have m3 := mulB gb1 (show (proc g s E).1.free ≤ s.start + g.longest by omega)
      have m5 := mulB gb1 (show (proc g s E).1.free ≤ s.blocks + ((d + 1 : Nat) : Int) by omega)
      rw [Int.add_mul, Int.one_mul] at m2
      rw [Int.add_mul s.start] at m3
      have m4 : (g.longest + 1) * g.block = g.longest * g.block + g.block := by rw [Int.add_mul, Int.one_mul]
      refine ⟨m1, by show s.start * g.block < (proc g s E).1.free * g.block; omega, by show (proc g s E).1.free * g.block ≤ n; omega, Int.mul_emod_left _ _, by show (proc g s E).1.free * g.block - s.start * g.block < _; omega, Int.mul_nonneg i0 (by omega), ih⟩
/-! ### loud samples -/
theorem sumsq_loud {h : Int} {l : List Int} (hl : ∀ v ∈ l, h ≤ v * v) : h * l.length ≤ sumsq l := by
  induction l with
  | nil => simp [sumsq]
  | cons x t ih =>
    have h1 := ih (fun v hv => hl v (List.mem_cons_of_mem _ hv))
    have h2 := hl x List.mem_cons_self
    rw [sumsq_cons, List.length_cons]
    have : h * ((t.length + 1 : Nat) : Int) = h * t.length + h := by push_cast; rw [Int.mul_add, Int.mul_one]
    omega
theorem block_loud (g : Gt) (gb1 : 1 ≤ g.block) {r : List Int} (hr : ∀ v ∈ r, g.high ≤ v * v) (hl : g.block.toNat ≤ r.length) : g.high * g.block ≤ sumsq (r.take g.block.toNat) := by
  have := sumsq_loud (l := r.take g.block.toNat) (fun v hv => hr v (List.mem_of_mem_take hv))
  rw [List.length_take, Nat.min_eq_left hl] at this
  rw [show ((g.block.toNat : Nat) : Int) = g.block by omega] at this
  exact this
/-- The first segment begins with the first sample. -/
def first0 : List S65 → Prop
  | [] => False
  | s :: _ => s.f0 = 0
theorem loud_speak (g : Gt) (hg : gateOK g = true) (n : Int) : ∀ (d : Nat) (s : Ls) (r : List Int), s.state = 1 → s.start = 0 → (∀ v ∈ r, g.high ≤ v * v) → d * g.block.toNat ≤ r.length → first0 ((runBlocks g d s r).2 ++ shut g n (runBlocks g d s r).1)
  | 0, s, r, h1, h2, hr, hd => by
    have e : runBlocks g 0 s r = (s, []) := rfl
    rw [e, List.nil_append]
    unfold shut
    rw [if_pos h1, h2]
    exact Int.zero_mul _
  | d + 1, s, r, h1, h2, hr, hd => by
    obtain ⟨gb1, gb2, gl1, gl2, gh1, gr1, gr2, gf1, gf2, gd1, gd2, gn1, gn2⟩ := gate_ok hg
    have hadd : (d + 1) * g.block.toNat = d * g.block.toNat + g.block.toNat := by rw [Nat.add_mul, Nat.one_mul]
    have hE := block_loud g gb1 hr (by omega)
    have hm : g.low * g.block ≤ g.high * g.block := mulB gb1 gl2
    rw [runBlocks_succ]
    generalize sumsq (r.take g.block.toNat) = E at *
    have hn : nextRun s.run (decide (E < g.low * g.block)) = 0 := by unfold nextRun; rw [decide_eq_false (show ¬ E < g.low * g.block by omega)]; rfl
    have ih := loud_speak g hg n d (proc g s E).1 (r.drop g.block.toNat)
    by_cases c : s.blocks - s.start + 1 = g.longest
    · have hp : proc g s E = ({ state := 0, blocks := s.blocks + 1, run := 0, start := s.start, free := s.blocks + 1 }, some ⟨s.start * g.block, (s.blocks + 1) * g.block⟩) := by
        unfold proc
        rw [if_neg (show ¬ s.state = 0 by omega), if_neg (show ¬ nextRun s.run (decide (E < g.low * g.block)) = g.fall by omega), if_pos c]
      rw [hp]
      show s.start * g.block = 0
      rw [h2]
      exact Int.zero_mul _
    · have hp : proc g s E = ({ s with blocks := s.blocks + 1, run := 0 }, none) := by
        unfold proc
        rw [if_neg (show ¬ s.state = 0 by omega), if_neg (show ¬ nextRun s.run (decide (E < g.low * g.block)) = g.fall by omega), if_neg c, hn]
      rw [hp] at ih ⊢
      exact ih h1 h2 (fun v hv => hr v (List.mem_of_mem_drop hv)) (by rw [List.length_drop]; omega)
theorem loud_wait (g : Gt) (hg : gateOK g = true) (n : Int) : ∀ (d : Nat) (s : Ls) (r : List Int), s.state = 0 → s.free = 0 → s.run = s.blocks → 0 ≤ s.run → s.run < g.rise → g.rise ≤ s.run + d → (∀ v ∈ r, g.high ≤ v * v) → d * g.block.toNat ≤ r.length → first0 ((runBlocks g d s r).2 ++ shut g n (runBlocks g d s r).1)
  | 0, s, r, h1, h2, h3, h4, h5, h6, hr, hd => by omega
  | d + 1, s, r, h1, h2, h3, h4, h5, h6, hr, hd => by
    obtain ⟨gb1, gb2, gl1, gl2, gh1, gr1, gr2, gf1, gf2, gd1, gd2, gn1, gn2⟩ := gate_ok hg
    have hadd : (d + 1) * g.block.toNat = d * g.block.toNat + g.block.toNat := by rw [Nat.add_mul, Nat.one_mul]
    have hE := block_loud g gb1 hr (by omega)
    rw [runBlocks_succ]
    generalize sumsq (r.take g.block.toNat) = E at *
    have hn : nextRun s.run (decide (g.high * g.block ≤ E)) = s.run + 1 := by unfold nextRun; rw [decide_eq_true hE]; rfl
    have hr' : ∀ v ∈ r.drop g.block.toNat, g.high ≤ v * v := fun v hv => hr v (List.mem_of_mem_drop hv)
    have hd' : d * g.block.toNat ≤ (r.drop g.block.toNat).length := by rw [List.length_drop]; omega
    by_cases c : s.run + 1 = g.rise
    · have hp : proc g s E = ({ state := 1, blocks := s.blocks + 1, run := 0, start := max (s.blocks - g.rise + 1 - g.lead) s.free, free := s.free }, none) := by
        unfold proc
        rw [if_pos h1, if_pos (by rw [hn]; exact c)]
      rw [hp]
      exact loud_speak g hg n d _ _ rfl (by show max (s.blocks - g.rise + 1 - g.lead) s.free = 0; omega) hr' hd'
    · have hp : proc g s E = ({ s with blocks := s.blocks + 1, run := s.run + 1 }, none) := by
        unfold proc
        rw [if_pos h1, if_neg (by rw [hn]; exact c), hn]
      rw [hp]
      exact loud_wait g hg n d _ _ h1 h2 (by show s.run + 1 = s.blocks + 1; omega) (by show 0 ≤ s.run + 1; omega) (by show s.run + 1 < g.rise; omega) (by show g.rise ≤ s.run + 1 + d; omega) hr' hd'
/-! ### the law -/
theorem rdS (x : S65) (t : List S65) (l : List S65) (i : Nat) (h : l.drop i = x :: t) : rd_T65 l i = x ∧ i < l.length ∧ l.drop (i + 1) = t := by
  have hi : i < l.length := by
    rcases Nat.lt_or_ge i l.length with h1 | h1
    · exact h1
    · rw [List.drop_eq_nil_of_le h1] at h; exact absurd h (by simp)
  rw [List.drop_eq_getElem_cons hi] at h
  obtain ⟨h1, h2⟩ := List.cons.inj h
  refine ⟨?_, hi, h2⟩
  unfold rd_T65
  simp [hi, h1]
theorem order_l1 (g : Gt) (hg : gateOK g = true) (l : List Int) (hl : l.length ≤ 3000) (hv : ∀ v ∈ l, -32768 ≤ v ∧ v ≤ 32767) (S : List S65) (hS : g.rise * g.block ≤ l.length → (∀ v ∈ l, g.high ≤ v * v) → first0 S) :
    ∀ (d k i : Nat) (loud : Bool), i + d = l.length → d + 45 ≤ k → (loud = true → g.rise * g.block ≤ l.length ∧ ∀ j, j < i → g.high ≤ l.getD j 0 * l.getD j 0) → earshotlaw02_WaveOrder.l1 k l S loud i g.block g.high g.low g.rise g.fall g.lead g.longest = some true := by
  intro d
  induction d with
  | zero =>
    intro k i loud h1 h2 hp
    obtain ⟨k, rfl⟩ : ∃ m, k = m + 1 := ⟨k - 1, by omega⟩
    rw [earshotlaw02_WaveOrder.l1, if_neg (show ¬ (i : Int) < (l.length : Int) by omega)]
    cases loud with
    | false => rw [if_neg (by decide), known_k k (by omega)]; rfl
    | true =>
      obtain ⟨hr, hall⟩ := hp rfl
      have hf := hS hr (by
        intro v hv
        obtain ⟨j, hj, rfl⟩ := List.getElem_of_mem hv
        have := hall j (by omega)
        simpa [hj] using this)
      cases S with
      | nil => exact absurd hf (by simp [first0])
      | cons x t =>
        have e : (rd_T65 (x :: t) 0).f0 = 0 := hf
        rw [if_pos rfl, if_pos (show ((x :: t).length : Int) > 0 by simp), if_pos (show 0 < ((x :: t).length : Int) by simp), if_pos e, known_k k (by omega)]; rfl
  | succ d ih =>
    intro k i loud h1 h2 hp
    obtain ⟨k, rfl⟩ : ∃ m, k = m + 1 := ⟨k - 1, by omega⟩
    have hi : i < l.length := by omega
    have e1 : rd l (i : Int) = l.getD i 0 := by simp [rd]
    have hb := getD_bd hv i hi
    have hq : 0 ≤ l.getD i 0 * l.getD i 0 ∧ l.getD i 0 * l.getD i 0 ≤ 4294967296 := by
      have := sumsq_bd (l := [l.getD i 0]) (fun v hv => by obtain rfl := List.mem_singleton.mp hv; omega)
      simp [sumsq] at this
      simpa using this
    rw [earshotlaw02_WaveOrder.l1, if_pos (show (i : Int) < (l.length : Int) by omega), w64 (x := (i : Int) + 1) (by omega) (by omega), show (i : Int) + 1 = ((i + 1 : Nat) : Int) by omega]
    cases loud with
    | false =>
      rw [if_neg (by decide)]
      exact ih k (i + 1) false (by omega) (by omega) (fun h => absurd h (by decide))
    | true =>
      obtain ⟨hr, hall⟩ := hp rfl
      rw [if_pos rfl, if_pos (show 0 ≤ (i : Int) by omega), e1, w64 (x := l.getD i 0 * l.getD i 0) (by omega) (by omega)]
      refine ih k (i + 1) _ (by omega) (by omega) (fun h => ⟨hr, ?_⟩)
      intro j hj
      rcases Nat.lt_or_ge j i with h9 | h9
      · exact hall j h9
      · obtain rfl : j = i := by omega
        exact of_decide_eq_true h
theorem order_l0 (g : Gt) (hg : gateOK g = true) (l : List Int) (hl : l.length ≤ 3000) (hv : ∀ v ∈ l, -32768 ≤ v ∧ v ≤ 32767) (S : List S65) (hlen : S.length ≤ 3001) (hS : g.rise * g.block ≤ l.length → (∀ v ∈ l, g.high ≤ v * v) → first0 S) :
    ∀ (d k i : Nat) (last : Int), i + d = S.length → d + 3050 ≤ k → okS g.block l.length g.longest last (S.drop i) → earshotlaw02_WaveOrder.l0 k l S last i g.block g.high g.low g.rise g.fall g.lead g.longest = some true := by
  obtain ⟨gb1, gb2, gl1, gl2, gh1, gr1, gr2, gf1, gf2, gd1, gd2, gn1, gn2⟩ := gate_ok hg
  have pr := mul_in (show 0 ≤ g.rise by omega) gr2 (show 0 ≤ g.block by omega) gb2
  have pl := mul_in (show 0 ≤ g.longest + 1 by omega) (show g.longest + 1 ≤ 100001 by omega) (show 0 ≤ g.block by omega) gb2
  intro d
  induction d with
  | zero =>
    intro k i last h1 h2 hok
    obtain ⟨k, rfl⟩ : ∃ m, k = m + 1 := ⟨k - 1, by omega⟩
    rw [earshotlaw02_WaveOrder.l0, if_neg (show ¬ (i : Int) < (S.length : Int) by omega), w64 (x := g.rise * g.block) (by omega) (by omega)]
    exact order_l1 g hg l hl hv S hS l.length k 0 _ (by omega) (by omega) (fun h => ⟨of_decide_eq_true h, fun j hj => absurd hj (Nat.not_lt_zero _)⟩)
  | succ d ih =>
    intro k i last h1 h2 hok
    obtain ⟨k, rfl⟩ : ∃ m, k = m + 1 := ⟨k - 1, by omega⟩
    cases hd : S.drop i with
    | nil =>
      have := congrArg List.length hd
      rw [List.length_drop] at this
      simp at this
      omega
    | cons x t =>
      obtain ⟨e1, hi, e2⟩ := rdS x t S i hd
      rw [hd] at hok
      obtain ⟨o1, o2, o3, o4, o5, o6, o7⟩ := hok
      have et : Int.tmod x.f0 g.block = 0 := by rw [Int.tmod_eq_emod_of_nonneg o6]; exact o4
      rw [earshotlaw02_WaveOrder.l0, e1, if_pos (show (i : Int) < (S.length : Int) by omega), if_pos (show 0 ≤ (i : Int) by omega), if_neg (show ¬ x.f0 < last by omega), if_neg (show ¬ x.f1 ≤ x.f0 by omega), if_neg (show ¬ x.f1 > (l.length : Int) by omega), if_neg (show ¬ g.block = 0 by omega), if_pos et,
        w64 (x := x.f1 - x.f0) (by omega) (by omega), w64 (x := g.longest + 1) (by omega) (by omega), w64 (x := (g.longest + 1) * g.block) (by omega) (by omega), if_neg (show ¬ x.f1 - x.f0 ≥ (g.longest + 1) * g.block by omega), w64 (x := (i : Int) + 1) (by omega) (by omega), show (i : Int) + 1 = ((i + 1 : Nat) : Int) by omega]
      exact ih k (i + 1) x.f1 (by omega) (by omega) (by rw [e2]; exact o7)
theorem segs_count (g : Gt) : ∀ (q : Nat) (s : Ls) (r : List Int), (runBlocks g q s r).2.length ≤ q
  | 0, _, _ => by simp [runBlocks]
  | q + 1, s, r => by
    have := segs_count g q (proc g s (sumsq (r.take g.block.toNat))).1 (r.drop g.block.toNat)
    rw [runBlocks_succ]
    have h : (proc g s (sumsq (r.take g.block.toNat))).2.toList.length ≤ 1 := by cases (proc g s (sumsq (r.take g.block.toNat))).2 <;> simp
    simp only [List.length_append]
    omega
theorem WaveOrder (l : List Int) (a0 a1 a2 a3 a4 a5 a6 : Int) (hm : l.length ≤ maxLen) (hw : ∀ x ∈ l, (Lit.int .i64 x).wf = true) (w0 : (Lit.int .i64 a0).wf = true) (w1 : (Lit.int .i64 a1).wf = true) (w2 : (Lit.int .i64 a2).wf = true) (w3 : (Lit.int .i64 a3).wf = true) (w4 : (Lit.int .i64 a4).wf = true) (w5 : (Lit.int .i64 a5).wf = true) (w6 : (Lit.int .i64 a6).wf = true) :
    ∃ k, earshotlaw02_WaveOrder.f k l a0 a1 a2 a3 a4 a5 a6 = some true := by
  refine ⟨7000, ?_⟩
  have stop : earshotlaw02_WaveOrder.j0 (6999 + 1) l true a0 a1 a2 a3 a4 a5 a6 = some true := by
    rw [earshotlaw02_WaveOrder.j0, if_pos rfl, known_k 6999 (by omega)]; rfl
  unfold earshotlaw02_WaveOrder.f
  by_cases hl : (l.length : Int) > 3000
  · rw [if_pos hl]; exact stop
  rw [if_neg hl, Gate_eq, Option.bind_some, all_some l _ _ (by omega) _ (by omega)]
  cases hg : gateOK ⟨a0, a1, a2, a3, a4, a5, a6⟩ with
  | false => rw [if_neg (by decide)]; exact stop
  | true =>
    rw [if_pos rfl, Option.bind_some]
    cases hv : inR (-32768) 32767 l with
    | false => exact stop
    | true =>
      obtain ⟨gb1, gb2, gl1, gl2, gh1, gr1, gr2, gf1, gf2, gd1, gd2, gn1, gn2⟩ := gate_ok hg
      obtain ⟨g, hge⟩ : ∃ g : Gt, g = ⟨a0, a1, a2, a3, a4, a5, a6⟩ := ⟨_, rfl⟩
      show earshotlaw02_WaveOrder.j0 (6999 + 1) l (!true) a0 a1 a2 a3 a4 a5 a6 = some true
      rw [earshotlaw02_WaveOrder.j0, if_neg (by decide)]
      unfold wave_Segments.f
      rw [if_neg (show ¬ l.length > 200000 by omega), hg, hv, if_neg (by decide), Option.bind_some, if_pos rfl, ← hge]
      rw [← hge] at hg gb1 gb2 gr1 gr2
      have hB : ((g.block.toNat : Nat) : Int) = g.block := by omega
      have hq := Nat.div_mul_le_self l.length g.block.toNat
      have hq2 : l.length < (l.length / g.block.toNat + 1) * g.block.toNat := by
        rw [Nat.mul_comm]
        exact Nat.lt_mul_div_succ _ (by omega)
      have c1 : (ls0.blocks + ((l.length / g.block.toNat : Nat) : Int)) * g.block ≤ (l.length : Int) := by
        show ((0 : Int) + _) * g.block ≤ _
        rw [Int.zero_add, ← hB]
        simp only [Int.toNat_natCast]
        rw [hB]
        have : (((l.length / g.block.toNat * g.block.toNat : Nat)) : Int) ≤ (l.length : Int) := by omega
        rw [Int.natCast_mul, hB] at this
        exact this
      have c2 : (l.length : Int) < (ls0.blocks + ((l.length / g.block.toNat : Nat) : Int) + 1) * g.block := by
        show _ < ((0 : Int) + _ + 1) * g.block
        rw [Int.zero_add]
        have : (l.length : Int) < (((l.length / g.block.toNat + 1) * g.block.toNat : Nat) : Int) := by omega
        rw [Int.natCast_mul, hB] at this
        exact this
      have hok := segs_ok g hg l.length (l.length / g.block.toNat) ls0 l inv0 ⟨fun _ => by decide, fun e => absurd e (by decide)⟩ c1 c2
      have hso : segsOf g l = (runBlocks g (l.length / g.block.toNat) ls0 l).2 ++ shut g l.length (runBlocks g (l.length / g.block.toNat) ls0 l).1 := rfl
      rw [← hso] at hok
      have hlen : (segsOf g l).length ≤ 3001 := by
        have h1 := segs_count g (l.length / g.block.toNat) ls0 l
        have h2 : l.length / g.block.toNat ≤ l.length := Nat.div_le_self _ _
        rw [hso, List.length_append]
        unfold shut
        split
        · simp; omega
        · simp; omega
      have hfirst : g.rise * g.block ≤ (l.length : Int) → (∀ v ∈ l, g.high ≤ v * v) → first0 (segsOf g l) := by
        intro h1 h2
        rw [hso]
        refine loud_wait g hg l.length (l.length / g.block.toNat) ls0 l rfl rfl rfl (Int.le_refl 0) (by show (0 : Int) < g.rise; omega) ?_ h2 (by omega)
        show g.rise ≤ 0 + ((l.length / g.block.toNat : Nat) : Int)
        have h3 : g.rise.toNat ≤ l.length / g.block.toNat := by
          refine (Nat.le_div_iff_mul_le (by omega)).2 ?_
          have h4 : ((g.rise.toNat * g.block.toNat : Nat) : Int) = g.rise * g.block := by rw [Int.natCast_mul, hB, show ((g.rise.toNat : Nat) : Int) = g.rise by omega]
          omega
        omega
      have e0 : a0 = g.block := by rw [hge]
      have e1 : a1 = g.high := by rw [hge]
      have e2 : a2 = g.low := by rw [hge]
      have e3 : a3 = g.rise := by rw [hge]
      have e4 : a4 = g.fall := by rw [hge]
      have e5 : a5 = g.lead := by rw [hge]
      have e6 : a6 = g.longest := by rw [hge]
      rw [e0, e1, e2, e3, e4, e5, e6]
      exact order_l0 g hg l (by omega) (inR_mem hv) (segsOf g l) hlen hfirst (segsOf g l).length 6999 0 0 (by omega) (by omega) (by rw [List.drop_zero]; rw [show ls0.free * g.block = 0 from Int.zero_mul _] at hok; exact hok)
end Go.Proofs.Ytigbfcodnbnicaa.Pure
