/- A range over the closure of cut whose rounds collect the frames: what lies behind it. -/
import Derived.Test.YtigbfcodnbnicaaHCut
set_option linter.unusedVariables false
set_option linter.unusedSimpArgs false
set_option linter.constructorNameAsVariable false
namespace Go.Proofs.Ytigbfcodnbnicaa.P
open Go.RowKit Go.Proofs.YtigbfcodnbnicaaW.PrintWords Go.Proofs.YtigbfcodnbnicaaW.PrintLast Go.Proofs.YtigbfcodnbnicaaW.PrintMore

def framesTo (xs : List Int) (sz st k : Nat) : List (List Int) := (List.range k).map fun t => frameAt xs sz st t
theorem framesTo_succ (xs : List Int) (sz st k : Nat) : framesTo xs sz st (k + 1) = framesTo xs sz st k ++ [frameAt xs sz st k] := by
  unfold framesTo
  rw [List.range_succ, List.map_append]
  rfl
theorem framesTo_length (xs : List Int) (sz st k : Nat) : (framesTo xs sz st k).length = k := by simp [framesTo]
/-- The list of rows of the block s, beyond the loop's own blocks. -/
def FrBox (s : Nat) (ok : Nat → Prop) (fs : List (List Int)) (W : World) : Prop := ∃ v, W.heap[s]? = some (.cells #[v] 66 (0, 0)) ∧ Kd.S (Kd.slice 3 (Kd.int .i64)) 22 W (s + 7) ok v fs
/-- What a round's body leaves. -/
def FrPost (s : Nat) (fs : List (List Int)) (W : World) : Exit → Act → World → Prop
  | .normal, _, W' => Below s W W' ∧ (∀ q, q < s + 7 → q ≠ s → W'.heap[q]? = W.heap[q]?) ∧ FrBox s (fun _ => True) fs W'
  | _, _, _ => False
structure FrJ (s : Nat) (w0 : World) (rec : LoopState → Option Code → Loop) (A : Option Addr) (c : Nat) (xs : List Int) (sz st : Nat) (pad : Bool) (k : Nat) (W : World) : Prop where
  box : FrBox s (fun _ => True) (framesTo xs sz st k) W
  L : W.heap[s + 6]? = some (.loop (rec .ready none))
  K : W.heap[s + 5]? = some (.deferred (some []))
  below : Below s w0 W
  bx : W.heap[s + 1]? = some (.cells #[.slice A xs.length c] 22 (0, 0))
  bs : W.heap[s + 2]? = some (.cells #[.int .i64 (sz : Int)] 3 (0, 0))
  bt : W.heap[s + 3]? = some (.cells #[.int .i64 (st : Int)] 3 (0, 0))
  bp : W.heap[s + 4]? = some (.cells #[.bool pad] 4 (0, 0))
theorem FrJ.size {s : Nat} {w0 : World} {rec : LoopState → Option Code → Loop} {A : Option Addr} {c : Nat} {xs : List Int} {sz st : Nat} {pad : Bool} {k : Nat} {W : World} (h : FrJ s w0 rec A c xs sz st pad k W) : s + 7 ≤ W.heap.size := by
  have := blk_lt h.L
  omega
set_option maxHeartbeats 1000000 in
theorem fr_yield {asg bdy : Code} {fn : FuncId} {tms : Array Value} (n s : Nat) (w0 : World) (A : Option Addr) (c : Nat) (xs : List Int) (sz st : Nat) (pad : Bool) (N : Nat) (a₁ : Value → Act)
    (hassign : ∀ (l : Nat) (y : Value) (W : World) (K : Act → World → Prop), K (a₁ y) W → asg.wpIn (Fence.wide.inRound l) (n - 1 - 1) Try.prog (Exit.then K (fun _ _ _ => False)) { tmps := tms.setIfInBounds 61 y, defers := [] } W)
    (hbody : ∀ (l k m : Nat) (y v : Value) (W : World), k < N → s + 7 ≤ m → m ≤ W.heap.size → W.heap[s]? = some (.cells #[v] 66 (0, 0)) → Kd.S (Kd.slice 3 (Kd.int .i64)) 22 W (s + 7) (fun q => q < m) v (framesTo xs sz st k) → Kd.R (Kd.int .i64) 3 W (s + 7) (fun q => m ≤ q) y (frameAt xs sz st k) →
      bdy.wpIn (Fence.wide.inRound l) (n - 1 - 1) Try.prog (FrPost s (framesTo xs sz st (k + 1)) W) (a₁ y) W)
    (rec : LoopState → Option Code → Loop) (hrec : rec = fun sta pe => { state := sta, pending := pe, fn := fn, tmps := tms, params := #[61], assign := asg, body := bdy, defers := s + 5 })
    (k : Nat) (y : Value) (W W1 : World) (h : FrJ s w0 rec A c xs sz st pad k W) (hk : k < N) (hB : Below W.heap.size W W1) (hR : Kd.R (Kd.int .i64) 3 W1 (s + 7) (fun q => W.heap.size ≤ q) y (frameAt xs sz st k)) :
    YieldAt Fence.wide (n - 1 - 1) Try.prog (s + 6) #[y] W1 fun e W' => e = .returned (.bool true) ∧ FrJ s w0 rec A c xs sz st pad (k + 1) W' := by
  have hsz := h.size
  obtain ⟨v, hv, hS⟩ := h.box
  have hS1 : Kd.S (Kd.slice 3 (Kd.int .i64)) 22 W1 (s + 7) (fun q => s + 7 ≤ q ∧ q < W.heap.size) v (framesTo xs sz st k) := Kd.S_mono (Kd.S_below (Kd.S_bound hS) hB) (fun q hq => ⟨hq.2.1, hq.2.2.1⟩)
  have old : ∀ {q : Nat} {o : Obj}, W.heap[q]? = some o → W1.heap[q]? = some o := fun hq => (hB.block _ (blk_lt hq)).trans hq
  have hL1 := old h.L
  have hl1 : s + 6 < W1.heap.size := blk_lt hL1
  have hyl := run_yield (P := Try.prog) (args := #[y]) hL1 (by rw [hrec]; rfl)
  have hbr := run_beginRound (P := Try.prog) hL1 (by rw [hrec])
  obtain ⟨W2, hW2⟩ : ∃ W2, W1.putObj (s + 6) (.loop { rec .ready none with state := .busy }) = W2 := ⟨_, rfl⟩
  rw [hW2] at hbr
  have hoth : ∀ q, q ≠ s + 6 → W2.heap[q]? = W1.heap[q]? := fun q hq => by rw [← hW2]; exact World.putObj_heap_other (fun e => hq (by omega))
  have hL2 : W2.heap[s + 6]? = some (.loop { rec .ready none with state := .busy }) := by rw [← hW2]; exact World.putObj_heap_same hl1
  have hg2 : W1.grownBy W2 (some (s + 6)) := by rw [← hW2]; exact grownBy_putObj' _ _ _
  have hb2 : Below s w0 W2 := ((h.below.trans (hB.mono (by omega)))).grown hg2 (by omega) (fun q e => by cases e; omega)
  have hz2 : W.heap.size ≤ W2.heap.size := Nat.le_trans hB.size hg2.size
  have hS2 : Kd.S (Kd.slice 3 (Kd.int .i64)) 22 W2 (s + 7) (fun q => q < W.heap.size) v (framesTo xs sz st k) := Kd.S_mono (Kd.S_move hS1 (fun q hq => hoth q (by omega))) (fun q hq => hq.2)
  have hR2 : Kd.R (Kd.int .i64) 3 W2 (s + 7) (fun q => W.heap.size ≤ q) y (frameAt xs sz st k) := Kd.R_move hR (fun q hq => hoth q (by omega))
  refine ⟨_, _, _, _, hyl, ?_⟩
  subst hrec
  dsimp only at hbr hL2 hyl ⊢
  refine roundIn_of_wpIn trivial ?_
  have hfold : Array.foldl (fun (t : Array Value) (x : Tmp × Value) => t.setIfInBounds x.fst x.snd) tms ((#[61] : Array Tmp).zip #[y]) = tms.setIfInBounds 61 y := by simp
  rw [hfold]
  refine hassign (s + 6) y W1 _ ?_
  refine ⟨W2, hbr, ?_⟩
  refine wpIn_mono (hbody (s + 6) k W.heap.size y v W2 hk hsz hz2 ((hoth s (by omega)).trans (old hv)) hS2 hR2) ?_
  intro e a3 W3 hp
  cases e with
  | normal =>
    obtain ⟨b3, hk3, v1, hv1, hS3⟩ := hp
    have low : ∀ {q : Nat} {o : Obj}, q < s + 7 → q ≠ s → q ≠ s + 6 → W.heap[q]? = some o → W3.heap[q]? = some o := fun h1 h2 h3 h4 => (hk3 _ h1 h2).trans ((hoth _ h3).trans (old h4))
    have hL3 := (hk3 _ (by omega) (by omega)).trans hL2
    have hend := run_endRound (P := Try.prog) none hL3
    have hl3 : s + 6 < W3.heap.size := blk_lt hL3
    have hg3 : ∀ o : Obj, W3.grownBy (W3.putObj (s + 6) o) (some (s + 6)) := fun o => grownBy_putObj' W3 (s + 6) o
    have oth3 : ∀ (o : Obj) (q : Nat), q ≠ s + 6 → (W3.putObj (s + 6) o).heap[q]? = W3.heap[q]? := fun o q hq => World.putObj_heap_other (fun e => hq (by omega))
    refine ⟨_, _, hend, rfl, ⟨⟨v1, (oth3 _ s (by omega)).trans hv1, ?_⟩, ?_, (oth3 _ _ (by omega)).trans (low (by omega) (by omega) (by omega) h.K), (hb2.trans b3).grown (hg3 _) (by omega) (fun q e => by cases e; omega),
      (oth3 _ _ (by omega)).trans (low (by omega) (by omega) (by omega) h.bx), (oth3 _ _ (by omega)).trans (low (by omega) (by omega) (by omega) h.bs), (oth3 _ _ (by omega)).trans (low (by omega) (by omega) (by omega) h.bt), (oth3 _ _ (by omega)).trans (low (by omega) (by omega) (by omega) h.bp)⟩⟩
    · exact Kd.S_mono (Kd.S_move (Kd.S_bound hS3) (fun q hq => oth3 _ q (by omega))) (fun _ _ => trivial)
    · exact World.putObj_heap_same hl3
  | ret => exact hp.elim
  | exit id => exact hp.elim
  | goto t => exact hp.elim
  | panic ch => exact hp.elim
  | outgrown => exact hp.elim
set_option maxHeartbeats 1000000 in
theorem fr_range {asg bdy : Code} {Q : Exit → Act → World → Prop} {tms : Array Value} {g : Operand} (n s : Nat) (hn : 3 ≤ n) (w0 W0 : World) (hw0 : w0.heap.size = s) (A : Option Addr) (c : Nat) (xs : List Int) (sz st : Nat) (pad : Bool) (N : Nat) (a₁ : Value → Act)
    (hsz0 : 1 ≤ sz) (hsz : sz ≤ 4096) (hst0 : 1 ≤ st) (hst : st ≤ 4096) (hl : xs.length ≤ 200000) (hc : xs.length ≤ c)
    (hN : ∀ k, k < N ↔ (k * st + sz ≤ xs.length ∨ (pad = true ∧ k * st < xs.length)))
    (hg : ({ tmps := tms, defers := [] } : Act).eval g = .func (.func 98) #[] #[.pointer (some ⟨s + 2, 0, none⟩), .pointer (some ⟨s + 1, 0, none⟩), .pointer (some ⟨s + 4, 0, none⟩), .pointer (some ⟨s + 3, 0, none⟩)])
    (hs0 : W0.heap.size = s + 5) (hB0 : Below s w0 W0) (hbox : W0.heap[s]? = some (.cells #[.slice none 0 0] 66 (0, 0))) (hbx : W0.heap[s + 1]? = some (.cells #[.slice A xs.length c] 22 (0, 0)))
    (hbs : W0.heap[s + 2]? = some (.cells #[.int .i64 (sz : Int)] 3 (0, 0))) (hbt : W0.heap[s + 3]? = some (.cells #[.int .i64 (st : Int)] 3 (0, 0))) (hbp : W0.heap[s + 4]? = some (.cells #[.bool pad] 4 (0, 0)))
    (hC : Kd.C (Kd.int .i64) w0 A xs.length xs)
    (hassign : ∀ (l : Nat) (y : Value) (W : World) (K : Act → World → Prop), K (a₁ y) W → asg.wpIn (Fence.wide.inRound l) (n - 1 - 1) Try.prog (Exit.then K (fun _ _ _ => False)) { tmps := tms.setIfInBounds 61 y, defers := [] } W)
    (hbody : ∀ (l k m : Nat) (y v : Value) (W : World), k < N → s + 7 ≤ m → m ≤ W.heap.size → W.heap[s]? = some (.cells #[v] 66 (0, 0)) → Kd.S (Kd.slice 3 (Kd.int .i64)) 22 W (s + 7) (fun q => q < m) v (framesTo xs sz st k) → Kd.R (Kd.int .i64) 3 W (s + 7) (fun q => m ≤ q) y (frameAt xs sz st k) →
      bdy.wpIn (Fence.wide.inRound l) (n - 1 - 1) Try.prog (FrPost s (framesTo xs sz st (k + 1)) W) (a₁ y) W)
    (hdone : ∀ (v : Value) (W : World), W.heap[s + 5]? = some (.deferred (some [])) → W.heap[s]? = some (.cells #[v] 66 (0, 0)) → Kd.S (Kd.slice 3 (Kd.int .i64)) 22 W (s + 7) (fun _ => True) v (framesTo xs sz st N) → Below s w0 W → Q .normal { tmps := tms, defers := [{ target := .collected (s + 5), args := #[] }] } W) :
    (Code.rangeFunc g #[61] asg bdy).wpIn Fence.wide n Try.prog Q { tmps := tms, defers := [] } W0 := by
  refine wpIn_rangeFunc ?_
  intro fn hfn
  obtain ⟨rec, hrec⟩ : ∃ rec : LoopState → Option Code → Loop, rec = fun sta pe => { state := sta, pending := pe, fn := fn, tmps := tms, params := #[61], assign := asg, body := bdy, defers := s + 5 } := ⟨_, rfl⟩
  obtain ⟨W1, hW1⟩ : ∃ W1, (W0.alloc (.deferred (some []))).alloc (.loop (rec .ready none)) = W1 := ⟨_, rfl⟩
  have hL1 : W1.heap[s + 6]? = some (.loop (rec .ready none)) := by
    rw [← hW1]; have := World.alloc_heap_new (W0.alloc (.deferred (some []))) (.loop (rec .ready none)); rwa [World.size_alloc, hs0] at this
  have hold : ∀ q, q < s + 5 → W1.heap[q]? = W0.heap[q]? := fun q hq => by
    rw [← hW1]; exact (Below.heap_alloc _ _ q (by simp; omega)).trans (Below.heap_alloc _ _ q (by omega))
  have hK1 : W1.heap[s + 5]? = some (.deferred (some [])) := by
    rw [← hW1]; refine (Below.heap_alloc _ _ _ (by simp; omega)).trans ?_
    have := World.alloc_heap_new W0 (.deferred (some []))
    rwa [hs0] at this
  have hb1 : Below s w0 W1 := by rw [← hW1]; exact (hB0.alloc (by omega) _).alloc (by simp; omega) _
  have hJ0 : FrJ s w0 rec A c xs sz st pad 0 W1 := ⟨⟨_, (hold s (by omega)).trans hbox, Kd.S_nil _ _ _ _ _⟩, hL1, hK1, hb1, (hold _ (by omega)).trans hbx, (hold _ (by omega)).trans hbs, (hold _ (by omega)).trans hbt, (hold _ (by omega)).trans hbp⟩
  refine ⟨s + 6, [{ target := .collected (s + 5), args := #[] }], W1, { target := .fn (.func 98) #[.pointer (some ⟨s + 2, 0, none⟩), .pointer (some ⟨s + 1, 0, none⟩), .pointer (some ⟨s + 4, 0, none⟩), .pointer (some ⟨s + 3, 0, none⟩)], args := #[.func (.yield (s + 6)) #[] #[]] }, W1, 98,
    #[.func (.yield (s + 6)) #[] #[], .pointer (some ⟨s + 2, 0, none⟩), .pointer (some ⟨s + 1, 0, none⟩), .pointer (some ⟨s + 4, 0, none⟩), .pointer (some ⟨s + 3, 0, none⟩)], W1, ?_, ?_, ?_, ?_, fun _ => by omega, ?_⟩
  · have h := run_enterLoop_outer (P := Try.prog) (w := W0) fn tms #[61] asg bdy
    rw [hs0] at h
    rw [← hW1, hrec]
    exact h
  · simp only [resolve, hg]
    simp [go_sem]
  · intro f' hf'; trivial
  · simp [invoke, go_sem]
  · refine (cut1_in (n - 1) (s + 6) (s + 1) (s + 7) A c xs sz st pad N (FrJ s w0 rec A c xs sz st pad) (by omega) hsz0 hsz hst0 hst hl hc hN ?_ ?_ W1 hJ0).mono ?_
    · intro k W h
      have h7 := h.size
      exact ⟨h7, by omega, (blk_cell h.bx 0).trans rfl, (blk_cell h.bs 0).trans rfl, (blk_cell h.bt 0).trans rfl, (blk_cell h.bp 0).trans rfl, Kd.C_below hC (h.below.mono (by omega))⟩
    · intro k y W W' h hk hB hR
      exact fr_yield n s w0 A c xs sz st pad N a₁ hassign hbody rec hrec k y W W' h hk hB hR
    · rintro e W2 ⟨⟨v0, rfl⟩, h2⟩
      obtain ⟨v, hv, hS⟩ := h2.box
      have h7 := h2.size
      have hend := run_endLoop (P := Try.prog) h2.L (by rw [hrec]; simp)
      have hg3 : ∀ o : Obj, W2.grownBy (W2.putObj (s + 6) o) (some (s + 6)) := fun o => grownBy_putObj' W2 (s + 6) o
      have oth3 : ∀ (o : Obj) (q : Nat), q ≠ s + 6 → (W2.putObj (s + 6) o).heap[q]? = W2.heap[q]? := fun o q hq => World.putObj_heap_other (fun e => hq (by omega))
      have hpe : (rec .ready none).pending = none := by rw [hrec]
      rw [hpe] at hend
      exact ⟨none, _, hend, hdone v _ ((oth3 _ _ (by omega)).trans h2.K) ((oth3 _ _ (by omega)).trans hv) (Kd.S_mono (Kd.S_move (Kd.S_bound hS) (fun q hq => oth3 _ q (by omega))) (fun _ _ => trivial)) (h2.below.grown (hg3 _) (by omega) (fun q e => by cases e; omega))⟩
/-- Which places are a frame's. -/
def FrLt (n sz st : Nat) (pad : Bool) (N : Nat) : Prop := ∀ k, k < N ↔ (k * st + sz ≤ n ∨ (pad = true ∧ k * st < n))
theorem fr_range2 {asg bdy : Code} {Q : Exit → Act → World → Prop} {tms : Array Value} {g : Operand} (n s : Nat) (hn : 3 ≤ n) (w0 W0 : World) (hw0 : w0.heap.size = s) (A : Option Addr) (c : Nat) (xs : List Int) (sz st : Nat) (pad : Bool) (N : Nat)
    (hsz0 : 1 ≤ sz) (hsz : sz ≤ 4096) (hst0 : 1 ≤ st) (hst : st ≤ 4096) (hl : xs.length ≤ 200000) (hc : xs.length ≤ c) (hN : FrLt xs.length sz st pad N)
    (hg : ({ tmps := tms, defers := [] } : Act).eval g = .func (.func 98) #[] #[.pointer (some ⟨s + 2, 0, none⟩), .pointer (some ⟨s + 1, 0, none⟩), .pointer (some ⟨s + 4, 0, none⟩), .pointer (some ⟨s + 3, 0, none⟩)])
    (hs0 : W0.heap.size = s + 5) (hB0 : Below s w0 W0) (hbox : W0.heap[s]? = some (.cells #[.slice none 0 0] 66 (0, 0))) (hbx : W0.heap[s + 1]? = some (.cells #[.slice A xs.length c] 22 (0, 0)))
    (hbs : W0.heap[s + 2]? = some (.cells #[.int .i64 (sz : Int)] 3 (0, 0))) (hbt : W0.heap[s + 3]? = some (.cells #[.int .i64 (st : Int)] 3 (0, 0))) (hbp : W0.heap[s + 4]? = some (.cells #[.bool pad] 4 (0, 0)))
    (hC : Kd.C (Kd.int .i64) w0 A xs.length xs)
    (hassign : ∀ (l : Nat) (y : Value) (W : World) (K : Act → World → Prop), K { tmps := (tms.setIfInBounds 61 y).setIfInBounds 13 y, defers := [] } W → asg.wpIn (Fence.wide.inRound l) (n - 1 - 1) Try.prog (Exit.then K (fun _ _ _ => False)) { tmps := tms.setIfInBounds 61 y, defers := [] } W)
    (hbody : ∀ (l k m : Nat) (y v : Value) (W : World), k < N → s + 7 ≤ m → m ≤ W.heap.size → W.heap[s]? = some (.cells #[v] 66 (0, 0)) → Kd.S (Kd.slice 3 (Kd.int .i64)) 22 W (s + 7) (fun q => q < m) v (framesTo xs sz st k) → Kd.R (Kd.int .i64) 3 W (s + 7) (fun q => m ≤ q) y (frameAt xs sz st k) →
      bdy.wpIn (Fence.wide.inRound l) (n - 1 - 1) Try.prog (FrPost s (framesTo xs sz st (k + 1)) W) { tmps := (tms.setIfInBounds 61 y).setIfInBounds 13 y, defers := [] } W)
    (hdone : ∀ (v : Value) (W : World), W.heap[s + 5]? = some (.deferred (some [])) → W.heap[s]? = some (.cells #[v] 66 (0, 0)) → Kd.S (Kd.slice 3 (Kd.int .i64)) 22 W (s + 7) (fun _ => True) v (framesTo xs sz st N) → Below s w0 W → Q .normal { tmps := tms, defers := [{ target := .collected (s + 5), args := #[] }] } W) :
    (Code.rangeFunc g #[61] asg bdy).wpIn Fence.wide n Try.prog Q { tmps := tms, defers := [] } W0 :=
  fr_range n s hn w0 W0 hw0 A c xs sz st pad N (fun y => { tmps := (tms.setIfInBounds 61 y).setIfInBounds 13 y, defers := [] }) hsz0 hsz hst0 hst hl hc hN hg hs0 hB0 hbox hbx hbs hbt hbp hC hassign hbody hdone
/-- What appending a frame and storing the list leaves. -/
theorem fr_stored {s m : Nat} {W w3 : World} {v v1 : Value} {fs : List (List Int)} {ok : Nat → Prop} (hm : s + 7 ≤ m) (hmW : m ≤ W.heap.size) (hv : W.heap[s]? = some (.cells #[v] 66 (0, 0))) (hb : ∀ q, v.ownBlock = some q → s + 7 ≤ q) (hg : W.grownBy w3 v.ownBlock)
    (hS : Kd.S (Kd.slice 3 (Kd.int .i64)) 22 w3 (s + 7) ok v1 fs) : FrPost s fs W .normal { tmps := #[], defers := [] } (w3.setCell ⟨s, 0, none⟩ v1) := by
  have hne : ∀ q, q < s + 7 → some q ≠ v.ownBlock := fun q hq e => by have := hb q e.symm; omega
  have hv3 : Boxed w3 s 66 v := (hg.block s (by omega) (hne s (by omega))).trans hv
  refine ⟨((Below.refl s W).grown hg (by omega) (fun q e => by have := hb q e; omega)).setCell (p := ⟨s, 0, none⟩) (Nat.le_refl _) _, fun q h1 h2 => ?_, v1, hv3.set v1, ?_⟩
  · exact (Below.heap_setCell _ _ _ q h2).trans (hg.block q (by omega) (hne q h1))
  · exact Kd.S_mono (Kd.S_far (p := ⟨s, 0, none⟩) (Kd.S_bound hS) (fun q hq => by show q ≠ s; omega) v1) (fun _ _ => trivial)
end Go.Proofs.Ytigbfcodnbnicaa.P
