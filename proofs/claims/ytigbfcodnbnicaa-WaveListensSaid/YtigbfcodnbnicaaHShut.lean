/- At of a listener, and what a listener that is closed does with Feed and Close; no condition. -/
import Derived.Test.YtigbfcodnbnicaaHLis
set_option linter.unusedVariables false
set_option linter.unusedSimpArgs false
namespace Go.Proofs.Ytigbfcodnbnicaa.P
open Go.RowKit Go.Proofs.YtigbfcodnbnicaaW.PrintWords Go.Proofs.YtigbfcodnbnicaaW.PrintLast Go.Proofs.YtigbfcodnbnicaaW.PrintMore

set_option maxHeartbeats 4000000 in
set_option maxRecDepth 100000 in
theorem at_good (g : Gt) (s : Ls) (smp : Int) (v : Value) (b : Nat) (w : World) (hb : w.heap[b]? = some (.cells (lsCells g s smp v) 71 (0, 0))) :
    Calls Try.prog 40 #[.pointer (some ⟨b, 0, none⟩)] w fun e w' => e = .returned (.tuple #[.int .i64 smp, .bool (s.state == 1)]) ∧ Drawn0 w w' := by
  have BKb : Aside0 (w.heap[b]? = some (.cells (lsCells g s smp v) 71 (0, 0))) := ⟨hb⟩
  have hc7 : w.cell? ⟨b, 7, none⟩ = some (.bool true) := (blk_cell BKb.out 7).trans rfl
  have hc8 : w.cell? ⟨b, 8, none⟩ = some (.int .i64 s.state) := (blk_cell BKb.out 8).trans rfl
  have hc11 : w.cell? ⟨b, 11, none⟩ = some (.int .i64 smp) := (blk_cell BKb.out 11).trans rfl
  have hu71 := Try.underlying71
  clear hb
  go_enter Try.func40, Try.ntmps40
  go_wp2_with (go_at_call 75; refine (usable_yes _ _ true hc7).mono ?_; rintro e w' ⟨rfl, hw_⟩; obtain rfl := hw_.symm; clear hw_)
  repeat (go_quiet (fail); try go_wp2)
  go_ret2
  exact ⟨rfl, by repeat (first | exact Drawn0.refl _ | apply Drawn0.step)⟩
theorem at_lis (g : Gt) (s : Ls) (smp : Nat) (rest : List Int) (b base : Nat) (sp : Bool) (w : World) (h : Lis g s smp rest b base w) (hs : (s.state == 1) = sp) :
    Calls Try.prog 40 #[.pointer (some ⟨b, 0, none⟩)] w fun e w' => e = .returned (.tuple #[.int .i64 (smp : Int), .bool sp]) ∧ Drawn0 w w' := by
  obtain ⟨Ab, cb, hb, _⟩ := h.cells
  rw [← hs]
  exact at_good g s smp _ b w hb
theorem at_closed (g : Gt) (s : Ls) (smp : Int) (v : Value) (b : Nat) (w : World) (hs : s.state = 2) (hb : w.heap[b]? = some (.cells (lsCells g s smp v) 71 (0, 0))) :
    Calls Try.prog 40 #[.pointer (some ⟨b, 0, none⟩)] w fun e w' => e = .returned (.tuple #[.int .i64 smp, .bool false]) ∧ Drawn0 w w' := by
  refine (at_good g s smp v b w hb).mono ?_
  rintro e w' ⟨he, hd⟩
  rw [hs] at he
  exact ⟨he, hd⟩
theorem close_cells (g : Gt) (s : Ls) (smp : Nat) (rest : List Int) (b : Nat) (w0 w : World) (hg : gateOK g = true) (h : Lis g s smp rest b w0.heap.size w) (hs : smp ≤ 2147483648) (hge : w0.heap.size ≤ b) (hB : Below w0.heap.size w0 w) :
    Calls Try.prog 38 #[.pointer (some ⟨b, 0, none⟩)] w fun e w' => ∃ v v2, e = .returned (.tuple #[v, .int .i64 0]) ∧ Kd.R k65 65 w' w.heap.size (fun _ => True) v (if s.state = 1 then [⟨s.start * g.block, (smp : Int)⟩] else []) ∧
      w'.heap[b]? = some (.cells (lsCells g { s with state := 2 } (smp : Int) v2) 71 (0, 0)) ∧ Below w0.heap.size w0 w' ∧ KeepBut w w' b none := by
  obtain ⟨Ab, cb, hb, hvb⟩ := h.cells
  have h9 := h.blocks
  refine (close_good g s smp _ b w0 w hg h.inv (by omega) hb hge hB).mono ?_
  rintro e w' ⟨v, he, h1, h2, h3, h4⟩
  exact ⟨v, _, he, h1, h2, h3, h4⟩
set_option maxHeartbeats 4000000 in
set_option maxRecDepth 100000 in
theorem feed_closed (g : Gt) (s : Ls) (smp : Int) (v : Value) (b : Nat) (A0 : Option Addr) (c0 : Nat) (l : List Int) (w : World) (hs : s.state = 2) (hl : l.length ≤ 200000) (hr : Kd.C (Kd.int .i64) w A0 l.length l) (hv : inR (-32768) 32767 l = true)
    (hb : w.heap[b]? = some (.cells (lsCells g s smp v) 71 (0, 0))) :
    Calls Try.prog 37 #[.pointer (some ⟨b, 0, none⟩), .slice A0 l.length c0] w fun e w' => e = .returned (.tuple #[.slice none 0 0, .int .i64 8]) ∧ w' = w := by
  have HR0 := Aside0.mk hr
  have HV := Aside0.mk hv
  have BKb : Aside0 (w.heap[b]? = some (.cells (lsCells g s smp v) 71 (0, 0))) := ⟨hb⟩
  have hc7 : w.cell? ⟨b, 7, none⟩ = some (.bool true) := (blk_cell BKb.out 7).trans rfl
  have hc8 : w.cell? ⟨b, 8, none⟩ = some (.int .i64 2) := (blk_cell BKb.out 8).trans (by rw [← hs]; rfl)
  have hu71 := Try.underlying71
  clear hr hv hb hs
  go_enter Try.func37, Try.ntmps37
  go_wp2_with (first
    | (go_at_call 75; refine (usable_yes _ _ true hc7).mono ?_; rintro e w' ⟨rfl, hw_⟩; obtain rfl := hw_.symm; clear hw_)
    | (go_at_call 76; refine (samples_still A0 c0 l _ true HR0.out hl HV.out).mono ?_; rintro e w' ⟨rfl, hw_⟩; obtain rfl := hw_.symm; clear hw_))
  go_ret2
  exact ⟨rfl, rfl⟩
set_option maxHeartbeats 4000000 in
set_option maxRecDepth 100000 in
theorem close_closed (g : Gt) (s : Ls) (smp : Int) (v : Value) (b : Nat) (w0 w : World) (hs : s.state = 2) (hb : w.heap[b]? = some (.cells (lsCells g s smp v) 71 (0, 0))) (hge : w0.heap.size ≤ b) (hB : Below w0.heap.size w0 w) :
    Calls Try.prog 38 #[.pointer (some ⟨b, 0, none⟩)] w fun e w' => e = .returned (.tuple #[.slice none 0 0, .int .i64 8]) ∧ Below w0.heap.size w0 w' := by
  have BKb : Aside0 (w.heap[b]? = some (.cells (lsCells g s smp v) 71 (0, 0))) := ⟨hb⟩
  have hfb := blk_frozen BKb.out 8
  have hc7 : w.cell? ⟨b, 7, none⟩ = some (.bool true) := (blk_cell BKb.out 7).trans rfl
  have hc8 : w.cell? ⟨b, 8, none⟩ = some (.int .i64 2) := (blk_cell BKb.out 8).trans (by rw [← hs]; rfl)
  have hu71 := Try.underlying71
  have GEb := Aside0.mk hge
  have HB := Aside0.mk hB
  clear hb hge hB hs
  go_enter Try.func38, Try.ntmps38
  go_wp2_with (go_at_call 75; refine (usable_yes _ _ true hc7).mono ?_; rintro e w' ⟨rfl, hw_⟩; obtain rfl := hw_.symm; clear hw_)
  go_ret2
  exact ⟨rfl, below_set HB.out GEb.out⟩
end Go.Proofs.Ytigbfcodnbnicaa.P
