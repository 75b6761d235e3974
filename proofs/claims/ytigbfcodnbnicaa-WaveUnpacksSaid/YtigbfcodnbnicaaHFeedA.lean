/- Small steps of Feed: samples without draws, a slice with three indexes; the list is read as given. -/
import Derived.Test.YtigbfcodnbnicaaHPred
import Derived.Test.YtigbfcodnbnicaaHBlocks
import Derived.Test.YtigbfcodnbnicaaHListen
set_option linter.unusedVariables false
set_option linter.unusedSimpArgs false
namespace Go.Proofs.Ytigbfcodnbnicaa.P
open Go.RowKit Go.Proofs.YtigbfcodnbnicaaW.PrintWords Go.Proofs.YtigbfcodnbnicaaW.PrintLast Go.Proofs.YtigbfcodnbnicaaW.PrintMore

theorem samples_still (A0 : Option Addr) (c0 : Nat) (l0 : List Int) (w : World) (r : Bool) (hr0 : Kd.C (Kd.int .i64) w A0 l0.length l0) (hl : l0.length ≤ 200000) (h : inR (-32768) 32767 l0 = r) :
    Calls Try.prog 76 #[.slice A0 l0.length c0] w fun e w' => e = .returned (.bool r) ∧ w' = w := by
  have HR0 := Aside0.mk hr0
  have Hr := Aside0.mk h
  clear hr0 h
  go_enter Try.func76, Try.ntmps76
  go_wp2_with (go_at_call 80; refine (has94 _ _ _ _ HR0.out (by omega) r Hr.out).mono ?_; rintro e w' ⟨rfl, rfl⟩)
  go_ret
  exact ⟨by simp, rfl⟩
theorem slice_hm22 (A : Option Addr) (n c : Nat) (B : Int) (h0 : 0 ≤ B) (hc : B ≤ c) (W : World) :
    (Instr.slice 22 (.slice A n c) none (some (.int .i64 B)) (some (.int .i64 B))).run Try.prog W = .ok (.slice A B.toNat B.toNat) W := by
  obtain ⟨i0, hi, hz0, hz1, hz2⟩ := info_parts info3
  have hel : Try.prog.elem 22 = 3 := by simp [Program.elem, Try.underlying22]
  have hu : Try.prog.underlying 22 = some (.slice (Try.prog.elem 22)) := by rw [hel]; exact Try.underlying22
  have ha : (A.map fun x => x.add 0) = A := by cases A <;> simp [Addr.add]
  rw [run_slice_hm W 22 A n c hu .i64 .i64 B B h0 (Int.le_refl _) hc, hel]
  simp [sizeOf, typeInfo, hi, hz1, sliced, Result.andThen, ha]
theorem slice_l22 (A : Option Addr) (c : Nat) (xs : List Int) (B : Int) (h0 : 0 ≤ B) (hm : B ≤ xs.length) (hc : xs.length ≤ c) :
    ∃ A' : Option Addr, (∀ W : World, (Instr.slice 22 (.slice A xs.length c) (some (.int .i64 B)) none none).run Try.prog W = .ok (.slice A' (xs.drop B.toNat).length (c - B.toNat)) W) ∧
      (∀ W : World, Kd.C (Kd.int .i64) W A xs.length xs → Kd.C (Kd.int .i64) W A' (xs.drop B.toNat).length (xs.drop B.toNat)) ∧ (xs.drop B.toNat).length ≤ c - B.toNat := by
  obtain ⟨i0, hi, hz0, hz1, hz2⟩ := info_parts info3
  obtain ⟨A', h1, h2, h3⟩ := print_drop_of (P := Try.prog) (Value.int .i64) (0 : Int) 22 3 .i64 Try.underlying22 hi hz1 A c xs B h0 hm hc
  exact ⟨A', h1, fun W h => Kd.C_of_reads (d := (0 : Int)) (h2 W (Kd.reads_of_C (d := (0 : Int)) (h1 := fun _ => rfl) h)), h3⟩
/-- A row of whole numbers whose block is a later one. -/
theorem R_raise {k : IntKind} {e : Nat} {W : World} {base base' : Nat} {ok : Nat → Prop} {v : Value} {xs : List Int} (h : Kd.R (Kd.int k) e W base ok v xs) (hk : ∀ q, v.ownBlock = some q → base' ≤ q) : Kd.R (Kd.int k) e W base' ok v xs := by
  obtain ⟨h0, inner, ho, hr⟩ := h
  obtain ⟨h1, h2⟩ := ho
  refine ⟨h0, inner, ⟨h1, h2.imp id ?_⟩, hr⟩
  rintro ⟨g, cap, cur, he, hb, hr⟩
  exact ⟨g, cap, cur, he, hk g (by rw [he]; simp [Value.ownBlock]), hr⟩
/-- What Feed leaves: the segments, the listener, its ring in a block of this call's. -/
def FeedPost (g : Gt) (s : Ls) (smp : Int) (ring : List Int) (n b : Nat) (w0 w : World) (e : Ending) (w' : World) : Prop :=
  ∃ (v vb : Value), e = .returned (.tuple #[v, .int .i64 0]) ∧ Kd.R k65 65 w' w.heap.size (fun _ => True) v (runBlocks g (ring.length / g.block.toNat) s ring).2 ∧
    w'.heap[b]? = some (.cells (lsCells g (runBlocks g (ring.length / g.block.toNat) s ring).1 (smp + n) vb) 71 (0, 0)) ∧
    Kd.R (Kd.int .i64) 3 w' w.heap.size (fun _ => True) vb (ring.drop (ring.length / g.block.toNat * g.block.toNat)) ∧ Below w0.heap.size w0 w' ∧ KeepBut w w' b none
end Go.Proofs.Ytigbfcodnbnicaa.P
