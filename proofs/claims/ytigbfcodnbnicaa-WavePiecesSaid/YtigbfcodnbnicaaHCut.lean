/- The closure of cut: it hands out the frames of a list one by one. -/
import Derived.Test.YtigbfcodnbnicaaHRange
set_option linter.unusedVariables false
set_option linter.unusedSimpArgs false
set_option linter.constructorNameAsVariable false
namespace Go.Proofs.Ytigbfcodnbnicaa.P
open Go.RowKit Go.Proofs.YtigbfcodnbnicaaW.PrintWords Go.Proofs.YtigbfcodnbnicaaW.PrintLast Go.Proofs.YtigbfcodnbnicaaW.PrintMore
attribute [local go_sem] Oper.semAt_some

theorem in_copy {F : Fence} {nF : Nat} {P : Program} {ops : Array Oper} {rest : List Oper} {o : Oper} {a : Act} {Q : Exit → Act → World → Prop} {v y u : Value} {W w1 : World} (hg : o.guard = none) (s x : Operand)
    (ho : o.op = .call { callee := .builtin .copy, args := #[s, x], argTypes := #[22, 22] }) (hs : a.eval s = v) (hx : a.eval x = y) (hr : (Builtin.copy_ #[22, 22] o.type #[v, y]).run P W = .ok u w1)
    (h : wpListIn F nF P ops Q rest (a.put o.dst u) w1) : wpListIn F nF P ops Q (o :: rest) a W :=
  in_value hg (by simp [Oper.about, ho, resolve, Target.leads, Sem.run_pure]) (by rw [ho]; intro c hc; cases hc) (by simp [execOp, ho, resolve, invoke, builtin, hs, hx, hr, Result.andThen]) h
theorem cut_row (A : Option Addr) (c f : Nat) (l : List Int) (hf : f ≤ l.length) (hc : l.length ≤ c) : ∃ (A' : Option Addr) (m' c' : Nat), m' = l.length - f ∧
    (∀ W : World, (Instr.slice 22 (.slice A l.length c) (some (.int .i64 (f : Int))) none none).run Try.prog W = .ok (.slice A' m' c') W) ∧
    (∀ W : World, Kd.C (Kd.int .i64) W A l.length l → Kd.C (Kd.int .i64) W A' m' (l.drop f)) := by
  obtain ⟨i0, hi, hz0, hz1, hz2⟩ := info_parts info3
  have h := cut_from (P := Try.prog) 22 3 .i64 Try.underlying22 hi 1 hz1 A l.length c (f : Int) (by omega) (by omega)
  rw [Int.toNat_natCast] at h
  refine ⟨_, _, _, rfl, h, fun W hC => ?_⟩
  have h2 := Kd.C_drop (c := c) hC hf hc
  rw [List.length_drop] at h2
  exact h2
set_option maxHeartbeats 4000000 in
set_option maxRecDepth 100000 in
theorem cut1_in (n l X b0 : Nat) (A : Option Addr) (c : Nat) (xs : List Int) (sz st : Nat) (pad : Bool) (N : Nat) (J : Nat → World → Prop) (hn : 1 ≤ n)
    (hsz0 : 1 ≤ sz) (hsz : sz ≤ 4096) (hst0 : 1 ≤ st) (hst : st ≤ 4096) (hl : xs.length ≤ 200000) (hc : xs.length ≤ c)
    (hN : ∀ k, k < N ↔ (k * st + sz ≤ xs.length ∨ (pad = true ∧ k * st < xs.length)))
    (hJ : ∀ k W, J k W → b0 ≤ W.heap.size ∧ X + 3 < W.heap.size ∧ W.cell? ⟨X, 0, none⟩ = some (.slice A xs.length c) ∧ W.cell? ⟨X + 1, 0, none⟩ = some (.int .i64 (sz : Int)) ∧ W.cell? ⟨X + 2, 0, none⟩ = some (.int .i64 (st : Int)) ∧ W.cell? ⟨X + 3, 0, none⟩ = some (.bool pad) ∧ Kd.C (Kd.int .i64) W A xs.length xs)
    (hY : ∀ k y W W1, J k W → k < N → Below W.heap.size W W1 → Kd.R (Kd.int .i64) 3 W1 b0 (fun q => W.heap.size ≤ q) y (frameAt xs sz st k) → YieldAt Fence.wide (n - 1) Try.prog l #[y] W1 fun e W' => e = .returned (.bool true) ∧ J (k + 1) W')
    (W : World) (h0 : J 0 W) :
    CallsIn Fence.wide n Try.prog 98 #[.func (.yield l) #[] #[], .pointer (some ⟨X + 1, 0, none⟩), .pointer (some ⟨X, 0, none⟩), .pointer (some ⟨X + 3, 0, none⟩), .pointer (some ⟨X + 2, 0, none⟩)] W fun e W' => (∃ v, e = .returned v) ∧ J N W' := by
  refine callsIn_of_wp Try.func98 rfl trivial ?_ rfl
  simp only [Try.ntmps98, List.size_toArray, List.length_cons, List.length_nil, Nat.reduceAdd, Nat.reduceSub, Array.replicate_succ, Array.replicate_zero, List.push_toArray, List.append_toArray, List.nil_append, List.cons_append]
  gi_wp2
  gi_loopw [6] (fun i wr => ∃ k f : Nat, k ≤ N ∧ f = k * st ∧ i = .int .i64 (f : Int) ∧ J k wr) (fun i _ => N * st - (intOf i).toNat)
  case atStart => exact ⟨0, 0, Nat.zero_le _, by omega, rfl, h0⟩
  case round =>
    obtain ⟨k, f, hk, hf, rfl, hJs⟩ := hrel
    obtain ⟨hb0, hX, hcx, hcs, hct, hcp, hC⟩ := hJ k wr hJs
    have hNk := hN k
    rw [← hf] at hNk
    have hfb : f ≤ 204096 := by
      cases k with
      | zero => omega
      | succ k' =>
        have h3 := (hN k').1 (by omega)
        rw [Nat.succ_mul] at hf
        omega
    rcases Nat.lt_or_ge xs.length (f + sz) with h1 | h1
    · by_cases hp : pad = true ∧ f < xs.length
      · obtain ⟨rfl, h2⟩ := hp
        have hkN : k < N := hNk.2 (.inr ⟨rfl, h2⟩)
        have hfl : f < xs.length := by omega
        obtain ⟨A', m', c', hm', hcut, hC'⟩ := cut_row A c f xs (by omega) hc
        obtain ⟨arr, hmk, hR⟩ := make_row wr sz b0 hsz hb0 (fun q => wr.heap.size ≤ q) (Nat.le_refl _)
        obtain ⟨w1, hw1⟩ : ∃ w1, wr.alloc (.cells arr 3) = w1 := ⟨_, rfl⟩
        have hB1 : Below wr.heap.size wr w1 := by rw [← hw1]; exact below_alloc (Below.refl _ _) _
        rw [hw1] at hmk hR
        have hcx1 : w1.cell? ⟨X, 0, none⟩ = some (.slice A xs.length c) := (hB1.cell (p := ⟨X, 0, none⟩) (show X < wr.heap.size by omega)).trans hcx
        obtain ⟨u, w2, hcp2, hR2, hg2⟩ := copy_row b0 3 _ _ _ A' m' c' _ hR (hC' w1 (Kd.C_below hC hB1)) (Nat.le_trans hb0 hB1.size)
        have hB2 : Below wr.heap.size wr w2 := hB1.grown hg2 hB1.size (fun j e => by
          have : wr.heap.size = j := by simpa [Value.ownBlock] using e
          omega)
        have hfr : (xs.drop f).take (min m' (List.replicate sz (0 : Int)).length) ++ (List.replicate sz (0 : Int)).drop (min m' (List.replicate sz (0 : Int)).length) = frameAt xs sz st k := by
          rw [List.length_replicate, hm', frame_fill xs f sz (by omega), hf]
          rfl
        rw [hfr] at hR2
        obtain ⟨fn, tmps, assign, body, hy, hRd⟩ := hY k _ wr w2 hJs hkN hB2 hR2
        clear hR hR2 hfr hC' hg2 hB1 hB2 hNk hm' hw1
        have HF := Aside0.mk hf
        have HK := Aside0.mk hkN
        clear hf hkN
        gi_wp2_with (first
          | (gi_at_make; refine in_value (v := .slice (some ⟨wr.heap.size, 0, none⟩) sz sz) (w1 := w1) rfl (by simp [Oper.about]) (fun c hc => by cases hc) (by simp [execOp, go_sem, hcs, hmk]) ?_)
          | (exfalso; have hx_ := ‹some undef = some (Value.bool _)›; simp [undef] at hx_; done)
          | (refine in_copy (u := u) (w1 := w2) rfl _ _ rfl rfl rfl hcp2 ?_))
        refine hRd.mono ?_
        rintro e W4 ⟨rfl, hJ4⟩
        obtain ⟨_, _, _, _, ht4, _, _⟩ := hJ (k + 1) W4 hJ4
        gi_wp2
        go_roundw
        case rel => exact ⟨k + 1, f + st, HK.out, by rw [HF.out, Nat.succ_mul], by simp, hJ4⟩
        case measure =>
          have h5 : (k + 1) * st ≤ N * st := Nat.mul_le_mul_right _ HK.out
          have h6 : (k + 1) * st = f + st := by rw [HF.out, Nat.succ_mul]
          simp [intOf]
          omega
      · have hkN : k = N := by
          rcases Nat.lt_or_ge k N with h | h
          · rcases hNk.1 h with h | h
            · omega
            · exact absurd h hp
          · omega
        have hJN : J N wr := hkN ▸ hJs
        clear hNk hf hkN hJs
        have hst : ¬ (pad = true ∧ (f : Int) < (xs.length : Int)) := fun e => hp ⟨e.1, by omega⟩
        cases pad with
        | false =>
          gi_wp2_with (exfalso; have hx_ := ‹some undef = some (Value.bool _)›; simp [undef] at hx_; done)
          go_end0
          exact ⟨⟨_, rfl⟩, hJN⟩
        | true =>
          have h2 : ¬ (f : Int) < (xs.length : Int) := fun e => hst ⟨rfl, e⟩
          gi_wp2_with (exfalso; have hx_ := ‹some undef = some (Value.bool _)›; simp [undef] at hx_; done)
          go_end0
          exact ⟨⟨_, rfl⟩, hJN⟩
    · have hkN : k < N := hNk.2 (.inl h1)
      have hfl : f < xs.length := by omega
      obtain ⟨A', m', c', hm', hcut, hC'⟩ := cut_row A c f xs (by omega) hc
      obtain ⟨arr, hmk, hR⟩ := make_row wr sz b0 hsz hb0 (fun q => wr.heap.size ≤ q) (Nat.le_refl _)
      obtain ⟨w1, hw1⟩ : ∃ w1, wr.alloc (.cells arr 3) = w1 := ⟨_, rfl⟩
      have hB1 : Below wr.heap.size wr w1 := by rw [← hw1]; exact below_alloc (Below.refl _ _) _
      rw [hw1] at hmk hR
      have hcx1 : w1.cell? ⟨X, 0, none⟩ = some (.slice A xs.length c) := (hB1.cell (p := ⟨X, 0, none⟩) (show X < wr.heap.size by omega)).trans hcx
      obtain ⟨u, w2, hcp2, hR2, hg2⟩ := copy_row b0 3 _ _ _ A' m' c' _ hR (hC' w1 (Kd.C_below hC hB1)) (Nat.le_trans hb0 hB1.size)
      have hB2 : Below wr.heap.size wr w2 := hB1.grown hg2 hB1.size (fun j e => by
        have : wr.heap.size = j := by simpa [Value.ownBlock] using e
        omega)
      have hfr : (xs.drop f).take (min m' (List.replicate sz (0 : Int)).length) ++ (List.replicate sz (0 : Int)).drop (min m' (List.replicate sz (0 : Int)).length) = frameAt xs sz st k := by
        rw [List.length_replicate, hm', frame_fill xs f sz (by omega), hf]
        rfl
      rw [hfr] at hR2
      obtain ⟨fn, tmps, assign, body, hy, hRd⟩ := hY k _ wr w2 hJs hkN hB2 hR2
      clear hR hR2 hfr hC' hg2 hB1 hB2 hNk hm' hw1
      have HF := Aside0.mk hf
      have HK := Aside0.mk hkN
      clear hf hkN
      gi_wp2_with (first
        | (gi_at_make; refine in_value (v := .slice (some ⟨wr.heap.size, 0, none⟩) sz sz) (w1 := w1) rfl (by simp [Oper.about]) (fun c hc => by cases hc) (by simp [execOp, go_sem, hcs, hmk]) ?_)
        | (exfalso; have hx_ := ‹some undef = some (Value.bool _)›; simp [undef] at hx_; done)
        | (refine in_copy (u := u) (w1 := w2) rfl _ _ rfl rfl rfl hcp2 ?_))
      refine hRd.mono ?_
      rintro e W4 ⟨rfl, hJ4⟩
      obtain ⟨_, _, _, _, ht4, _, _⟩ := hJ (k + 1) W4 hJ4
      gi_wp2
      go_roundw
      case rel => exact ⟨k + 1, f + st, HK.out, by rw [HF.out, Nat.succ_mul], by simp, hJ4⟩
      case measure =>
        have h5 : (k + 1) * st ≤ N * st := Nat.mul_le_mul_right _ HK.out
        have h6 : (k + 1) * st = f + st := by rw [HF.out, Nat.succ_mul]
        simp [intOf]
        omega
end Go.Proofs.Ytigbfcodnbnicaa.P
