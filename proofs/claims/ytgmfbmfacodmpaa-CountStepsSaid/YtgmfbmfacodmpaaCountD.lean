import Derived.Test.YtgmfbmfacodmpaaCountC
import Derived.Deep.QuietTactic
import Derived.BigQuiet
import Derived.Laws.StructEq
namespace Go.Proofs.Ytgmfbmfacodmpaa
open Go.RowKit
set_option linter.unusedSimpArgs false
/-- What a drawn region of a law keeps: the argument's box, and that nothing elder has turned. -/
def BoxS (w0 : World) (b : Nat) (x : In) (w : World) : Prop := b < w.heap.size ∧ Below w0.heap.size w0 w ∧ w.cell? ⟨b, 0, none⟩ = some (.int .i64 x.a0) ∧ w.cell? ⟨b, 1, none⟩ = some (.int .i64 x.a1) ∧ w.cell? ⟨b, 2, none⟩ = some (.int .i64 x.a2) ∧ w.cell? ⟨b, 3, none⟩ = some (.int .i64 x.a3) ∧ w.cell? ⟨b, 4, none⟩ = some (.int .i64 x.a4) ∧ w.cell? ⟨b, 5, none⟩ = some (.int .i64 x.a5) ∧ w.cell? ⟨b, 6, none⟩ = some (.int .i64 x.a6) ∧ w.cell? ⟨b, 7, none⟩ = some (.int .i64 x.a7) ∧ w.cell? ⟨b, 8, none⟩ = some (.int .i64 x.a8) ∧ w.cell? ⟨b, 9, none⟩ = some (.int .i64 x.a9)
theorem BoxS.drew {w0 w : World} {b : Nat} {x : In} (h : BoxS w0 b x w) : BoxS w0 b x w.drew := ⟨h.1, h.2.1.drew, h.2.2⟩
theorem BoxS.call {w0 w w' : World} {b : Nat} {x : In} (hb : Below w.heap.size w w') (h : BoxS w0 b x w) : BoxS w0 b x w' :=
  ⟨Nat.lt_of_lt_of_le h.1 hb.size, h.2.1.trans (hb.mono h.2.1.size), by
    obtain ⟨h1, _, h2⟩ := h
    have hc := fun k => hb.cell (p := ⟨b, k, none⟩) h1
    simpa only [hc] using h2⟩
theorem BoxS.new (w : World) (x : In) (t : TypeId) : BoxS w w.heap.size x (w.alloc (.cells #[.int .i64 x.a0, .int .i64 x.a1, .int .i64 x.a2, .int .i64 x.a3, .int .i64 x.a4, .int .i64 x.a5, .int .i64 x.a6, .int .i64 x.a7, .int .i64 x.a8, .int .i64 x.a9] t)) :=
  ⟨by simp, bal (Below.refl _ _) _, by simp⟩
theorem eq_array_same {P : Program} {t e : TypeId} {len d : Nat} {vs : Array Value} (hu : P.underlying t = some (.array len e)) (hs : ∀ W, (sizeOf e).run P W = .ok 1 W)
    (he : ∀ i, i < len → ∃ v, (∀ W, (part e vs i).run P W = .ok v W) ∧ ∀ W, (Op.equalIn d e v v).run P W = .ok true W) (W : World) : (Op.equalIn (d + 1) t (.agg vs) (.agg vs)).run P W = .ok true W := by
  rw [Op.equalIn]
  simp only [Sem.run_bind, run_underlying hu, Result.andThen_ok, hs, Std.Legacy.Range.forIn_eq_forIn_range', Std.Legacy.Range.size, Nat.mul_one]
  have hl : ∀ i ∈ List.range' 0 ((len - 0 + 1 - 1) / 1) 1, i < len := by intro i hi; simp at hi; omega
  generalize List.range' 0 ((len - 0 + 1 - 1) / 1) 1 = l at hl
  induction l with
  | nil => simp
  | cons i l ih =>
    obtain ⟨v, h1, h2⟩ := he i (hl i (by simp))
    simp only [List.forIn_cons, Sem.run_bind, h1, h2, Result.andThen_ok, Bool.not_true, Bool.false_eq_true, if_false, Sem.run_pure]
    exact ih (fun j hj => hl j (by simp [hj]))
theorem eq10 (y0 y1 y2 y3 y4 y5 y6 y7 y8 y9 : Int) (W : World) : (Op.equalIn 9999 22 (.agg #[.int .i64 y0, .int .i64 y1, .int .i64 y2, .int .i64 y3, .int .i64 y4, .int .i64 y5, .int .i64 y6, .int .i64 y7, .int .i64 y8, .int .i64 y9]) (.agg #[.int .i64 y0, .int .i64 y1, .int .i64 y2, .int .i64 y3, .int .i64 y4, .int .i64 y5, .int .i64 y6, .int .i64 y7, .int .i64 y8, .int .i64 y9])).run Try.prog W = .ok true W := by
  refine eq_array_same (d := 9998) Try.underlying22 (fun _ => by kernel_rfl) (fun i hi => ?_) W
  have hq : ∀ (x : Int) (W : World), (Op.equalIn 9998 3 (.int .i64 x) (.int .i64 x)).run Try.prog W = .ok true W := fun x W => by
    rw [show (9998 : Nat) = 9997 + 1 from rfl, Op.equalIn]
    simp [run_underlying Try.underlying3]
  have : i = 0 ∨ i = 1 ∨ i = 2 ∨ i = 3 ∨ i = 4 ∨ i = 5 ∨ i = 6 ∨ i = 7 ∨ i = 8 ∨ i = 9 := by omega
  rcases this with rfl | rfl | rfl | rfl | rfl | rfl | rfl | rfl | rfl | rfl <;> exact ⟨_, fun W => rfl, fun W => hq _ W⟩
theorem quietAt_of_run {P : Program} {C : World → Prop} {o : Oper} {a : Act} {w : World} {v : Value} (h : (execOp a.eval o).run P w = .ok (.value v) w) : o.quietAt P a C w v := by
  unfold Oper.quietAt
  rw [h]
  exact ⟨rfl, rfl⟩
theorem is_in (k : Int) (h : 4 ≤ k) (h' : k ≤ 6) (w : World) : Calls Try.prog 14 #[.int .i64 k] w fun e w' => e = .returned (.bool true) ∧ w = w' := by
  go_enter Try.func14, Try.ntmps14
  go_wp2
  go_ret
  exact ⟨rfl, rfl⟩
theorem is_lo (k : Int) (h : k < 4) (w : World) : Calls Try.prog 14 #[.int .i64 k] w fun e w' => e = .returned (.bool false) ∧ w = w' := by
  go_enter Try.func14, Try.ntmps14
  go_wp2
  go_ret
  exact ⟨rfl, rfl⟩
theorem is_hi (k : Int) (h : 6 < k) (w : World) : Calls Try.prog 14 #[.int .i64 k] w fun e w' => e = .returned (.bool false) ∧ w = w' := by
  go_enter Try.func14, Try.ntmps14
  go_wp2
  go_ret
  exact ⟨by simp; omega, rfl⟩
theorem awake_step (w : World) : Calls Try.prog 12 #[.int .i64 4, .agg #[.int .i64 1, .int .i64 0, .int .i64 1, .int .i64 0, .int .i64 0, .int .i64 0, .int .i64 0, .int .i64 0, .int .i64 0, .int .i64 0]] w
    fun e w' => e = .returned (.agg #[.int .i64 1, .int .i64 0, .int .i64 1, .int .i64 1, .int .i64 1, .int .i64 1, .int .i64 0, .int .i64 0, .int .i64 0, .int .i64 0]) ∧ Below w.heap.size w w' := by
  refine (step4 ⟨1, 0, 1, 0, 0, 0, 0, 0, 0, 0⟩ w).mono ?_
  rintro e w' ⟨rfl, hb⟩
  exact ⟨by simp [ctuS, ctuC, risen, turnS, bi, wrap64], hb⟩
theorem awake_any (w : World) : Calls Try.prog 15 #[] w fun e w' => e = .returned (.bool true) ∧ Below w.heap.size w w' := by
  go_enter Try.func15, Try.ntmps15
  go_wp2_with (first
    | (go_at_call 12; refine (awake_step _).mono ?_; rintro e w' ⟨rfl, hb⟩)
    | (go_at_call 14; refine (is_in 6 (by decide) (by decide) _).mono ?_; rintro e w' ⟨rfl, rfl⟩))
  go_ret
  exact ⟨rfl, bal hb _⟩

set_option maxRecDepth 100000 in
set_option maxHeartbeats 4000000 in
theorem CountSteps_walk (k : Int) (x : In) (w : World) (_ : (Lit.int .i64 k).wf = true) (_ : x.wf) : Calls Try.prog 3 #[.int .i64 k, x.v] w fun e w' => e = .returned (.bool true) ∧ Below w.heap.size w w' := by
  generalize hy : countS k x = y
  have Hy := Aside.mk hy
  clear hy
  obtain ⟨x0, x1, x2, x3, x4, x5, x6, x7, x8, x9⟩ := x
  obtain ⟨y0, y1, y2, y3, y4, y5, y6, y7, y8, y9⟩ := y
  have s1 : ∀ W : World, Calls Try.prog 12 #[.int .i64 k, In.v ⟨x0, x1, x2, x3, x4, x5, x6, x7, x8, x9⟩] W fun e w' => e = .returned (In.v ⟨y0, y1, y2, y3, y4, y5, y6, y7, y8, y9⟩) ∧ Below W.heap.size W w' := fun W => by
    rw [← Hy.out]; exact step_any _ _ _
  have s2 : ∀ W : World, Calls Try.prog 13 #[.int .i64 k, In.v ⟨x0, x1, x2, x3, x4, x5, x6, x7, x8, x9⟩] W fun e w' => e = .returned (In.v ⟨y0, y1, y2, y3, y4, y5, y6, y7, y8, y9⟩) ∧ Below W.heap.size W w' := fun W => by
    rw [← Hy.out]; exact rstep_any _ _ _
  have S1 := Aside.mk s1
  have S2 := Aside.mk s2
  clear s1 s2 Hy
  by_cases h4 : 4 ≤ k
  rotate_left
  · have hd4 : decide (4 ≤ k) = false := by simp; omega
    go_enter Try.func3, Try.ntmps3
    have heq := eq10 y0 y1 y2 y3 y4 y5 y6 y7 y8 y9
    go_wp2_with fail
    have h0 : BoxS w w.heap.size ⟨x0, x1, x2, x3, x4, x5, x6, x7, x8, x9⟩ (w.alloc (.cells #[.int .i64 x0, .int .i64 x1, .int .i64 x2, .int .i64 x3, .int .i64 x4, .int .i64 x5, .int .i64 x6, .int .i64 x7, .int .i64 x8, .int .i64 x9] 24)) := BoxS.new w ⟨x0, x1, x2, x3, x4, x5, x6, x7, x8, x9⟩ _
    generalize (w.alloc (.cells #[.int .i64 x0, .int .i64 x1, .int .i64 x2, .int .i64 x3, .int .i64 x4, .int .i64 x5, .int .i64 x6, .int .i64 x7, .int .i64 x8, .int .i64 x9] 24)) = W0 at *
    refine wp_region_quiet (C := BoxS w w.heap.size ⟨x0, x1, x2, x3, x4, x5, x6, x7, x8, x9⟩) (by kernel_rfl) (by kernel_rfl) (BoxS.drew h0) ?_
    simp only
    repeat (refine wpQuiet_step (fun K hK => ?_); first
      | (go_simp; first
        | (refine hK _ ?_; clear hK K)
        | (refine ⟨_, fun _ _ => rfl, hK _ ?_⟩; clear hK K)
        | (with_reducible refine ⟨_, fun W hW => (S1.out W).mono fun e w' ⟨he, hb⟩ => ⟨he, BoxS.call hb hW⟩, hK _ ?_⟩; clear hK K)
        | (with_reducible refine ⟨_, fun W hW => (S2.out W).mono fun e w' ⟨he, hb⟩ => ⟨he, BoxS.call hb hW⟩, hK _ ?_⟩; clear hK K)
        | (with_reducible refine ⟨_, fun W hW => (awake_any W).mono fun e w' ⟨he, hb⟩ => ⟨he, BoxS.call hb hW⟩, hK _ ?_⟩; clear hK K)
        | (with_reducible refine ⟨_, fun W hW => (is_lo k (by omega) W).mono fun e w' ⟨he, hw⟩ => ⟨he, hw ▸ hW⟩, hK _ ?_⟩; clear hK K))
      | (rw [if_pos (by rfl)]; refine ⟨In.v ⟨x0, x1, x2, x3, x4, x5, x6, x7, x8, x9⟩, fun W hW => quietAt_of_run ?_, hK _ ?_⟩; (focus obtain ⟨z0, z1, c0, c1, c2, c3, c4, c5, c6, c7, c8, c9⟩ := hW; go_simp); clear hK K))
    refine wpQuiet_nil ?_
    intro W hW
    go_wp2
    go_ret
    exact ⟨rfl, hW.2.1⟩
  by_cases h6 : k ≤ 6
  rotate_left
  · have hd4 : decide (4 ≤ k) = true := by simp; omega
    have hd6 : decide (k ≤ 6) = false := by simp; omega
    go_enter Try.func3, Try.ntmps3
    have heq := eq10 y0 y1 y2 y3 y4 y5 y6 y7 y8 y9
    go_wp2_with fail
    have h0 : BoxS w w.heap.size ⟨x0, x1, x2, x3, x4, x5, x6, x7, x8, x9⟩ (w.alloc (.cells #[.int .i64 x0, .int .i64 x1, .int .i64 x2, .int .i64 x3, .int .i64 x4, .int .i64 x5, .int .i64 x6, .int .i64 x7, .int .i64 x8, .int .i64 x9] 24)) := BoxS.new w ⟨x0, x1, x2, x3, x4, x5, x6, x7, x8, x9⟩ _
    generalize (w.alloc (.cells #[.int .i64 x0, .int .i64 x1, .int .i64 x2, .int .i64 x3, .int .i64 x4, .int .i64 x5, .int .i64 x6, .int .i64 x7, .int .i64 x8, .int .i64 x9] 24)) = W0 at *
    refine wp_region_quiet (C := BoxS w w.heap.size ⟨x0, x1, x2, x3, x4, x5, x6, x7, x8, x9⟩) (by kernel_rfl) (by kernel_rfl) (BoxS.drew h0) ?_
    simp only
    repeat (refine wpQuiet_step (fun K hK => ?_); first
      | (go_simp; first
        | (refine hK _ ?_; clear hK K)
        | (refine ⟨_, fun _ _ => rfl, hK _ ?_⟩; clear hK K)
        | (with_reducible refine ⟨_, fun W hW => (S1.out W).mono fun e w' ⟨he, hb⟩ => ⟨he, BoxS.call hb hW⟩, hK _ ?_⟩; clear hK K)
        | (with_reducible refine ⟨_, fun W hW => (S2.out W).mono fun e w' ⟨he, hb⟩ => ⟨he, BoxS.call hb hW⟩, hK _ ?_⟩; clear hK K)
        | (with_reducible refine ⟨_, fun W hW => (awake_any W).mono fun e w' ⟨he, hb⟩ => ⟨he, BoxS.call hb hW⟩, hK _ ?_⟩; clear hK K)
        | (with_reducible refine ⟨_, fun W hW => (is_hi k (by omega) W).mono fun e w' ⟨he, hw⟩ => ⟨he, hw ▸ hW⟩, hK _ ?_⟩; clear hK K))
      | (rw [if_pos (by rfl)]; refine ⟨In.v ⟨x0, x1, x2, x3, x4, x5, x6, x7, x8, x9⟩, fun W hW => quietAt_of_run ?_, hK _ ?_⟩; (focus obtain ⟨z0, z1, c0, c1, c2, c3, c4, c5, c6, c7, c8, c9⟩ := hW; go_simp); clear hK K))
    refine wpQuiet_nil ?_
    intro W hW
    go_wp2
    go_ret
    exact ⟨rfl, hW.2.1⟩
  · have hd4 : decide (4 ≤ k) = true := by simp; omega
    have hd6 : decide (k ≤ 6) = true := by simp; omega
    go_enter Try.func3, Try.ntmps3
    have heq := eq10 y0 y1 y2 y3 y4 y5 y6 y7 y8 y9
    go_wp2_with fail
    have h0 : BoxS w w.heap.size ⟨x0, x1, x2, x3, x4, x5, x6, x7, x8, x9⟩ (w.alloc (.cells #[.int .i64 x0, .int .i64 x1, .int .i64 x2, .int .i64 x3, .int .i64 x4, .int .i64 x5, .int .i64 x6, .int .i64 x7, .int .i64 x8, .int .i64 x9] 24)) := BoxS.new w ⟨x0, x1, x2, x3, x4, x5, x6, x7, x8, x9⟩ _
    generalize (w.alloc (.cells #[.int .i64 x0, .int .i64 x1, .int .i64 x2, .int .i64 x3, .int .i64 x4, .int .i64 x5, .int .i64 x6, .int .i64 x7, .int .i64 x8, .int .i64 x9] 24)) = W0 at *
    refine wp_region_quiet (C := BoxS w w.heap.size ⟨x0, x1, x2, x3, x4, x5, x6, x7, x8, x9⟩) (by kernel_rfl) (by kernel_rfl) (BoxS.drew h0) ?_
    simp only
    repeat (refine wpQuiet_step (fun K hK => ?_); first
      | (go_simp; first
        | (refine hK _ ?_; clear hK K)
        | (refine ⟨_, fun _ _ => rfl, hK _ ?_⟩; clear hK K)
        | (with_reducible refine ⟨_, fun W hW => (S1.out W).mono fun e w' ⟨he, hb⟩ => ⟨he, BoxS.call hb hW⟩, hK _ ?_⟩; clear hK K)
        | (with_reducible refine ⟨_, fun W hW => (S2.out W).mono fun e w' ⟨he, hb⟩ => ⟨he, BoxS.call hb hW⟩, hK _ ?_⟩; clear hK K)
        | (with_reducible refine ⟨_, fun W hW => (awake_any W).mono fun e w' ⟨he, hb⟩ => ⟨he, BoxS.call hb hW⟩, hK _ ?_⟩; clear hK K)
        | (with_reducible refine ⟨_, fun W hW => (is_in k (by omega) (by omega) W).mono fun e w' ⟨he, hw⟩ => ⟨he, hw ▸ hW⟩, hK _ ?_⟩; clear hK K))
      | (rw [if_pos (by rfl)]; refine ⟨In.v ⟨x0, x1, x2, x3, x4, x5, x6, x7, x8, x9⟩, fun W hW => quietAt_of_run ?_, hK _ ?_⟩; (focus obtain ⟨z0, z1, c0, c1, c2, c3, c4, c5, c6, c7, c8, c9⟩ := hW; go_simp); clear hK K))
    refine wpQuiet_nil ?_
    intro W hW
    go_wp2
    go_ret
    exact ⟨rfl, hW.2.1⟩
end Go.Proofs.Ytgmfbmfacodmpaa
