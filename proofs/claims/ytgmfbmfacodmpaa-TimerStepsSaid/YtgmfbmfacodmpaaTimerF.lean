/- The law TimerSteps, walked. No condition. -/
import Derived.Test.YtgmfbmfacodmpaaTimerD
import Derived.Test.YtgmfbmfacodmpaaTimerE
namespace Go.Proofs.Ytgmfbmfacodmpaa
open Go.RowKit
set_option linter.unusedSimpArgs false
attribute [local go_sem] setCell_drewN2 alloc_drewN2
set_option maxRecDepth 100000 in
set_option maxHeartbeats 4000000 in
theorem trstep_no (k : Int) (h1 : (k == 1) = false) (h2 : (k == 2) = false) (h3 : (k == 3) = false) (x : In) (now : Int) (w : World) :
   Calls Try.prog 17 #[.int .i64 k, x.v, .int .i64 now] w fun e w' => e = .returned x.v ∧ Below w.heap.size w w' := by
  obtain ⟨x0, x1, x2, x3, x4, x5, x6, x7, x8, x9⟩ := x
  go_enter Try.func17, Try.ntmps17
  go_wp2
  refine bodyPost_ret (v := In.v ⟨x0, x1, x2, x3, x4, x5, x6, x7, x8, x9⟩) ?_ rfl ⟨rfl, by with_reducible repeat (first | exact Below.refl _ _ | refine bal ?_ _)⟩
  go_light
  simp [results, Try.results17, go_sem, In.v]
theorem trstep_any (k : Int) (x : In) (now : Int) (w : World) :
   Calls Try.prog 17 #[.int .i64 k, x.v, .int .i64 now] w fun e w' => e = .returned (timerS k x now).v ∧ Below w.heap.size w w' := by
  unfold timerS
  by_cases h1 : k = 1
  · subst h1; exact trstep1 x now w
  by_cases h2 : k = 2
  · subst h2; exact trstep2 x now w
  by_cases h3 : k = 3
  · subst h3; exact trstep3 x now w
  rw [if_neg h1, if_neg h2, if_neg h3]
  exact trstep_no k (by simpa using h1) (by simpa using h2) (by simpa using h3) x now w
theorem tis_in (k : Int) (h : 1 ≤ k) (h' : k ≤ 3) (w : World) : Calls Try.prog 18 #[.int .i64 k] w fun e w' => e = .returned (.bool true) ∧ w = w' := by
  go_enter Try.func18, Try.ntmps18
  go_wp2
  go_ret
  exact ⟨rfl, rfl⟩
theorem tis_lo (k : Int) (h : k < 1) (w : World) : Calls Try.prog 18 #[.int .i64 k] w fun e w' => e = .returned (.bool false) ∧ w = w' := by
  go_enter Try.func18, Try.ntmps18
  go_wp2
  go_ret
  exact ⟨rfl, rfl⟩
theorem tis_hi (k : Int) (h : 3 < k) (w : World) : Calls Try.prog 18 #[.int .i64 k] w fun e w' => e = .returned (.bool false) ∧ w = w' := by
  go_enter Try.func18, Try.ntmps18
  go_wp2
  go_ret
  exact ⟨by simp; omega, rfl⟩
theorem tawake1 (w : World) : Calls Try.prog 16 #[.int .i64 1, .agg #[.int .i64 1, .int .i64 5, .int .i64 0, .int .i64 0, .int .i64 0, .int .i64 0, .int .i64 0, .int .i64 0, .int .i64 0, .int .i64 0], .int .i64 10] w
    fun e w' => e = .returned (.agg #[.int .i64 1, .int .i64 5, .int .i64 0, .int .i64 0, .int .i64 1, .int .i64 10, .int .i64 0, .int .i64 0, .int .i64 0, .int .i64 0]) ∧ Below w.heap.size w w' := by
  refine (tstep1 ⟨1, 5, 0, 0, 0, 0, 0, 0, 0, 0⟩ 10 w).mono ?_
  rintro e w' ⟨rfl, hb⟩
  exact ⟨by simp [delayS, due, etS, ptS, longS, hd, imax, imin, bi, In.v], hb⟩
theorem tawake2 (w : World) : Calls Try.prog 16 #[.int .i64 1, .agg #[.int .i64 1, .int .i64 5, .int .i64 0, .int .i64 0, .int .i64 1, .int .i64 10, .int .i64 0, .int .i64 0, .int .i64 0, .int .i64 0], .int .i64 15] w
    fun e w' => e = .returned (.agg #[.int .i64 1, .int .i64 5, .int .i64 1, .int .i64 5, .int .i64 1, .int .i64 10, .int .i64 0, .int .i64 0, .int .i64 0, .int .i64 0]) ∧ Below w.heap.size w w' := by
  refine (tstep1 ⟨1, 5, 0, 0, 1, 10, 0, 0, 0, 0⟩ 15 w).mono ?_
  rintro e w' ⟨rfl, hb⟩
  exact ⟨by simp [delayS, due, etS, ptS, longS, hd, imax, imin, bi, In.v], hb⟩
theorem tawake_any (w : World) : Calls Try.prog 19 #[] w fun e w' => e = .returned (.bool true) ∧ Below w.heap.size w w' := by
  go_enter Try.func19, Try.ntmps19
  go_wp2_with (first
    | (go_at_call 16; first
      | ((with_reducible refine (tawake1 _).mono ?_); rintro e w' ⟨rfl, hb⟩)
      | ((with_reducible refine (tawake2 _).mono ?_); rintro e w2 ⟨rfl, hb2⟩; have hc2 := fun k => hb2.cell (p := ⟨w'.heap.size, k, none⟩) (by simp); have hz2 := fun k => hb2.frozen (p := ⟨w'.heap.size, k, none⟩) (by simp)))
    | (go_at_call 18; refine (tis_in 3 (by decide) (by decide) _).mono ?_; rintro e w' ⟨rfl, rfl⟩))
  go_ret
  exact ⟨rfl, by (with_reducible repeat (refine Below.setCell ?_ hb.size _)); exact below_step' (bal hb _) hb2⟩
set_option maxRecDepth 100000 in
set_option maxHeartbeats 4000000 in
theorem TimerSteps_walk (k : Int) (x : In) (now : Int) (w : World) (_ : (Lit.int .i64 k).wf = true) (_ : x.wf) (_ : (Lit.int .i64 now).wf = true) : Calls Try.prog 6 #[.int .i64 k, x.v, .int .i64 now] w fun e w' => e = .returned (.bool true) ∧ Below w.heap.size w w' := by
  generalize hy : timerS k x now = y
  have Hy := Aside.mk hy
  clear hy
  obtain ⟨x0, x1, x2, x3, x4, x5, x6, x7, x8, x9⟩ := x
  obtain ⟨y0, y1, y2, y3, y4, y5, y6, y7, y8, y9⟩ := y
  have s1 : ∀ W : World, Calls Try.prog 16 #[.int .i64 k, In.v ⟨x0, x1, x2, x3, x4, x5, x6, x7, x8, x9⟩, .int .i64 now] W fun e w' => e = .returned (In.v ⟨y0, y1, y2, y3, y4, y5, y6, y7, y8, y9⟩) ∧ Below W.heap.size W w' := fun W => by
    rw [← Hy.out]; exact tstep_any _ _ _ _
  have s2 : ∀ W : World, Calls Try.prog 17 #[.int .i64 k, In.v ⟨x0, x1, x2, x3, x4, x5, x6, x7, x8, x9⟩, .int .i64 now] W fun e w' => e = .returned (In.v ⟨y0, y1, y2, y3, y4, y5, y6, y7, y8, y9⟩) ∧ Below W.heap.size W w' := fun W => by
    rw [← Hy.out]; exact trstep_any _ _ _ _
  have S1 := Aside.mk s1
  have S2 := Aside.mk s2
  clear s1 s2 Hy
  by_cases h4 : 1 ≤ k
  rotate_left
  · have hd4 : decide (1 ≤ k) = false := by simp; omega
    go_enter Try.func6, Try.ntmps6
    have heq := eq10 y0 y1 y2 y3 y4 y5 y6 y7 y8 y9
    go_wp2_with fail
    have h0 : BoxS w w.heap.size ⟨x0, x1, x2, x3, x4, x5, x6, x7, x8, x9⟩ (w.alloc (.cells #[.int .i64 x0, .int .i64 x1, .int .i64 x2, .int .i64 x3, .int .i64 x4, .int .i64 x5, .int .i64 x6, .int .i64 x7, .int .i64 x8, .int .i64 x9] 24)) := BoxS.new w ⟨x0, x1, x2, x3, x4, x5, x6, x7, x8, x9⟩ _
    generalize (w.alloc (.cells #[.int .i64 x0, .int .i64 x1, .int .i64 x2, .int .i64 x3, .int .i64 x4, .int .i64 x5, .int .i64 x6, .int .i64 x7, .int .i64 x8, .int .i64 x9] 24)) = W0 at *
    refine wp_region_quiet (C := BoxS w w.heap.size ⟨x0, x1, x2, x3, x4, x5, x6, x7, x8, x9⟩) (by kernel_rfl) (by kernel_rfl) (BoxS.drew h0) ?_
    simp only
    repeat (refine wpQuiet_step (fun K hK => ?_); first
      | (go_simp; first
        | (refine hK _ ?_; clear hK K)
        | (refine ⟨_, fun _ _ => rfl, hK _ ?_⟩; clear hK K)
        | (with_reducible refine ⟨_, fun W hW => (S1.out W).mono fun e w' ⟨he, hb⟩ => ⟨he, BoxS.call hb hW⟩, hK _ ?_⟩; clear hK K)
        | (with_reducible refine ⟨_, fun W hW => (S2.out W).mono fun e w' ⟨he, hb⟩ => ⟨he, BoxS.call hb hW⟩, hK _ ?_⟩; clear hK K)
        | (with_reducible refine ⟨_, fun W hW => (tawake_any W).mono fun e w' ⟨he, hb⟩ => ⟨he, BoxS.call hb hW⟩, hK _ ?_⟩; clear hK K)
        | (with_reducible refine ⟨_, fun W hW => (tis_lo k (by omega) W).mono fun e w' ⟨he, hw⟩ => ⟨he, hw ▸ hW⟩, hK _ ?_⟩; clear hK K))
      | (rw [if_pos (by rfl)]; refine ⟨In.v ⟨x0, x1, x2, x3, x4, x5, x6, x7, x8, x9⟩, fun W hW => quietAt_of_run ?_, hK _ ?_⟩; (focus obtain ⟨z0, z1, c0, c1, c2, c3, c4, c5, c6, c7, c8, c9⟩ := hW; go_simp); clear hK K))
    refine wpQuiet_nil ?_
    intro W hW
    go_wp2
    go_ret
    exact ⟨rfl, hW.2.1⟩
  by_cases h6 : k ≤ 3
  rotate_left
  · have hd4 : decide (1 ≤ k) = true := by simp; omega
    have hd6 : decide (k ≤ 3) = false := by simp; omega
    go_enter Try.func6, Try.ntmps6
    have heq := eq10 y0 y1 y2 y3 y4 y5 y6 y7 y8 y9
    go_wp2_with fail
    have h0 : BoxS w w.heap.size ⟨x0, x1, x2, x3, x4, x5, x6, x7, x8, x9⟩ (w.alloc (.cells #[.int .i64 x0, .int .i64 x1, .int .i64 x2, .int .i64 x3, .int .i64 x4, .int .i64 x5, .int .i64 x6, .int .i64 x7, .int .i64 x8, .int .i64 x9] 24)) := BoxS.new w ⟨x0, x1, x2, x3, x4, x5, x6, x7, x8, x9⟩ _
    generalize (w.alloc (.cells #[.int .i64 x0, .int .i64 x1, .int .i64 x2, .int .i64 x3, .int .i64 x4, .int .i64 x5, .int .i64 x6, .int .i64 x7, .int .i64 x8, .int .i64 x9] 24)) = W0 at *
    refine wp_region_quiet (C := BoxS w w.heap.size ⟨x0, x1, x2, x3, x4, x5, x6, x7, x8, x9⟩) (by kernel_rfl) (by kernel_rfl) (BoxS.drew h0) ?_
    simp only
    repeat (refine wpQuiet_step (fun K hK => ?_); first
      | (go_simp; first
        | (refine hK _ ?_; clear hK K)
        | (refine ⟨_, fun _ _ => rfl, hK _ ?_⟩; clear hK K)
        | (with_reducible refine ⟨_, fun W hW => (S1.out W).mono fun e w' ⟨he, hb⟩ => ⟨he, BoxS.call hb hW⟩, hK _ ?_⟩; clear hK K)
        | (with_reducible refine ⟨_, fun W hW => (S2.out W).mono fun e w' ⟨he, hb⟩ => ⟨he, BoxS.call hb hW⟩, hK _ ?_⟩; clear hK K)
        | (with_reducible refine ⟨_, fun W hW => (tawake_any W).mono fun e w' ⟨he, hb⟩ => ⟨he, BoxS.call hb hW⟩, hK _ ?_⟩; clear hK K)
        | (with_reducible refine ⟨_, fun W hW => (tis_hi k (by omega) W).mono fun e w' ⟨he, hw⟩ => ⟨he, hw ▸ hW⟩, hK _ ?_⟩; clear hK K))
      | (rw [if_pos (by rfl)]; refine ⟨In.v ⟨x0, x1, x2, x3, x4, x5, x6, x7, x8, x9⟩, fun W hW => quietAt_of_run ?_, hK _ ?_⟩; (focus obtain ⟨z0, z1, c0, c1, c2, c3, c4, c5, c6, c7, c8, c9⟩ := hW; go_simp); clear hK K))
    refine wpQuiet_nil ?_
    intro W hW
    go_wp2
    go_ret
    exact ⟨rfl, hW.2.1⟩
  · have hd4 : decide (1 ≤ k) = true := by simp; omega
    have hd6 : decide (k ≤ 3) = true := by simp; omega
    go_enter Try.func6, Try.ntmps6
    have heq := eq10 y0 y1 y2 y3 y4 y5 y6 y7 y8 y9
    go_wp2_with fail
    have h0 : BoxS w w.heap.size ⟨x0, x1, x2, x3, x4, x5, x6, x7, x8, x9⟩ (w.alloc (.cells #[.int .i64 x0, .int .i64 x1, .int .i64 x2, .int .i64 x3, .int .i64 x4, .int .i64 x5, .int .i64 x6, .int .i64 x7, .int .i64 x8, .int .i64 x9] 24)) := BoxS.new w ⟨x0, x1, x2, x3, x4, x5, x6, x7, x8, x9⟩ _
    generalize (w.alloc (.cells #[.int .i64 x0, .int .i64 x1, .int .i64 x2, .int .i64 x3, .int .i64 x4, .int .i64 x5, .int .i64 x6, .int .i64 x7, .int .i64 x8, .int .i64 x9] 24)) = W0 at *
    refine wp_region_quiet (C := BoxS w w.heap.size ⟨x0, x1, x2, x3, x4, x5, x6, x7, x8, x9⟩) (by kernel_rfl) (by kernel_rfl) (BoxS.drew h0) ?_
    simp only
    repeat (refine wpQuiet_step (fun K hK => ?_); first
      | (go_simp; first
        | (refine hK _ ?_; clear hK K)
        | (refine ⟨_, fun _ _ => rfl, hK _ ?_⟩; clear hK K)
        | (with_reducible refine ⟨_, fun W hW => (S1.out W).mono fun e w' ⟨he, hb⟩ => ⟨he, BoxS.call hb hW⟩, hK _ ?_⟩; clear hK K)
        | (with_reducible refine ⟨_, fun W hW => (S2.out W).mono fun e w' ⟨he, hb⟩ => ⟨he, BoxS.call hb hW⟩, hK _ ?_⟩; clear hK K)
        | (with_reducible refine ⟨_, fun W hW => (tawake_any W).mono fun e w' ⟨he, hb⟩ => ⟨he, BoxS.call hb hW⟩, hK _ ?_⟩; clear hK K)
        | (with_reducible refine ⟨_, fun W hW => (tis_in k (by omega) (by omega) W).mono fun e w' ⟨he, hw⟩ => ⟨he, hw ▸ hW⟩, hK _ ?_⟩; clear hK K))
      | (rw [if_pos (by rfl)]; refine ⟨In.v ⟨x0, x1, x2, x3, x4, x5, x6, x7, x8, x9⟩, fun W hW => quietAt_of_run ?_, hK _ ?_⟩; (focus obtain ⟨z0, z1, c0, c1, c2, c3, c4, c5, c6, c7, c8, c9⟩ := hW; go_simp); clear hK K))
    refine wpQuiet_nil ?_
    intro W hW
    go_wp2
    go_ret
    exact ⟨rfl, hW.2.1⟩
end Go.Proofs.Ytgmfbmfacodmpaa
