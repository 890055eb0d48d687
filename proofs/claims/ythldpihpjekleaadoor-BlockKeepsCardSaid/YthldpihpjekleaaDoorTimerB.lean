/- timer.Step computes timerS. No condition. -/
import Derived.Test.YthldpihpjekleaaDoorTimerA
import Derived.BigRegion
namespace Go.Proofs.YthldpihpjekleaaDoor
open Go.RowKit
set_option linter.unusedSimpArgs false
theorem setCell_drewN' (w : World) (n : Nat) (a : Addr) (v : Value) : (w.drewN n).setCell a v = (w.setCell a v).drewN n := rfl
attribute [local go_sem] setCell_drewN'
def delayS (x : In) (now : Int) : In :=
  if x.a0 != 0 then
    if x.a4 != 1 then { x with a4 := 1, a5 := now, a2 := bi (due x.a1 now now), a3 := etS x.a1 now now }
    else { x with a2 := bi (due x.a1 x.a5 now), a3 := etS x.a1 x.a5 now }
  else { x with a2 := 0, a3 := 0, a4 := 0 }
def holdS (x : In) (now : Int) : In :=
  if x.a0 != 0 then { x with a2 := 1, a4 := 1, a3 := 0 }
  else if x.a4 == 1 then
    if due x.a1 now now then { x with a3 := etS x.a1 now now, a2 := 0, a4 := 3, a5 := now } else { x with a3 := etS x.a1 now now, a4 := 2, a5 := now }
  else if x.a4 == 2 then
    if due x.a1 x.a5 now then { x with a3 := etS x.a1 x.a5 now, a2 := 0, a4 := 3 } else { x with a3 := etS x.a1 x.a5 now }
  else x
def pulseS (x : In) (now : Int) : In :=
  if x.a4 == 2 then if x.a0 != 0 then x else { x with a4 := 0, a3 := 0 }
  else if x.a4 == 1 then
    if due x.a1 x.a5 now then (if x.a0 != 0 then { x with a3 := etS x.a1 x.a5 now, a2 := 0, a4 := 2 } else { x with a3 := 0, a2 := 0, a4 := 0 }) else { x with a3 := etS x.a1 x.a5 now, a2 := 1 }
  else if x.a0 != 0 then
    if due x.a1 now now then { x with a3 := etS x.a1 now now, a2 := 0, a4 := 2, a5 := now } else { x with a3 := etS x.a1 now now, a2 := 1, a4 := 1, a5 := now }
  else x
def timerS (k : Int) (x : In) (now : Int) : In := if k = 1 then delayS x now else if k = 2 then holdS x now else if k = 3 then pulseS x now else x

set_option maxHeartbeats 4000000 in
theorem tstep1 (x : In) (now : Int) (w : World) :
   Calls Tryd.prog 40 #[.int .i64 1, x.v, .int .i64 now] w fun e w' => e = .returned (delayS x now).v ∧ Below w.heap.size w w' := by
  obtain ⟨x0, x1, x2, x3, x4, x5, x6, x7, x8, x9⟩ := x
  go_enter Tryd.func40, Tryd.ntmps40
  go_wp2_with (first
    | (go_at_call 69; go_in) | (go_at_call 70; go_in) | (go_at_call 71; go_in)
    | (go_at_call 104; first
      | ((with_reducible refine (tell_any w.heap.size x1 x3 x5 now _ ?_ ?_ ?_ ?_).mono ?_); (focus go_simp; done); (focus go_simp; done); (focus go_simp; done); (focus go_simp; done); rintro e w' ⟨rfl, n, rfl⟩)
      | ((with_reducible refine (tell_any w.heap.size x1 x3 now now _ ?_ ?_ ?_ ?_).mono ?_); (focus go_simp; done); (focus go_simp; done); (focus go_simp; done); (focus go_simp; done); rintro e w' ⟨rfl, n, rfl⟩)))
  iterate 6
    all_goals try (first | (go_region; all_goals go_wp2_with (first
        | (go_at_call 69; go_in) | (go_at_call 70; go_in) | (go_at_call 71; go_in)
        | (go_at_call 104; first
          | ((with_reducible refine (tell_any w.heap.size x1 x3 x5 now _ ?_ ?_ ?_ ?_).mono ?_); (focus go_simp; done); (focus go_simp; done); (focus go_simp; done); (focus go_simp; done); rintro e w' ⟨rfl, n, rfl⟩)
          | ((with_reducible refine (tell_any w.heap.size x1 x3 now now _ ?_ ?_ ?_ ?_).mono ?_); (focus go_simp; done); (focus go_simp; done); (focus go_simp; done); (focus go_simp; done); rintro e w' ⟨rfl, n, rfl⟩)))) | (go_end0; go_wp2_with (first
        | (go_at_call 69; go_in) | (go_at_call 70; go_in) | (go_at_call 71; go_in)
        | (go_at_call 104; first
          | ((with_reducible refine (tell_any w.heap.size x1 x3 x5 now _ ?_ ?_ ?_ ?_).mono ?_); (focus go_simp; done); (focus go_simp; done); (focus go_simp; done); (focus go_simp; done); rintro e w' ⟨rfl, n, rfl⟩)
          | ((with_reducible refine (tell_any w.heap.size x1 x3 now now _ ?_ ?_ ?_ ?_).mono ?_); (focus go_simp; done); (focus go_simp; done); (focus go_simp; done); (focus go_simp; done); rintro e w' ⟨rfl, n, rfl⟩)))) | (refine bodyPost_ret (results_none rfl _ _ _) rfl ?_; go_wp2_with (first
        | (go_at_call 69; go_in) | (go_at_call 70; go_in) | (go_at_call 71; go_in)
        | (go_at_call 104; first
          | ((with_reducible refine (tell_any w.heap.size x1 x3 x5 now _ ?_ ?_ ?_ ?_).mono ?_); (focus go_simp; done); (focus go_simp; done); (focus go_simp; done); (focus go_simp; done); rintro e w' ⟨rfl, n, rfl⟩)
          | ((with_reducible refine (tell_any w.heap.size x1 x3 now now _ ?_ ?_ ?_ ?_).mono ?_); (focus go_simp; done); (focus go_simp; done); (focus go_simp; done); (focus go_simp; done); rintro e w' ⟨rfl, n, rfl⟩)))))
  all_goals
    refine bodyPost_ret (v := (delayS ⟨x0, x1, x2, x3, x4, x5, x6, x7, x8, x9⟩ now).v) ?_ rfl ⟨rfl, by with_reducible repeat (first | exact Below.refl _ _ | refine bal ?_ _ | refine Below.drew ?_ | refine below_drewN ?_ _)⟩
    go_light
    simp only [Bool.not_eq_true', Bool.not_eq_false', bne_iff_ne, ne_eq, bne_eq_false_iff_eq, beq_iff_eq, beq_eq_false_iff_ne] at *
    first | (simp [results, Tryd.results40, go_sem, delayS, In.v, bi, *]; done) | (simp_all [results, Tryd.results40, go_sem, delayS, In.v, bi]; done)

set_option maxHeartbeats 4000000 in
theorem tstep2 (x : In) (now : Int) (w : World) :
   Calls Tryd.prog 40 #[.int .i64 2, x.v, .int .i64 now] w fun e w' => e = .returned (holdS x now).v ∧ Below w.heap.size w w' := by
  obtain ⟨x0, x1, x2, x3, x4, x5, x6, x7, x8, x9⟩ := x
  go_enter Tryd.func40, Tryd.ntmps40
  go_wp2_with (first
    | (go_at_call 69; go_in) | (go_at_call 70; go_in) | (go_at_call 71; go_in)
    | (go_at_call 104; first
      | ((with_reducible refine (tell_any w.heap.size x1 x3 x5 now _ ?_ ?_ ?_ ?_).mono ?_); (focus go_simp; done); (focus go_simp; done); (focus go_simp; done); (focus go_simp; done); rintro e w' ⟨rfl, n, rfl⟩)
      | ((with_reducible refine (tell_any w.heap.size x1 x3 now now _ ?_ ?_ ?_ ?_).mono ?_); (focus go_simp; done); (focus go_simp; done); (focus go_simp; done); (focus go_simp; done); rintro e w' ⟨rfl, n, rfl⟩)))
  iterate 6
    all_goals try (first | (go_region; all_goals go_wp2_with (first
        | (go_at_call 69; go_in) | (go_at_call 70; go_in) | (go_at_call 71; go_in)
        | (go_at_call 104; first
          | ((with_reducible refine (tell_any w.heap.size x1 x3 x5 now _ ?_ ?_ ?_ ?_).mono ?_); (focus go_simp; done); (focus go_simp; done); (focus go_simp; done); (focus go_simp; done); rintro e w' ⟨rfl, n, rfl⟩)
          | ((with_reducible refine (tell_any w.heap.size x1 x3 now now _ ?_ ?_ ?_ ?_).mono ?_); (focus go_simp; done); (focus go_simp; done); (focus go_simp; done); (focus go_simp; done); rintro e w' ⟨rfl, n, rfl⟩)))) | (go_end0; go_wp2_with (first
        | (go_at_call 69; go_in) | (go_at_call 70; go_in) | (go_at_call 71; go_in)
        | (go_at_call 104; first
          | ((with_reducible refine (tell_any w.heap.size x1 x3 x5 now _ ?_ ?_ ?_ ?_).mono ?_); (focus go_simp; done); (focus go_simp; done); (focus go_simp; done); (focus go_simp; done); rintro e w' ⟨rfl, n, rfl⟩)
          | ((with_reducible refine (tell_any w.heap.size x1 x3 now now _ ?_ ?_ ?_ ?_).mono ?_); (focus go_simp; done); (focus go_simp; done); (focus go_simp; done); (focus go_simp; done); rintro e w' ⟨rfl, n, rfl⟩)))) | (refine bodyPost_ret (results_none rfl _ _ _) rfl ?_; go_wp2_with (first
        | (go_at_call 69; go_in) | (go_at_call 70; go_in) | (go_at_call 71; go_in)
        | (go_at_call 104; first
          | ((with_reducible refine (tell_any w.heap.size x1 x3 x5 now _ ?_ ?_ ?_ ?_).mono ?_); (focus go_simp; done); (focus go_simp; done); (focus go_simp; done); (focus go_simp; done); rintro e w' ⟨rfl, n, rfl⟩)
          | ((with_reducible refine (tell_any w.heap.size x1 x3 now now _ ?_ ?_ ?_ ?_).mono ?_); (focus go_simp; done); (focus go_simp; done); (focus go_simp; done); (focus go_simp; done); rintro e w' ⟨rfl, n, rfl⟩)))))
  all_goals
    refine bodyPost_ret (v := (holdS ⟨x0, x1, x2, x3, x4, x5, x6, x7, x8, x9⟩ now).v) ?_ rfl ⟨rfl, by with_reducible repeat (first | exact Below.refl _ _ | refine bal ?_ _ | refine Below.drew ?_ | refine below_drewN ?_ _)⟩
    go_light
    simp only [Bool.not_eq_true', Bool.not_eq_false', bne_iff_ne, ne_eq, bne_eq_false_iff_eq, beq_iff_eq, beq_eq_false_iff_ne] at *
    first | (simp [results, Tryd.results40, go_sem, holdS, In.v, bi, *]; done) | (simp_all [results, Tryd.results40, go_sem, holdS, In.v, bi]; done)

set_option maxHeartbeats 4000000 in
theorem tstep3 (x : In) (now : Int) (w : World) :
   Calls Tryd.prog 40 #[.int .i64 3, x.v, .int .i64 now] w fun e w' => e = .returned (pulseS x now).v ∧ Below w.heap.size w w' := by
  obtain ⟨x0, x1, x2, x3, x4, x5, x6, x7, x8, x9⟩ := x
  go_enter Tryd.func40, Tryd.ntmps40
  go_wp2_with (first
    | (go_at_call 69; go_in) | (go_at_call 70; go_in) | (go_at_call 71; go_in)
    | (go_at_call 104; first
      | ((with_reducible refine (tell_any w.heap.size x1 x3 x5 now _ ?_ ?_ ?_ ?_).mono ?_); (focus go_simp; done); (focus go_simp; done); (focus go_simp; done); (focus go_simp; done); rintro e w' ⟨rfl, n, rfl⟩)
      | ((with_reducible refine (tell_any w.heap.size x1 x3 now now _ ?_ ?_ ?_ ?_).mono ?_); (focus go_simp; done); (focus go_simp; done); (focus go_simp; done); (focus go_simp; done); rintro e w' ⟨rfl, n, rfl⟩)))
  iterate 6
    all_goals try (first | (go_region; all_goals go_wp2_with (first
        | (go_at_call 69; go_in) | (go_at_call 70; go_in) | (go_at_call 71; go_in)
        | (go_at_call 104; first
          | ((with_reducible refine (tell_any w.heap.size x1 x3 x5 now _ ?_ ?_ ?_ ?_).mono ?_); (focus go_simp; done); (focus go_simp; done); (focus go_simp; done); (focus go_simp; done); rintro e w' ⟨rfl, n, rfl⟩)
          | ((with_reducible refine (tell_any w.heap.size x1 x3 now now _ ?_ ?_ ?_ ?_).mono ?_); (focus go_simp; done); (focus go_simp; done); (focus go_simp; done); (focus go_simp; done); rintro e w' ⟨rfl, n, rfl⟩)))) | (go_end0; go_wp2_with (first
        | (go_at_call 69; go_in) | (go_at_call 70; go_in) | (go_at_call 71; go_in)
        | (go_at_call 104; first
          | ((with_reducible refine (tell_any w.heap.size x1 x3 x5 now _ ?_ ?_ ?_ ?_).mono ?_); (focus go_simp; done); (focus go_simp; done); (focus go_simp; done); (focus go_simp; done); rintro e w' ⟨rfl, n, rfl⟩)
          | ((with_reducible refine (tell_any w.heap.size x1 x3 now now _ ?_ ?_ ?_ ?_).mono ?_); (focus go_simp; done); (focus go_simp; done); (focus go_simp; done); (focus go_simp; done); rintro e w' ⟨rfl, n, rfl⟩)))) | (refine bodyPost_ret (results_none rfl _ _ _) rfl ?_; go_wp2_with (first
        | (go_at_call 69; go_in) | (go_at_call 70; go_in) | (go_at_call 71; go_in)
        | (go_at_call 104; first
          | ((with_reducible refine (tell_any w.heap.size x1 x3 x5 now _ ?_ ?_ ?_ ?_).mono ?_); (focus go_simp; done); (focus go_simp; done); (focus go_simp; done); (focus go_simp; done); rintro e w' ⟨rfl, n, rfl⟩)
          | ((with_reducible refine (tell_any w.heap.size x1 x3 now now _ ?_ ?_ ?_ ?_).mono ?_); (focus go_simp; done); (focus go_simp; done); (focus go_simp; done); (focus go_simp; done); rintro e w' ⟨rfl, n, rfl⟩)))))
  all_goals
    refine bodyPost_ret (v := (pulseS ⟨x0, x1, x2, x3, x4, x5, x6, x7, x8, x9⟩ now).v) ?_ rfl ⟨rfl, by with_reducible repeat (first | exact Below.refl _ _ | refine bal ?_ _ | refine Below.drew ?_ | refine below_drewN ?_ _)⟩
    go_light
    simp only [Bool.not_eq_true', Bool.not_eq_false', bne_iff_ne, ne_eq, bne_eq_false_iff_eq, beq_iff_eq, beq_eq_false_iff_ne] at *
    first | (simp [results, Tryd.results40, go_sem, pulseS, In.v, bi, *]; done) | (simp_all [results, Tryd.results40, go_sem, pulseS, In.v, bi]; done)

set_option maxHeartbeats 4000000 in
theorem tstep_no (k : Int) (h1 : (k == 1) = false) (h2 : (k == 2) = false) (h3 : (k == 3) = false) (x : In) (now : Int) (w : World) :
   Calls Tryd.prog 40 #[.int .i64 k, x.v, .int .i64 now] w fun e w' => e = .returned x.v ∧ Below w.heap.size w w' := by
  obtain ⟨x0, x1, x2, x3, x4, x5, x6, x7, x8, x9⟩ := x
  go_enter Tryd.func40, Tryd.ntmps40
  go_wp2
  refine bodyPost_ret (v := In.v ⟨x0, x1, x2, x3, x4, x5, x6, x7, x8, x9⟩) ?_ rfl ⟨rfl, by with_reducible repeat (first | exact Below.refl _ _ | refine bal ?_ _)⟩
  go_light
  simp [results, Tryd.results40, go_sem, In.v]
theorem tstep_any (k : Int) (x : In) (now : Int) (w : World) :
   Calls Tryd.prog 40 #[.int .i64 k, x.v, .int .i64 now] w fun e w' => e = .returned (timerS k x now).v ∧ Below w.heap.size w w' := by
  unfold timerS
  by_cases h1 : k = 1
  · subst h1; exact tstep1 x now w
  by_cases h2 : k = 2
  · subst h2; exact tstep2 x now w
  by_cases h3 : k = 3
  · subst h3; exact tstep3 x now w
  rw [if_neg h1, if_neg h2, if_neg h3]
  exact tstep_no k (by simpa using h1) (by simpa using h2) (by simpa using h3) x now w
end Go.Proofs.YthldpihpjekleaaDoor
