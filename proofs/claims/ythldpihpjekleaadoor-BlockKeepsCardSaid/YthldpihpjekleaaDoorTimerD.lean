/- ladderbackref08.Step computes timerS. No condition. -/
import Derived.Test.YthldpihpjekleaaDoorTimerC
namespace Go.Proofs.YthldpihpjekleaaDoor
open Go.RowKit
set_option linter.unusedSimpArgs false
attribute [local go_sem] setCell_drewN2 alloc_drewN2

set_option maxRecDepth 100000 in
set_option maxHeartbeats 8000000 in
theorem trstep1 (x : In) (now : Int) (w : World) :
   Calls Tryd.prog 44 #[.int .i64 1, x.v, .int .i64 now] w fun e w' => e = .returned (delayS x now).v ∧ Below w.heap.size w w' := by
  obtain ⟨x0, x1, x2, x3, x4, x5, x6, x7, x8, x9⟩ := x
  go_enter Tryd.func44, Tryd.ntmps44
  go_wp2_with (first
    | (go_at_call 76; (with_reducible refine (rtold_any ⟨_, _, _, _, _, _, _, _, _, _⟩ _ _).mono ?_); rintro e w' ⟨rfl, n, rfl⟩)
    | (go_at_call 79; go_in))
  all_goals try (go_region_with (first
    | (go_at_call 77; (with_reducible refine (rlong_any ⟨_, _, _, _, _, _, _, _, _, _⟩ _ _).mono ?_); rintro e w' ⟨rfl, n, rfl⟩)
    | (go_at_call 78; (with_reducible refine (rpt_any ⟨_, _, _, _, _, _, _, _, _, _⟩ _).mono ?_); rintro e w' ⟨rfl, rfl⟩)))
  all_goals try (go_wp2_with (first
    | (go_at_call 76; (with_reducible refine (rtold_any ⟨_, _, _, _, _, _, _, _, _, _⟩ _ _).mono ?_); rintro e w' ⟨rfl, n, rfl⟩)
    | (go_at_call 79; go_in)))
  all_goals
    refine bodyPost_ret (v := (delayS ⟨x0, x1, x2, x3, x4, x5, x6, x7, x8, x9⟩ now).v) ?_ rfl ⟨rfl, by with_reducible repeat (first | exact Below.refl _ _ | refine bal ?_ _ | refine Below.drew ?_ | refine below_drewN ?_ _)⟩
    go_light
    simp only [Bool.not_eq_true', Bool.not_eq_false', bne_iff_ne, ne_eq, bne_eq_false_iff_eq, beq_iff_eq, beq_eq_false_iff_ne, ← Int.not_le] at *
    first | (simp [results, Tryd.results44, go_sem, delayS, due, In.v, bi, *]; done) | (simp_all [results, Tryd.results44, go_sem, delayS, due, In.v, bi]; done)

set_option maxRecDepth 100000 in
set_option maxHeartbeats 8000000 in
theorem trstep2 (x : In) (now : Int) (w : World) :
   Calls Tryd.prog 44 #[.int .i64 2, x.v, .int .i64 now] w fun e w' => e = .returned (holdS x now).v ∧ Below w.heap.size w w' := by
  obtain ⟨x0, x1, x2, x3, x4, x5, x6, x7, x8, x9⟩ := x
  go_enter Tryd.func44, Tryd.ntmps44
  go_wp2_with (first
    | (go_at_call 76; (with_reducible refine (rtold_any ⟨_, _, _, _, _, _, _, _, _, _⟩ _ _).mono ?_); rintro e w' ⟨rfl, n, rfl⟩)
    | (go_at_call 79; go_in))
  all_goals try (go_region_with (first
    | (go_at_call 77; (with_reducible refine (rlong_any ⟨_, _, _, _, _, _, _, _, _, _⟩ _ _).mono ?_); rintro e w' ⟨rfl, n, rfl⟩)
    | (go_at_call 78; (with_reducible refine (rpt_any ⟨_, _, _, _, _, _, _, _, _, _⟩ _).mono ?_); rintro e w' ⟨rfl, rfl⟩)))
  all_goals try (go_wp2_with (first
    | (go_at_call 76; (with_reducible refine (rtold_any ⟨_, _, _, _, _, _, _, _, _, _⟩ _ _).mono ?_); rintro e w' ⟨rfl, n, rfl⟩)
    | (go_at_call 79; go_in)))
  all_goals
    refine bodyPost_ret (v := (holdS ⟨x0, x1, x2, x3, x4, x5, x6, x7, x8, x9⟩ now).v) ?_ rfl ⟨rfl, by with_reducible repeat (first | exact Below.refl _ _ | refine bal ?_ _ | refine Below.drew ?_ | refine below_drewN ?_ _)⟩
    go_light
    simp only [Bool.not_eq_true', Bool.not_eq_false', bne_iff_ne, ne_eq, bne_eq_false_iff_eq, beq_iff_eq, beq_eq_false_iff_ne, ← Int.not_le] at *
    first | (simp [results, Tryd.results44, go_sem, holdS, due, In.v, bi, *]; done) | (simp_all [results, Tryd.results44, go_sem, holdS, due, In.v, bi]; done)
end Go.Proofs.YthldpihpjekleaaDoor
