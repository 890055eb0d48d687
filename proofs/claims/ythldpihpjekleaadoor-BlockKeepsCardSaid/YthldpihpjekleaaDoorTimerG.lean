/- The law TimerSteps, walked. No condition. -/
import Derived.Test.YthldpihpjekleaaDoorTimerD
import Derived.Test.YthldpihpjekleaaDoorTimerE
namespace Go.Proofs.YthldpihpjekleaaDoor
open Go.RowKit
set_option linter.unusedSimpArgs false
attribute [local go_sem] setCell_drewN2 alloc_drewN2
set_option maxRecDepth 100000 in
set_option maxHeartbeats 4000000 in
theorem trstep_no (k : Int) (h1 : (k == 1) = false) (h2 : (k == 2) = false) (h3 : (k == 3) = false) (x : In) (now : Int) (w : World) :
   Calls Tryd.prog 44 #[.int .i64 k, x.v, .int .i64 now] w fun e w' => e = .returned x.v ∧ Below w.heap.size w w' := by
  obtain ⟨x0, x1, x2, x3, x4, x5, x6, x7, x8, x9⟩ := x
  go_enter Tryd.func44, Tryd.ntmps44
  go_wp2
  refine bodyPost_ret (v := In.v ⟨x0, x1, x2, x3, x4, x5, x6, x7, x8, x9⟩) ?_ rfl ⟨rfl, by with_reducible repeat (first | exact Below.refl _ _ | refine bal ?_ _)⟩
  go_light
  simp [results, Tryd.results44, go_sem, In.v]
theorem trstep_any (k : Int) (x : In) (now : Int) (w : World) :
   Calls Tryd.prog 44 #[.int .i64 k, x.v, .int .i64 now] w fun e w' => e = .returned (timerS k x now).v ∧ Below w.heap.size w w' := by
  unfold timerS
  by_cases h1 : k = 1
  · subst h1; exact trstep1 x now w
  by_cases h2 : k = 2
  · subst h2; exact trstep2 x now w
  by_cases h3 : k = 3
  · subst h3; exact trstep3 x now w
  rw [if_neg h1, if_neg h2, if_neg h3]
  exact trstep_no k (by simpa using h1) (by simpa using h2) (by simpa using h3) x now w
end Go.Proofs.YthldpihpjekleaaDoor
