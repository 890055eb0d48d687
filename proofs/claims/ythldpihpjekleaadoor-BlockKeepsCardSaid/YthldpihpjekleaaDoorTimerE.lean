/- ladderbackref08.Step computes timerS. No condition. -/
import Derived.Test.YthldpihpjekleaaDoorTimerC
namespace Go.Proofs.YthldpihpjekleaaDoor
open Go.RowKit
set_option linter.unusedSimpArgs false
attribute [local go_sem] setCell_drewN2 alloc_drewN2

theorem below_stepI' {w W w' : World} (h : Below w.heap.size w W) (hb : Below W.heap.size W w') : Below w.heap.size w w' := h.trans (hb.mono h.size)
set_option maxRecDepth 100000 in
set_option maxHeartbeats 8000000 in
theorem rpulse_any (x : In) (now : Int) (w : World) :
   Calls Tryd.prog 79 #[x.v, .bool (x.a0 != 0), .int .i64 now] w fun e w' => e = .returned (pulseS x now).v ∧ Below w.heap.size w w' := by
  obtain ⟨x0, x1, x2, x3, x4, x5, x6, x7, x8, x9⟩ := x
  go_enter Tryd.func79, Tryd.ntmps79
  go_wp2_with (first
    | (go_at_call 76; (with_reducible refine (rtold_any ⟨_, _, _, _, _, _, _, _, _, _⟩ _ _).mono ?_); rintro e w' ⟨rfl, n, rfl⟩))
  all_goals try (go_region_with (first
    | (go_at_call 77; (with_reducible refine (rlong_any ⟨_, _, _, _, _, _, _, _, _, _⟩ _ _).mono ?_); rintro e w' ⟨rfl, n, rfl⟩)
    | (go_at_call 78; (with_reducible refine (rpt_any ⟨_, _, _, _, _, _, _, _, _, _⟩ _).mono ?_); rintro e w' ⟨rfl, rfl⟩)))
  all_goals try (go_wp2_with (first
    | (go_at_call 76; (with_reducible refine (rtold_any ⟨_, _, _, _, _, _, _, _, _, _⟩ _ _).mono ?_); rintro e w' ⟨rfl, n, rfl⟩)))
  all_goals
    refine bodyPost_ret (v := _) ?_ rfl ⟨rfl, by with_reducible repeat (first | exact Below.refl _ _ | refine bal ?_ _ | refine Below.drew ?_ | refine below_drewN ?_ _)⟩
    go_light
    simp only [Bool.not_eq_true', Bool.not_eq_false', bne_iff_ne, ne_eq, bne_eq_false_iff_eq, beq_iff_eq, beq_eq_false_iff_ne, ← Int.not_le] at *
    first | (simp [results, Tryd.results79, go_sem, pulseS, due, In.v, bi, *]; done) | (simp_all [results, Tryd.results79, go_sem, pulseS, due, In.v, bi]; done)

set_option maxRecDepth 100000 in
set_option maxHeartbeats 4000000 in
theorem trstep3 (x : In) (now : Int) (w : World) :
   Calls Tryd.prog 44 #[.int .i64 3, x.v, .int .i64 now] w fun e w' => e = .returned (pulseS x now).v ∧ Below w.heap.size w w' := by
  have s1 := fun W => rpulse_any x now W
  generalize pulseS x now = y at *
  obtain ⟨x0, x1, x2, x3, x4, x5, x6, x7, x8, x9⟩ := x
  obtain ⟨y0, y1, y2, y3, y4, y5, y6, y7, y8, y9⟩ := y
  have S1 := Aside.mk s1
  clear s1
  go_enter Tryd.func44, Tryd.ntmps44
  go_wp2_with (go_at_call 79; refine (S1.out _).mono ?_; rintro e w' ⟨rfl, hb⟩; have hz1 := fun k => hb.frozen (p := ⟨w.heap.size + 1, k, none⟩) (by first | (simp; done) | (simp; omega)); have hc1 := fun k => hb.cell (p := ⟨w.heap.size + 1, k, none⟩) (by first | (simp; done) | (simp; omega)))
  refine bodyPost_ret (v := In.v ⟨y0, y1, y2, y3, y4, y5, y6, y7, y8, y9⟩) ?_ rfl ⟨rfl, ?_⟩
  · go_light
    simp [results, Tryd.results44, go_sem, In.v, *]
  · with_reducible repeat (first | exact below_stepI' (bal (bal (Below.refl _ _) _) _) (by assumption) | refine Below.drew ?_ | refine Below.setCell ?_ (by simp) _)
end Go.Proofs.YthldpihpjekleaaDoor
