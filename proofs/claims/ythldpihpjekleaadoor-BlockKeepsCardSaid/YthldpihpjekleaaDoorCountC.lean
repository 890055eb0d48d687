/- ladderbackref09.Step computes countS. No condition. -/
import Derived.Test.YthldpihpjekleaaDoorCountB
namespace Go.Proofs.YthldpihpjekleaaDoor
open Go.RowKit
set_option linter.unusedSimpArgs false
theorem rbit_any (b : Bool) (w : World) : Calls Tryd.prog 80 #[.bool b] w fun e w' => e = .returned (.int .i64 (bi b)) ∧ w = w' := by
  cases b <;>
  · go_enter Tryd.func80, Tryd.ntmps80
    go_wp2
    go_ret
    exact ⟨rfl, rfl⟩
theorem rup_any (c : Int) (w : World) : Calls Tryd.prog 82 #[.int .i64 c] w fun e w' => e = .returned (.int .i64 (turnS c true false)) ∧ w = w' := by
  by_cases h : c < 32767
  all_goals
    go_enter Tryd.func82, Tryd.ntmps82
    go_wp2
    go_ret
    exact ⟨by congr 2; unfold turnS; simp only [Bool.false_eq_true, not_false_eq_true, true_and, and_true, not_true_eq_false, and_false, false_and, if_false, if_true]; split <;> first | rfl | omega, rfl⟩
theorem rdown_any (c : Int) (w : World) : Calls Tryd.prog 83 #[.int .i64 c] w fun e w' => e = .returned (.int .i64 (turnS c false true)) ∧ w = w' := by
  by_cases h : -32768 < c
  all_goals
    go_enter Tryd.func83, Tryd.ntmps83
    go_wp2
    go_ret
    exact ⟨by congr 2; unfold turnS; simp only [Bool.false_eq_true, not_false_eq_true, true_and, and_true, not_true_eq_false, and_false, false_and, if_false, if_true]; split <;> first | rfl | omega, rfl⟩
set_option maxHeartbeats 1000000 in
theorem rrises_any (x : In) (i j : Int) (v u : Int) (hi : (i = 0 ∧ j = 5 ∧ v = x.a0 ∧ u = x.a5) ∨ (i = 0 ∧ j = 8 ∧ v = x.a0 ∧ u = x.a8) ∨ (i = 1 ∧ j = 9 ∧ v = x.a1 ∧ u = x.a9)) (w : World) :
    Calls Tryd.prog 81 #[x.v, .int .i64 i, .int .i64 j] w fun e w' => e = .returned (.bool (risen v u)) ∧ w' = w.alloc (.cells #[.int .i64 x.a0, .int .i64 x.a1, .int .i64 x.a2, .int .i64 x.a3, .int .i64 x.a4, .int .i64 x.a5, .int .i64 x.a6, .int .i64 x.a7, .int .i64 x.a8, .int .i64 x.a9] 24) := by
  obtain ⟨x0, x1, x2, x3, x4, x5, x6, x7, x8, x9⟩ := x
  simp only at hi
  by_cases hv : v = 0
  all_goals rcases hi with ⟨rfl, rfl, rfl, rfl⟩ | ⟨rfl, rfl, rfl, rfl⟩ | ⟨rfl, rfl, rfl, rfl⟩
  all_goals
    go_enter Tryd.func81, Tryd.ntmps81
    go_wp2
    go_ret
    exact ⟨by simp_all [risen], by simp [*]⟩
set_option maxRecDepth 100000 in
set_option maxHeartbeats 4000000 in
theorem rstep4 (x : In) (w : World) :
   Calls Tryd.prog 45 #[.int .i64 4, x.v] w fun e w' => e = .returned (ctuS x).v ∧ Below w.heap.size w w' := by
  obtain ⟨x0, x1, x2, x3, x4, x5, x6, x7, x8, x9⟩ := x
  go_enter Tryd.func45, Tryd.ntmps45
  go_wp2_with (first
    | (go_at_call 81; first
        | ((with_reducible refine (rrises_any ⟨x0, x1, x2, x3, x4, x5, x6, x7, x8, x9⟩ 0 5 x0 x5 (by simp) _).mono ?_); rintro e w' ⟨rfl, rfl⟩)
        | ((with_reducible refine (rrises_any ⟨x0, x1, x2, x3, x4, x5, x6, x7, x8, x9⟩ 0 8 x0 x8 (by simp) _).mono ?_); rintro e w' ⟨rfl, rfl⟩)
        | ((with_reducible refine (rrises_any ⟨x0, x1, x2, x3, x4, x5, x6, x7, x8, x9⟩ 1 9 x1 x9 (by simp) _).mono ?_); rintro e w' ⟨rfl, rfl⟩))
    | (go_at_call 82; refine (rup_any _ _).mono ?_; rintro e w' ⟨rfl, rfl⟩)
    | (go_at_call 83; refine (rdown_any _ _).mono ?_; rintro e w' ⟨rfl, rfl⟩)
    | (go_at_call 80; refine (rbit_any _ _).mono ?_; rintro e w' ⟨rfl, rfl⟩))
  all_goals
    refine bodyPost_ret (v := (ctuS ⟨x0, x1, x2, x3, x4, x5, x6, x7, x8, x9⟩).v) ?_ rfl ⟨rfl, by repeat (first | exact Below.refl _ _ | refine bal ?_ _)⟩
    go_light
    simp [results, Tryd.results45, go_sem, ctuS, ctuC, In.v, turnS_ff, turnS_tt, *]
set_option maxRecDepth 100000 in
set_option maxHeartbeats 4000000 in
theorem rstep5 (x : In) (w : World) :
   Calls Tryd.prog 45 #[.int .i64 5, x.v] w fun e w' => e = .returned (ctdS x).v ∧ Below w.heap.size w w' := by
  obtain ⟨x0, x1, x2, x3, x4, x5, x6, x7, x8, x9⟩ := x
  go_enter Tryd.func45, Tryd.ntmps45
  go_wp2_with (first
    | (go_at_call 81; first
        | ((with_reducible refine (rrises_any ⟨x0, x1, x2, x3, x4, x5, x6, x7, x8, x9⟩ 0 5 x0 x5 (by simp) _).mono ?_); rintro e w' ⟨rfl, rfl⟩)
        | ((with_reducible refine (rrises_any ⟨x0, x1, x2, x3, x4, x5, x6, x7, x8, x9⟩ 0 8 x0 x8 (by simp) _).mono ?_); rintro e w' ⟨rfl, rfl⟩)
        | ((with_reducible refine (rrises_any ⟨x0, x1, x2, x3, x4, x5, x6, x7, x8, x9⟩ 1 9 x1 x9 (by simp) _).mono ?_); rintro e w' ⟨rfl, rfl⟩))
    | (go_at_call 82; refine (rup_any _ _).mono ?_; rintro e w' ⟨rfl, rfl⟩)
    | (go_at_call 83; refine (rdown_any _ _).mono ?_; rintro e w' ⟨rfl, rfl⟩)
    | (go_at_call 80; refine (rbit_any _ _).mono ?_; rintro e w' ⟨rfl, rfl⟩))
  all_goals
    refine bodyPost_ret (v := (ctdS ⟨x0, x1, x2, x3, x4, x5, x6, x7, x8, x9⟩).v) ?_ rfl ⟨rfl, by repeat (first | exact Below.refl _ _ | refine bal ?_ _)⟩
    go_light
    simp [results, Tryd.results45, go_sem, ctdS, ctdC, In.v, turnS_ff, turnS_tt, *]
set_option maxRecDepth 100000 in
set_option maxHeartbeats 4000000 in
theorem rstep6 (x : In) (w : World) :
   Calls Tryd.prog 45 #[.int .i64 6, x.v] w fun e w' => e = .returned (ctudS x).v ∧ Below w.heap.size w w' := by
  obtain ⟨x0, x1, x2, x3, x4, x5, x6, x7, x8, x9⟩ := x
  go_enter Tryd.func45, Tryd.ntmps45
  go_wp2_with (first
    | (go_at_call 81; first
        | ((with_reducible refine (rrises_any ⟨x0, x1, x2, x3, x4, x5, x6, x7, x8, x9⟩ 0 5 x0 x5 (by simp) _).mono ?_); rintro e w' ⟨rfl, rfl⟩)
        | ((with_reducible refine (rrises_any ⟨x0, x1, x2, x3, x4, x5, x6, x7, x8, x9⟩ 0 8 x0 x8 (by simp) _).mono ?_); rintro e w' ⟨rfl, rfl⟩)
        | ((with_reducible refine (rrises_any ⟨x0, x1, x2, x3, x4, x5, x6, x7, x8, x9⟩ 1 9 x1 x9 (by simp) _).mono ?_); rintro e w' ⟨rfl, rfl⟩))
    | (go_at_call 82; refine (rup_any _ _).mono ?_; rintro e w' ⟨rfl, rfl⟩)
    | (go_at_call 83; refine (rdown_any _ _).mono ?_; rintro e w' ⟨rfl, rfl⟩)
    | (go_at_call 80; refine (rbit_any _ _).mono ?_; rintro e w' ⟨rfl, rfl⟩))
  all_goals
    refine bodyPost_ret (v := (ctudS ⟨x0, x1, x2, x3, x4, x5, x6, x7, x8, x9⟩).v) ?_ rfl ⟨rfl, by repeat (first | exact Below.refl _ _ | refine bal ?_ _)⟩
    go_light
    (try simp only [Bool.not_eq_true', Bool.not_eq_false', Bool.not_eq_true] at *)
    first | (exfalso; simp_all; done) | simp [results, Tryd.results45, go_sem, ctudS, ctudC, In.v, turnS_ff, turnS_tt, *]

set_option maxRecDepth 100000 in
set_option maxHeartbeats 4000000 in
theorem rstep_no (k : Int) (h4 : (k == 4) = false) (h5 : (k == 5) = false) (h6 : (k == 6) = false) (x : In) (w : World) :
   Calls Tryd.prog 45 #[.int .i64 k, x.v] w fun e w' => e = .returned x.v ∧ Below w.heap.size w w' := by
  obtain ⟨x0, x1, x2, x3, x4, x5, x6, x7, x8, x9⟩ := x
  go_enter Tryd.func45, Tryd.ntmps45
  go_wp2
  refine bodyPost_ret (v := In.v ⟨x0, x1, x2, x3, x4, x5, x6, x7, x8, x9⟩) ?_ rfl ⟨rfl, by repeat (first | exact Below.refl _ _ | refine bal ?_ _)⟩
  go_light
  simp [results, Tryd.results45, go_sem, In.v]
theorem rstep_any (k : Int) (x : In) (w : World) :
   Calls Tryd.prog 45 #[.int .i64 k, x.v] w fun e w' => e = .returned (countS k x).v ∧ Below w.heap.size w w' := by
  unfold countS
  by_cases h4 : k = 4
  · subst h4; exact rstep4 x w
  by_cases h5 : k = 5
  · subst h5; exact rstep5 x w
  by_cases h6 : k = 6
  · subst h6; exact rstep6 x w
  rw [if_neg h4, if_neg h5, if_neg h6]
  exact rstep_no k (by simpa using h4) (by simpa using h5) (by simpa using h6) x w
end Go.Proofs.YthldpihpjekleaaDoor
