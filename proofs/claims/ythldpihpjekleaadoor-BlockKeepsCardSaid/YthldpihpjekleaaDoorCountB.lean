/- count.Step computes countS. No condition. -/
import Derived.Test.YthldpihpjekleaaDoorCountA
namespace Go.Proofs.YthldpihpjekleaaDoor
open Go.RowKit
set_option linter.unusedSimpArgs false
set_option maxHeartbeats 4000000 in
theorem step4 (x : In) (w : World) :
   Calls Tryd.prog 42 #[.int .i64 4, x.v] w fun e w' => e = .returned (ctuS x).v ∧ Below w.heap.size w w' := by
  obtain ⟨x0, x1, x2, x3, x4, x5, x6, x7, x8, x9⟩ := x
  go_enter Tryd.func42, Tryd.ntmps42
  go_wp2_with (first
    | (go_at_call 73; first
        | ((with_reducible refine (rises_any 0 5 0 5 (by simp) _ _ x0 x5 _ (by go_simp) (by go_simp) (by go_simp) (by go_simp)).mono ?_); rintro e w' ⟨rfl, rfl⟩))
    | (go_at_call 72; first
        | ((with_reducible refine (on_any 1 1 (by simp) _ x1 _ (by go_simp)).mono ?_); rintro e w' ⟨rfl, rfl⟩))
    | (go_at_call 75; (with_reducible refine (turn_any 4 4 (by simp) _ _ _ x4 _ (by go_simp) (by go_simp)).mono ?_); rintro e w' ⟨rfl, rfl⟩)
    | (go_at_call 74; refine (bit_any _ _).mono ?_; rintro e w' ⟨rfl, rfl⟩))
  all_goals
    refine bodyPost_ret (v := (ctuS ⟨x0, x1, x2, x3, x4, x5, x6, x7, x8, x9⟩).v) ?_ rfl ⟨rfl, ?_⟩
    · go_light
      simp [results, Tryd.results42, go_sem, ctuS, ctuC, In.v, *]
    · exact below3 _ _ _ _
set_option maxHeartbeats 4000000 in
theorem step5 (x : In) (w : World) :
   Calls Tryd.prog 42 #[.int .i64 5, x.v] w fun e w' => e = .returned (ctdS x).v ∧ Below w.heap.size w w' := by
  obtain ⟨x0, x1, x2, x3, x4, x5, x6, x7, x8, x9⟩ := x
  go_enter Tryd.func42, Tryd.ntmps42
  go_wp2_with (first
    | (go_at_call 73; first
        | ((with_reducible refine (rises_any 0 5 0 5 (by simp) _ _ x0 x5 _ (by go_simp) (by go_simp) (by go_simp) (by go_simp)).mono ?_); rintro e w' ⟨rfl, rfl⟩))
    | (go_at_call 72; first
        | ((with_reducible refine (on_any 1 1 (by simp) _ x1 _ (by go_simp)).mono ?_); rintro e w' ⟨rfl, rfl⟩))
    | (go_at_call 75; (with_reducible refine (turn_any 4 4 (by simp) _ _ _ x4 _ (by go_simp) (by go_simp)).mono ?_); rintro e w' ⟨rfl, rfl⟩)
    | (go_at_call 74; refine (bit_any _ _).mono ?_; rintro e w' ⟨rfl, rfl⟩))
  all_goals
    refine bodyPost_ret (v := (ctdS ⟨x0, x1, x2, x3, x4, x5, x6, x7, x8, x9⟩).v) ?_ rfl ⟨rfl, ?_⟩
    · go_light
      simp [results, Tryd.results42, go_sem, ctdS, ctdC, In.v, *]
    · exact below3 _ _ _ _
set_option maxHeartbeats 4000000 in
theorem step6 (x : In) (w : World) :
   Calls Tryd.prog 42 #[.int .i64 6, x.v] w fun e w' => e = .returned (ctudS x).v ∧ Below w.heap.size w w' := by
  obtain ⟨x0, x1, x2, x3, x4, x5, x6, x7, x8, x9⟩ := x
  go_enter Tryd.func42, Tryd.ntmps42
  go_wp2_with (first
    | (go_at_call 73; first
        | ((with_reducible refine (rises_any 0 8 0 8 (by simp) _ _ x0 x8 _ (by go_simp) (by go_simp) (by go_simp) (by go_simp)).mono ?_); rintro e w' ⟨rfl, rfl⟩)
        | ((with_reducible refine (rises_any 1 9 1 9 (by simp) _ _ x1 x9 _ (by go_simp) (by go_simp) (by go_simp) (by go_simp)).mono ?_); rintro e w' ⟨rfl, rfl⟩))
    | (go_at_call 72; first
        | ((with_reducible refine (on_any 2 2 (by simp) _ x2 _ (by go_simp)).mono ?_); rintro e w' ⟨rfl, rfl⟩)
        | ((with_reducible refine (on_any 3 3 (by simp) _ x3 _ (by go_simp)).mono ?_); rintro e w' ⟨rfl, rfl⟩))
    | (go_at_call 75; (with_reducible refine (turn_any 7 7 (by simp) _ _ _ x7 _ (by go_simp) (by go_simp)).mono ?_); rintro e w' ⟨rfl, rfl⟩)
    | (go_at_call 74; refine (bit_any _ _).mono ?_; rintro e w' ⟨rfl, rfl⟩))
  · go_region_held3 (fun w' => w'.cell? ⟨w.heap.size, 7, none⟩ = some (.int .i64 (0)) ∧ w'.cell? ⟨w.heap.size, 4, none⟩ = some (.int .i64 x4)) (go_keep)
      (first | (go_at_call 74; refine (bit_any _ _).mono ?_; rintro e w' ⟨rfl, rfl⟩))
    go_wp2
    refine bodyPost_ret (v := (ctudS ⟨x0, x1, x2, x3, x4, x5, x6, x7, x8, x9⟩).v) ?_ rfl ⟨rfl, ?_⟩
    · go_light
      simp [results, Tryd.results42, go_sem, ctudS, ctudC, In.v, *]
    · exact (below3 _ _ _ _).drew
  · go_region_held3 (fun w' => w'.cell? ⟨w.heap.size, 7, none⟩ = some (.int .i64 (x4)) ∧ w'.cell? ⟨w.heap.size, 4, none⟩ = some (.int .i64 x4)) (go_keep)
      (first | (go_at_call 74; refine (bit_any _ _).mono ?_; rintro e w' ⟨rfl, rfl⟩))
    go_wp2
    refine bodyPost_ret (v := (ctudS ⟨x0, x1, x2, x3, x4, x5, x6, x7, x8, x9⟩).v) ?_ rfl ⟨rfl, ?_⟩
    · go_light
      simp [results, Tryd.results42, go_sem, ctudS, ctudC, In.v, *]
    · exact (below3 _ _ _ _).drew
  · go_region_held3 (fun w' => w'.cell? ⟨w.heap.size, 7, none⟩ = some (.int .i64 (turnS x7 (risen x0 x8) (risen x1 x9))) ∧ w'.cell? ⟨w.heap.size, 4, none⟩ = some (.int .i64 x4)) (go_keep)
      (first | (go_at_call 74; refine (bit_any _ _).mono ?_; rintro e w' ⟨rfl, rfl⟩))
    go_wp2
    refine bodyPost_ret (v := (ctudS ⟨x0, x1, x2, x3, x4, x5, x6, x7, x8, x9⟩).v) ?_ rfl ⟨rfl, ?_⟩
    · go_light
      simp [results, Tryd.results42, go_sem, ctudS, ctudC, In.v, *]
    · exact (below3 _ _ _ _).drew

set_option maxHeartbeats 4000000 in
theorem step_no (k : Int) (h4 : (k == 4) = false) (h5 : (k == 5) = false) (h6 : (k == 6) = false) (x : In) (w : World) :
   Calls Tryd.prog 42 #[.int .i64 k, x.v] w fun e w' => e = .returned x.v ∧ Below w.heap.size w w' := by
  obtain ⟨x0, x1, x2, x3, x4, x5, x6, x7, x8, x9⟩ := x
  go_enter Tryd.func42, Tryd.ntmps42
  go_wp2
  refine bodyPost_ret (v := In.v ⟨x0, x1, x2, x3, x4, x5, x6, x7, x8, x9⟩) ?_ rfl ⟨rfl, below3 _ _ _ _⟩
  go_light
  simp [results, Tryd.results42, go_sem, In.v]
theorem step_any (k : Int) (x : In) (w : World) :
   Calls Tryd.prog 42 #[.int .i64 k, x.v] w fun e w' => e = .returned (countS k x).v ∧ Below w.heap.size w w' := by
  unfold countS
  by_cases h4 : k = 4
  · subst h4; exact step4 x w
  by_cases h5 : k = 5
  · subst h5; exact step5 x w
  by_cases h6 : k = 6
  · subst h6; exact step6 x w
  rw [if_neg h4, if_neg h5, if_neg h6]
  exact step_no k (by simpa using h4) (by simpa using h5) (by simpa using h6) x w
end Go.Proofs.YthldpihpjekleaaDoor
