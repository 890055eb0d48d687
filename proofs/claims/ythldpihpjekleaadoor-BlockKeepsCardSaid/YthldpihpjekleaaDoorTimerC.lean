/- ladderbackref08.Step computes timerS. No condition. -/
import Derived.Test.YthldpihpjekleaaDoorTimerA
import Derived.Test.YthldpihpjekleaaDoorTimerB
namespace Go.Proofs.YthldpihpjekleaaDoor
open Go.RowKit
set_option linter.unusedSimpArgs false
theorem rheld_now (t : Int) (w : World) : Calls Tryd.prog 105 #[.int .i64 t, .int .i64 1099511627776] w fun e w' => e = .returned (.int .i64 (hd t)) ∧ w' = w := by
  have e1 : t < 0 → hd t = 0 := fun h => by unfold hd imax imin; split <;> split <;> omega
  have e2 : 1099511627776 < t → hd t = 1099511627776 := fun h => by unfold hd imax imin; split <;> split <;> omega
  have e3 : 0 ≤ t → t ≤ 1099511627776 → hd t = t := fun h h' => by unfold hd imax imin; split <;> split <;> omega
  have E1 := Aside.mk e1
  have E2 := Aside.mk e2
  have E3 := Aside.mk e3
  clear e1 e2 e3
  by_cases h : t < 0
  · go_enter Tryd.func105, Tryd.ntmps105
    go_wp2
    go_ret
    exact ⟨by rw [E1.out h]; rfl, rfl⟩
  · by_cases h' : 1099511627776 < t
    · go_enter Tryd.func105, Tryd.ntmps105
      go_wp2
      go_ret
      exact ⟨by rw [E2.out h']; rfl, rfl⟩
    · go_enter Tryd.func105, Tryd.ntmps105
      go_wp2
      go_ret
      exact ⟨by rw [E3.out (by omega) (by omega)]; rfl, rfl⟩
theorem longS_lo (a b : Int) : 0 ≤ longS a b := by unfold longS imax; split <;> omega
theorem ptS_lo (a : Int) : 0 ≤ ptS a := by unfold ptS imax; split <;> omega
theorem rheld_et (pt start now : Int) (w : World) : Calls Tryd.prog 105 #[.int .i64 (longS start now), .int .i64 (ptS pt)] w fun e w' => e = .returned (.int .i64 (etS pt start now)) ∧ w' = w := by
  have hl := longS_lo start now
  have e2 : ptS pt < longS start now → etS pt start now = ptS pt := fun h => by unfold etS imin; split <;> omega
  have e3 : longS start now ≤ ptS pt → etS pt start now = longS start now := fun h => by unfold etS imin; split <;> omega
  have E2 := Aside.mk e2
  have E3 := Aside.mk e3
  clear e2 e3
  generalize etS pt start now = z at *
  generalize longS start now = y at *
  generalize ptS pt = q at *
  by_cases h' : q < y
  · go_enter Tryd.func105, Tryd.ntmps105
    go_wp2
    go_ret
    exact ⟨by rw [E2.out h']; rfl, rfl⟩
  · go_enter Tryd.func105, Tryd.ntmps105
    go_wp2
    go_ret
    exact ⟨by rw [E3.out (by omega)]; rfl, rfl⟩
def lateB (x : In) (now : Int) : Bool := decide (hd now - hd x.a5 < 0)
set_option maxHeartbeats 1000000 in
theorem rlong_any (x : In) (now : Int) (w : World) : Calls Tryd.prog 77 #[x.v, .int .i64 now] w fun e w' => e = .returned (.int .i64 (longS x.a5 now)) ∧ ∃ n, w' = (w.alloc (.cells #[.int .i64 x.a0, .int .i64 x.a1, .int .i64 x.a2, .int .i64 x.a3, .int .i64 x.a4, .int .i64 x.a5, .int .i64 x.a6, .int .i64 x.a7, .int .i64 x.a8, .int .i64 x.a9] 24)).drewN n := by
  obtain ⟨x0, x1, x2, x3, x4, x5, x6, x7, x8, x9⟩ := x
  have b1 := hd_lo now
  have b2 := hd_hi now
  have b3 := hd_lo x5
  have b4 := hd_hi x5
  have e1 : hd now - hd x5 < 0 → longS x5 now = 0 := fun h => by unfold longS imax; split <;> omega
  have e2 : 0 ≤ hd now - hd x5 → longS x5 now = hd now - hd x5 := fun h => by unfold longS imax; split <;> omega
  have E1 := Aside.mk e1
  have E2 := Aside.mk e2
  clear e1 e2
  by_cases h : hd now - hd x5 < 0
  · go_enter Tryd.func77, Tryd.ntmps77
    go_wp2_with fail
    go_quiet ((go_at_call 105; exact Calls.quiet_of_same (rheld_now _ _)))
    go_wp2
    go_ret
    exact ⟨by rw [E1.out h]; rfl, _, rfl⟩
  · go_enter Tryd.func77, Tryd.ntmps77
    go_wp2_with fail
    go_quiet ((go_at_call 105; exact Calls.quiet_of_same (rheld_now _ _)))
    go_wp2
    go_ret
    exact ⟨by rw [E2.out (by omega)]; rfl, _, rfl⟩
theorem rpt_any (x : In) (w : World) : Calls Tryd.prog 78 #[x.v] w fun e w' => e = .returned (.int .i64 (ptS x.a1)) ∧ w' = w.alloc (.cells #[.int .i64 x.a0, .int .i64 x.a1, .int .i64 x.a2, .int .i64 x.a3, .int .i64 x.a4, .int .i64 x.a5, .int .i64 x.a6, .int .i64 x.a7, .int .i64 x.a8, .int .i64 x.a9] 24) := by
  obtain ⟨x0, x1, x2, x3, x4, x5, x6, x7, x8, x9⟩ := x
  have e1 : x1 < 0 → ptS x1 = 0 := fun h => by unfold ptS imax; split <;> omega
  have e2 : 0 ≤ x1 → ptS x1 = x1 := fun h => by unfold ptS imax; split <;> omega
  have E1 := Aside.mk e1
  have E2 := Aside.mk e2
  clear e1 e2
  by_cases h : x1 < 0
  · go_enter Tryd.func78, Tryd.ntmps78
    go_wp2
    go_ret
    exact ⟨by rw [E1.out h]; rfl, rfl⟩
  · go_enter Tryd.func78, Tryd.ntmps78
    go_wp2
    go_ret
    exact ⟨by rw [E2.out (by omega)]; rfl, rfl⟩

theorem setCell_drewN2 (w : World) (n : Nat) (a : Addr) (v : Value) : (w.drewN n).setCell a v = (w.setCell a v).drewN n := rfl
theorem alloc_drewN2 (w : World) (n : Nat) (o : Obj) : (w.drewN n).alloc o = (w.alloc o).drewN n := rfl
attribute [local go_sem] setCell_drewN2 alloc_drewN2
set_option maxHeartbeats 4000000 in
theorem rtold_any (x : In) (now : Int) (w : World) : Calls Tryd.prog 76 #[x.v, .int .i64 now] w fun e w' => e = .returned (In.v { x with a3 := etS x.a1 x.a5 now }) ∧ ∃ n, w' = ((((w.alloc (.cells #[.int .i64 x.a0, .int .i64 x.a1, .int .i64 x.a2, .int .i64 (etS x.a1 x.a5 now), .int .i64 x.a4, .int .i64 x.a5, .int .i64 x.a6, .int .i64 x.a7, .int .i64 x.a8, .int .i64 x.a9] 24)).alloc (.cells #[.int .i64 x.a0, .int .i64 x.a1, .int .i64 x.a2, .int .i64 (etS x.a1 x.a5 now), .int .i64 x.a4, .int .i64 x.a5, .int .i64 x.a6, .int .i64 x.a7, .int .i64 x.a8, .int .i64 x.a9] 24)).alloc (.cells #[.int .i64 x.a0, .int .i64 x.a1, .int .i64 x.a2, .int .i64 x.a3, .int .i64 x.a4, .int .i64 x.a5, .int .i64 x.a6, .int .i64 x.a7, .int .i64 x.a8, .int .i64 x.a9] 24)).alloc (.cells #[.int .i64 x.a0, .int .i64 x.a1, .int .i64 x.a2, .int .i64 x.a3, .int .i64 x.a4, .int .i64 x.a5, .int .i64 x.a6, .int .i64 x.a7, .int .i64 x.a8, .int .i64 x.a9] 24)).drewN n := by
  obtain ⟨x0, x1, x2, x3, x4, x5, x6, x7, x8, x9⟩ := x
  have s1 := fun W => rlong_any ⟨x0, x1, x2, x3, x4, x5, x6, x7, x8, x9⟩ now W
  have s2 := fun W => rpt_any ⟨x0, x1, x2, x3, x4, x5, x6, x7, x8, x9⟩ W
  have s3 := fun W => rheld_et x1 x5 now W
  have S1 := Aside.mk s1
  have S2 := Aside.mk s2
  have S3 := Aside.mk s3
  clear s1 s2 s3
  go_enter Tryd.func76, Tryd.ntmps76
  go_wp2_with fail
  go_region_with (first
    | (go_at_call 77; refine (S1.out _).mono ?_; rintro e w' ⟨rfl, n, rfl⟩)
    | (go_at_call 78; refine (S2.out _).mono ?_; rintro e w' ⟨rfl, rfl⟩)
    | (go_at_call 105; refine (S3.out _).mono ?_; rintro e w' ⟨rfl, rfl⟩))
  all_goals
    go_wp2
    refine bodyPost_ret (v := In.v ⟨x0, x1, x2, etS x1 x5 now, x4, x5, x6, x7, x8, x9⟩) ?_ rfl ⟨rfl, ?_⟩
    · go_light
      simp [results, Tryd.results76, go_sem, In.v, *]
    · exact ⟨_, rfl⟩
end Go.Proofs.YthldpihpjekleaaDoor
