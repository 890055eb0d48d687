-- Printed by a program of this session's over the kit's printer (wip/patch_print.py).
import Derived.Test.YthldpihpjekleaaStore10
import Derived.Test.YthldpihpjekleaaQTimerDelaysx0
import Derived.Test.YthldpihpjekleaaQTimerDelaysx1
namespace Go.Proofs.Ythldpihpjekleaa.QTimerDelays
open Go.RowKit Go.Proofs.Ythldpihpjekleaa Go.Proofs.YthldpihpjekleaaW.PrintWords Go.Proofs.YthldpihpjekleaaW.PrintLast Go.Proofs.YthldpihpjekleaaW.PrintMore
attribute [local go_sem] setCell_drewN0 max2_int min2_int max_two min_two max_three min_three max_four min_four   -- for this text's walks alone
set_option linter.unusedVariables false
set_option linter.unusedSimpArgs false

/-! ### ladderbacklaw08_TimerDelays: function 5 -/
mutual
def ladderbacklaw08_TimerDelays.l0 : Nat → Int → List (S33) → Int → Int → Bool → Bool → Int → Int → Int → Int → Int → Int → Int → Int → Int → Int → Int → Int → Int → Int → Int → Int → Int → Int → Int → Int → Int → Option (Bool)
 | 0, _, _, _, _, _, _, _, _, _, _, _, _, _, _, _, _, _, _, _, _, _, _, _, _, _, _, _ => none
 | k + 1, x0, x1, x7, x8, x9, x10, x11, x125000, x125001, x125002, x125003, x125004, x125005, x125006, x125007, x125008, x125009, x126000, x126001, x126002, x126003, x126004, x126005, x126006, x126007, x126008, x126009 => if x11 < (x1.length : Int) then (if 0 ≤ x11 then (if x11 = 0 then (ladderbacklaw08_TimerDelays.j1 k x0 x1 (wrap64 (x7 + (wrap64 ((rd_T33 x1 x11).f0)))) x8 x10 x11 true x125000 x125001 x125002 x125003 x125004 x125005 x125006 x125007 x125008 x125009 x126000 x126001 x126002 x126003 x126004 x126005 x126006 x126007 x126008 x126009) else (ladderbacklaw08_TimerDelays.j1 k x0 x1 (wrap64 (x7 + (wrap64 ((rd_T33 x1 x11).f0)))) x8 x10 x11 (((rd_T33 x1 x11).f1) != x9) x125000 x125001 x125002 x125003 x125004 x125005 x125006 x125007 x125008 x125009 x126000 x126001 x126002 x126003 x126004 x126005 x126006 x126007 x126008 x126009)) else (none)) else ((ladderbacklaw08_awake.f).bind fun t126 => (some t126))
def ladderbacklaw08_TimerDelays.j1 : Nat → Int → List (S33) → Int → Int → Bool → Int → Bool → Int → Int → Int → Int → Int → Int → Int → Int → Int → Int → Int → Int → Int → Int → Int → Int → Int → Int → Int → Int → Option (Bool)
 | 0, _, _, _, _, _, _, _, _, _, _, _, _, _, _, _, _, _, _, _, _, _, _, _, _, _, _, _ => none
 | k + 1, x0, x1, x7, x8, x10, x11, x49, x125000, x125001, x125002, x125003, x125004, x125005, x125006, x125007, x125008, x125009, x126000, x126001, x126002, x126003, x126004, x126005, x126006, x126007, x126008, x126009 => if x49 = true then (ladderbacklaw08_TimerDelays.j2 k x0 x1 x7 x7 x10 x11 x125000 x125001 x125002 x125003 x125004 x125005 x125006 x125007 x125008 x125009 x126000 x126001 x126002 x126003 x126004 x126005 x126006 x126007 x126008 x126009) else (ladderbacklaw08_TimerDelays.j2 k x0 x1 x7 x8 x10 x11 x125000 x125001 x125002 x125003 x125004 x125005 x125006 x125007 x125008 x125009 x126000 x126001 x126002 x126003 x126004 x126005 x126006 x126007 x126008 x126009)
def ladderbacklaw08_TimerDelays.j2 : Nat → Int → List (S33) → Int → Int → Bool → Int → Int → Int → Int → Int → Int → Int → Int → Int → Int → Int → Int → Int → Int → Int → Int → Int → Int → Int → Int → Int → Option (Bool)
 | 0, _, _, _, _, _, _, _, _, _, _, _, _, _, _, _, _, _, _, _, _, _, _, _, _, _, _ => none
 | k + 1, x0, x1, x7, x8, x10, x11, x125000, x125001, x125002, x125003, x125004, x125005, x125006, x125007, x125008, x125009, x126000, x126001, x126002, x126003, x126004, x126005, x126006, x126007, x126008, x126009 => if 0 ≤ x11 then (if x11 < (x1.length : Int) then (if x10 = true then (ladderbacklaw08_TimerDelays.j3 k x0 x1 x7 x8 ((rd_T33 x1 x11).f1) true x11 x125000 x125001 x125002 x125003 x125004 x125005 x125006 x125007 x125008 x125009 x126000 x126001 x126002 x126003 x126004 x126005 x126006 x126007 x126008 x126009) else (ladderbacklaw08_TimerDelays.j3 k x0 x1 x7 x8 ((rd_T33 x1 x11).f1) ((rd_T33 x1 x11).f1) x11 x125000 x125001 x125002 x125003 x125004 x125005 x125006 x125007 x125008 x125009 x126000 x126001 x126002 x126003 x126004 x126005 x126006 x126007 x126008 x126009)) else (none)) else (none)
def ladderbacklaw08_TimerDelays.j3 : Nat → Int → List (S33) → Int → Int → Bool → Bool → Int → Int → Int → Int → Int → Int → Int → Int → Int → Int → Int → Int → Int → Int → Int → Int → Int → Int → Int → Int → Int → Option (Bool)
 | 0, _, _, _, _, _, _, _, _, _, _, _, _, _, _, _, _, _, _, _, _, _, _, _, _, _, _, _ => none
 | k + 1, x0, x1, x7, x8, x9, x10, x11, x125000, x125001, x125002, x125003, x125004, x125005, x125006, x125007, x125008, x125009, x126000, x126001, x126002, x126003, x126004, x126005, x126006, x126007, x126008, x126009 => (ladderbacklaw08_on.f x9).bind fun t130 => ((ladderbacklaw08_on.f x9).bind fun t131 => ((timer_Step.f 1 t130 x125001 x125002 x125003 x125004 x125005 x125006 x125007 x125008 x125009 x7).bind fun bt132 => ((timer_Step.f 2 t131 x126001 x126002 x126003 x126004 x126005 x126006 x126007 x126008 x126009 x7).bind fun bt142 => (if x9 = true then ((ladderbacklaw08_on.f (decide ((wrap64 (x7 - x8)) ≥ (wrap64 (x0))))).bind fun t152 => (if bt132.2.2.1 = t152 then ((ladderbacklaw08_on.f true).bind fun t153 => (if bt142.2.2.1 = t153 then (ladderbacklaw08_TimerDelays.l0 k x0 x1 x7 x8 x9 x10 (wrap64 (x11 + 1)) bt132.1 bt132.2.1 bt132.2.2.1 bt132.2.2.2.1 bt132.2.2.2.2.1 bt132.2.2.2.2.2.1 bt132.2.2.2.2.2.2.1 bt132.2.2.2.2.2.2.2.1 bt132.2.2.2.2.2.2.2.2.1 bt132.2.2.2.2.2.2.2.2.2 bt142.1 bt142.2.1 bt142.2.2.1 bt142.2.2.2.1 bt142.2.2.2.2.1 bt142.2.2.2.2.2.1 bt142.2.2.2.2.2.2.1 bt142.2.2.2.2.2.2.2.1 bt142.2.2.2.2.2.2.2.2.1 bt142.2.2.2.2.2.2.2.2.2) else (some false))) else (some false))) else ((ladderbacklaw08_on.f false).bind fun t154 => (if bt132.2.2.1 = t154 then (if x10 = true then ((ladderbacklaw08_on.f (!(decide ((wrap64 (x7 - x8)) ≥ (wrap64 (x0)))))).bind fun t155 => (if bt142.2.2.1 = t155 then (ladderbacklaw08_TimerDelays.l0 k x0 x1 x7 x8 x9 x10 (wrap64 (x11 + 1)) bt132.1 bt132.2.1 bt132.2.2.1 bt132.2.2.2.1 bt132.2.2.2.2.1 bt132.2.2.2.2.2.1 bt132.2.2.2.2.2.2.1 bt132.2.2.2.2.2.2.2.1 bt132.2.2.2.2.2.2.2.2.1 bt132.2.2.2.2.2.2.2.2.2 bt142.1 bt142.2.1 bt142.2.2.1 bt142.2.2.2.1 bt142.2.2.2.2.1 bt142.2.2.2.2.2.1 bt142.2.2.2.2.2.2.1 bt142.2.2.2.2.2.2.2.1 bt142.2.2.2.2.2.2.2.2.1 bt142.2.2.2.2.2.2.2.2.2) else (some false))) else ((ladderbacklaw08_on.f false).bind fun t156 => (if bt142.2.2.1 = t156 then (ladderbacklaw08_TimerDelays.l0 k x0 x1 x7 x8 x9 x10 (wrap64 (x11 + 1)) bt132.1 bt132.2.1 bt132.2.2.1 bt132.2.2.2.1 bt132.2.2.2.2.1 bt132.2.2.2.2.2.1 bt132.2.2.2.2.2.2.1 bt132.2.2.2.2.2.2.2.1 bt132.2.2.2.2.2.2.2.2.1 bt132.2.2.2.2.2.2.2.2.2 bt142.1 bt142.2.1 bt142.2.2.1 bt142.2.2.2.1 bt142.2.2.2.2.1 bt142.2.2.2.2.2.1 bt142.2.2.2.2.2.2.1 bt142.2.2.2.2.2.2.2.1 bt142.2.2.2.2.2.2.2.2.1 bt142.2.2.2.2.2.2.2.2.2) else (some false)))) else (some false)))))))
end
def ladderbacklaw08_TimerDelays.f (k : Nat) (a0 : Int) (l1 : List (S33)) : Option (Bool) := if (l1.length : Int) > 60 then ((ladderbacklaw08_awake.f).bind fun t123 => (some t123)) else (ladderbacklaw08_TimerDelays.l0 k a0 l1 0 0 false false 0 0 (wrap64 (a0)) 0 0 0 0 0 0 0 0 0 (wrap64 (a0)) 0 0 0 0 0 0 0 0)
theorem ladderbacklaw08_TimerDelays.mono_l : ∀ k, (∀ y0 y1 y2 y3 y4 y5 y6 y7 y8 y9 y10 y11 y12 y13 y14 y15 y16 y17 y18 y19 y20 y21 y22 y23 y24 y25 y26, LeO (ladderbacklaw08_TimerDelays.l0 k y0 y1 y2 y3 y4 y5 y6 y7 y8 y9 y10 y11 y12 y13 y14 y15 y16 y17 y18 y19 y20 y21 y22 y23 y24 y25 y26) (ladderbacklaw08_TimerDelays.l0 (k + 1) y0 y1 y2 y3 y4 y5 y6 y7 y8 y9 y10 y11 y12 y13 y14 y15 y16 y17 y18 y19 y20 y21 y22 y23 y24 y25 y26)) ∧ (∀ y0 y1 y2 y3 y4 y5 y6 y7 y8 y9 y10 y11 y12 y13 y14 y15 y16 y17 y18 y19 y20 y21 y22 y23 y24 y25 y26, LeO (ladderbacklaw08_TimerDelays.j1 k y0 y1 y2 y3 y4 y5 y6 y7 y8 y9 y10 y11 y12 y13 y14 y15 y16 y17 y18 y19 y20 y21 y22 y23 y24 y25 y26) (ladderbacklaw08_TimerDelays.j1 (k + 1) y0 y1 y2 y3 y4 y5 y6 y7 y8 y9 y10 y11 y12 y13 y14 y15 y16 y17 y18 y19 y20 y21 y22 y23 y24 y25 y26)) ∧ (∀ y0 y1 y2 y3 y4 y5 y6 y7 y8 y9 y10 y11 y12 y13 y14 y15 y16 y17 y18 y19 y20 y21 y22 y23 y24 y25, LeO (ladderbacklaw08_TimerDelays.j2 k y0 y1 y2 y3 y4 y5 y6 y7 y8 y9 y10 y11 y12 y13 y14 y15 y16 y17 y18 y19 y20 y21 y22 y23 y24 y25) (ladderbacklaw08_TimerDelays.j2 (k + 1) y0 y1 y2 y3 y4 y5 y6 y7 y8 y9 y10 y11 y12 y13 y14 y15 y16 y17 y18 y19 y20 y21 y22 y23 y24 y25)) ∧ (∀ y0 y1 y2 y3 y4 y5 y6 y7 y8 y9 y10 y11 y12 y13 y14 y15 y16 y17 y18 y19 y20 y21 y22 y23 y24 y25 y26, LeO (ladderbacklaw08_TimerDelays.j3 k y0 y1 y2 y3 y4 y5 y6 y7 y8 y9 y10 y11 y12 y13 y14 y15 y16 y17 y18 y19 y20 y21 y22 y23 y24 y25 y26) (ladderbacklaw08_TimerDelays.j3 (k + 1) y0 y1 y2 y3 y4 y5 y6 y7 y8 y9 y10 y11 y12 y13 y14 y15 y16 y17 y18 y19 y20 y21 y22 y23 y24 y25 y26))
 | 0 => ⟨fun _ _ _ _ _ _ _ _ _ _ _ _ _ _ _ _ _ _ _ _ _ _ _ _ _ _ _ r h => by simp [ladderbacklaw08_TimerDelays.l0] at h, fun _ _ _ _ _ _ _ _ _ _ _ _ _ _ _ _ _ _ _ _ _ _ _ _ _ _ _ r h => by simp [ladderbacklaw08_TimerDelays.j1] at h, fun _ _ _ _ _ _ _ _ _ _ _ _ _ _ _ _ _ _ _ _ _ _ _ _ _ _ r h => by simp [ladderbacklaw08_TimerDelays.j2] at h, fun _ _ _ _ _ _ _ _ _ _ _ _ _ _ _ _ _ _ _ _ _ _ _ _ _ _ _ r h => by simp [ladderbacklaw08_TimerDelays.j3] at h⟩
 | k + 1 => by
  obtain ⟨ih0, ih1, ih2, ih3⟩ := ladderbacklaw08_TimerDelays.mono_l k
  refine ⟨?_, ?_, ?_, ?_⟩
  ·
   intro y0 y1 y2 y3 y4 y5 y6 y7 y8 y9 y10 y11 y12 y13 y14 y15 y16 y17 y18 y19 y20 y21 y22 y23 y24 y25 y26
   unfold ladderbacklaw08_TimerDelays.l0
   repeat' first
   | (with_reducible exact ih0 _ _ _ _ _ _ _ _ _ _ _ _ _ _ _ _ _ _ _ _ _ _ _ _ _ _ _)
   | (with_reducible exact ih1 _ _ _ _ _ _ _ _ _ _ _ _ _ _ _ _ _ _ _ _ _ _ _ _ _ _ _)
   | (with_reducible exact ih2 _ _ _ _ _ _ _ _ _ _ _ _ _ _ _ _ _ _ _ _ _ _ _ _ _ _)
   | (with_reducible exact ih3 _ _ _ _ _ _ _ _ _ _ _ _ _ _ _ _ _ _ _ _ _ _ _ _ _ _ _)
   | (with_reducible exact LeO.refl _)
   | (with_reducible exact LeO.none _)
   | (with_reducible refine LeO.ite ?_ ?_)
   | (with_reducible refine LeO.bind ?_ (fun _ => ?_))
   | exact ih0 _ _ _ _ _ _ _ _ _ _ _ _ _ _ _ _ _ _ _ _ _ _ _ _ _ _ _
   | exact ih1 _ _ _ _ _ _ _ _ _ _ _ _ _ _ _ _ _ _ _ _ _ _ _ _ _ _ _
   | exact ih2 _ _ _ _ _ _ _ _ _ _ _ _ _ _ _ _ _ _ _ _ _ _ _ _ _ _
   | exact ih3 _ _ _ _ _ _ _ _ _ _ _ _ _ _ _ _ _ _ _ _ _ _ _ _ _ _ _
   | exact LeO.none _
   | refine LeO.ite ?_ ?_
   | refine LeO.bind ?_ (fun _ => ?_)
  ·
   intro y0 y1 y2 y3 y4 y5 y6 y7 y8 y9 y10 y11 y12 y13 y14 y15 y16 y17 y18 y19 y20 y21 y22 y23 y24 y25 y26
   unfold ladderbacklaw08_TimerDelays.j1
   repeat' first
   | (with_reducible exact ih0 _ _ _ _ _ _ _ _ _ _ _ _ _ _ _ _ _ _ _ _ _ _ _ _ _ _ _)
   | (with_reducible exact ih1 _ _ _ _ _ _ _ _ _ _ _ _ _ _ _ _ _ _ _ _ _ _ _ _ _ _ _)
   | (with_reducible exact ih2 _ _ _ _ _ _ _ _ _ _ _ _ _ _ _ _ _ _ _ _ _ _ _ _ _ _)
   | (with_reducible exact ih3 _ _ _ _ _ _ _ _ _ _ _ _ _ _ _ _ _ _ _ _ _ _ _ _ _ _ _)
   | (with_reducible exact LeO.refl _)
   | (with_reducible exact LeO.none _)
   | (with_reducible refine LeO.ite ?_ ?_)
   | (with_reducible refine LeO.bind ?_ (fun _ => ?_))
   | exact ih0 _ _ _ _ _ _ _ _ _ _ _ _ _ _ _ _ _ _ _ _ _ _ _ _ _ _ _
   | exact ih1 _ _ _ _ _ _ _ _ _ _ _ _ _ _ _ _ _ _ _ _ _ _ _ _ _ _ _
   | exact ih2 _ _ _ _ _ _ _ _ _ _ _ _ _ _ _ _ _ _ _ _ _ _ _ _ _ _
   | exact ih3 _ _ _ _ _ _ _ _ _ _ _ _ _ _ _ _ _ _ _ _ _ _ _ _ _ _ _
   | exact LeO.none _
   | refine LeO.ite ?_ ?_
   | refine LeO.bind ?_ (fun _ => ?_)
  ·
   intro y0 y1 y2 y3 y4 y5 y6 y7 y8 y9 y10 y11 y12 y13 y14 y15 y16 y17 y18 y19 y20 y21 y22 y23 y24 y25
   unfold ladderbacklaw08_TimerDelays.j2
   repeat' first
   | (with_reducible exact ih0 _ _ _ _ _ _ _ _ _ _ _ _ _ _ _ _ _ _ _ _ _ _ _ _ _ _ _)
   | (with_reducible exact ih1 _ _ _ _ _ _ _ _ _ _ _ _ _ _ _ _ _ _ _ _ _ _ _ _ _ _ _)
   | (with_reducible exact ih2 _ _ _ _ _ _ _ _ _ _ _ _ _ _ _ _ _ _ _ _ _ _ _ _ _ _)
   | (with_reducible exact ih3 _ _ _ _ _ _ _ _ _ _ _ _ _ _ _ _ _ _ _ _ _ _ _ _ _ _ _)
   | (with_reducible exact LeO.refl _)
   | (with_reducible exact LeO.none _)
   | (with_reducible refine LeO.ite ?_ ?_)
   | (with_reducible refine LeO.bind ?_ (fun _ => ?_))
   | exact ih0 _ _ _ _ _ _ _ _ _ _ _ _ _ _ _ _ _ _ _ _ _ _ _ _ _ _ _
   | exact ih1 _ _ _ _ _ _ _ _ _ _ _ _ _ _ _ _ _ _ _ _ _ _ _ _ _ _ _
   | exact ih2 _ _ _ _ _ _ _ _ _ _ _ _ _ _ _ _ _ _ _ _ _ _ _ _ _ _
   | exact ih3 _ _ _ _ _ _ _ _ _ _ _ _ _ _ _ _ _ _ _ _ _ _ _ _ _ _ _
   | exact LeO.none _
   | refine LeO.ite ?_ ?_
   | refine LeO.bind ?_ (fun _ => ?_)
  ·
   intro y0 y1 y2 y3 y4 y5 y6 y7 y8 y9 y10 y11 y12 y13 y14 y15 y16 y17 y18 y19 y20 y21 y22 y23 y24 y25 y26
   unfold ladderbacklaw08_TimerDelays.j3
   repeat' first
   | (with_reducible exact ih0 _ _ _ _ _ _ _ _ _ _ _ _ _ _ _ _ _ _ _ _ _ _ _ _ _ _ _)
   | (with_reducible exact ih1 _ _ _ _ _ _ _ _ _ _ _ _ _ _ _ _ _ _ _ _ _ _ _ _ _ _ _)
   | (with_reducible exact ih2 _ _ _ _ _ _ _ _ _ _ _ _ _ _ _ _ _ _ _ _ _ _ _ _ _ _)
   | (with_reducible exact ih3 _ _ _ _ _ _ _ _ _ _ _ _ _ _ _ _ _ _ _ _ _ _ _ _ _ _ _)
   | (with_reducible exact LeO.refl _)
   | (with_reducible exact LeO.none _)
   | (with_reducible refine LeO.ite ?_ ?_)
   | (with_reducible refine LeO.bind ?_ (fun _ => ?_))
   | exact ih0 _ _ _ _ _ _ _ _ _ _ _ _ _ _ _ _ _ _ _ _ _ _ _ _ _ _ _
   | exact ih1 _ _ _ _ _ _ _ _ _ _ _ _ _ _ _ _ _ _ _ _ _ _ _ _ _ _ _
   | exact ih2 _ _ _ _ _ _ _ _ _ _ _ _ _ _ _ _ _ _ _ _ _ _ _ _ _ _
   | exact ih3 _ _ _ _ _ _ _ _ _ _ _ _ _ _ _ _ _ _ _ _ _ _ _ _ _ _ _
   | exact LeO.none _
   | refine LeO.ite ?_ ?_
   | refine LeO.bind ?_ (fun _ => ?_)
theorem ladderbacklaw08_TimerDelays.mono : ∀ a0 a1 k, LeO (ladderbacklaw08_TimerDelays.f k a0 a1) (ladderbacklaw08_TimerDelays.f (k + 1) a0 a1) := by
 intro a0 a1 k
 obtain ⟨ih0, ih1, ih2, ih3⟩ := ladderbacklaw08_TimerDelays.mono_l k
 unfold ladderbacklaw08_TimerDelays.f
 repeat' first
   | (with_reducible exact ih0 _ _ _ _ _ _ _ _ _ _ _ _ _ _ _ _ _ _ _ _ _ _ _ _ _ _ _)
   | (with_reducible exact ih1 _ _ _ _ _ _ _ _ _ _ _ _ _ _ _ _ _ _ _ _ _ _ _ _ _ _ _)
   | (with_reducible exact ih2 _ _ _ _ _ _ _ _ _ _ _ _ _ _ _ _ _ _ _ _ _ _ _ _ _ _)
   | (with_reducible exact ih3 _ _ _ _ _ _ _ _ _ _ _ _ _ _ _ _ _ _ _ _ _ _ _ _ _ _ _)
   | (with_reducible exact LeO.refl _)
   | (with_reducible exact LeO.none _)
   | (with_reducible refine LeO.ite ?_ ?_)
   | (with_reducible refine LeO.bind ?_ (fun _ => ?_))
   | exact ih0 _ _ _ _ _ _ _ _ _ _ _ _ _ _ _ _ _ _ _ _ _ _ _ _ _ _ _
   | exact ih1 _ _ _ _ _ _ _ _ _ _ _ _ _ _ _ _ _ _ _ _ _ _ _ _ _ _ _
   | exact ih2 _ _ _ _ _ _ _ _ _ _ _ _ _ _ _ _ _ _ _ _ _ _ _ _ _ _
   | exact ih3 _ _ _ _ _ _ _ _ _ _ _ _ _ _ _ _ _ _ _ _ _ _ _ _ _ _ _
   | exact LeO.none _
   | refine LeO.ite ?_ ?_
   | refine LeO.bind ?_ (fun _ => ?_)
def ladderbacklaw08_TimerDelays.T16 : Bool × List (List Nat × List Nat) := (true, [([], []), ([], []), ([0, 1], [0, 1]), ([], []), ([], []), ([3, 4, 2], [3, 4]), ([2, 5, 0, 1, 2], [2]), ([5, 6, 0, 1, 2, 3, 4, 5, 6], [5])])
def ladderbacklaw08_TimerDelays.B16 : List Nat := [0, 0, 3, 0, 0, 31, 63, 127]
theorem ladderbacklaw08_TimerDelays.tab16 : rtab .any (opsOf Try.f5 16) = ladderbacklaw08_TimerDelays.T16 := by kernel_rfl
theorem ladderbacklaw08_TimerDelays.bits16 : waitsOk ladderbacklaw08_TimerDelays.T16.2 ladderbacklaw08_TimerDelays.B16 = true := by kernel_rfl
def ladderbacklaw08_TimerDelays.T18 : Bool × List (List Nat × List Nat) := (true, [([], []), ([0], [0]), ([1], [1]), ([], []), ([3], [3]), ([4], [4]), ([4, 5], [4, 5]), ([6, 4], [6]), ([2, 7], [2, 7]), ([8, 7], [8]), ([9], [9]), ([10, 9], [9, 10]), ([11, 9], [9, 11]), ([9], [9]), ([13, 9, 9], [9, 13]), ([14], [14]), ([15, 14, 14], [14, 15]), ([16], [16]), ([17, 16], [16, 17]), ([16, 18, 14], [14, 16, 18]), ([14, 19, 9], [9, 14, 19]), ([20, 16, 9], [9, 20]), ([12, 21, 9], [9, 12, 21]), ([9, 22], [9, 22])])
def ladderbacklaw08_TimerDelays.B18 : List Nat := [0, 1, 3, 0, 8, 24, 56, 120, 255, 511, 1023, 2047, 4095, 1023, 9215, 25599, 58367, 123903, 254975, 517119, 1041407, 2089983, 4194303, 8388607]
theorem ladderbacklaw08_TimerDelays.tab18 : rtab .any (opsOf Try.f5 18) = ladderbacklaw08_TimerDelays.T18 := by kernel_rfl
theorem ladderbacklaw08_TimerDelays.bits18 : waitsOk ladderbacklaw08_TimerDelays.T18.2 ladderbacklaw08_TimerDelays.B18 = true := by kernel_rfl
set_option maxHeartbeats 8000000 in
set_option maxRecDepth 100000 in
theorem ladderbacklaw08_TimerDelays.calls (k : Nat) (a0 : Int) (A1 : Option Addr) (c1 : Nat) (l1 : List (S33)) (r : Bool) (w : World) (hr1 : Kd.C k33 w A1 l1.length l1) (hc1 : l1.length ≤ c1) (h : ladderbacklaw08_TimerDelays.f k a0 l1 = some r) (hrt_ : r = true := by rfl) :
  Calls Try.prog 5 #[.int .u8 a0, .slice A1 l1.length c1] w fun e w' => e = .returned (.bool r) ∧ Below w.heap.size w w' := by
 have hu24 := Try.underlying24
 have hu26 := Try.underlying26
 have HR1 := Aside0.mk hr1
 have HC1 := Aside0.mk hc1
 clear hr1 hc1
 have HB := Aside0.mk (Below.refl w.heap.size w)
 have H : (if (l1.length : Int) > 60 then ((ladderbacklaw08_awake.f).bind fun t123 => (some t123)) else (ladderbacklaw08_TimerDelays.l0 k a0 l1 0 0 false false 0 0 (wrap64 (a0)) 0 0 0 0 0 0 0 0 0 (wrap64 (a0)) 0 0 0 0 0 0 0 0)) = some r := h
 clear h
 have HRT := Aside0.mk hrt_
 clear hrt_
 by_cases c3 : (l1.length : Int) > 60
 ·
  rw [if_pos c3] at H
  have c3b0 : decide (60 < (l1.length : Int)) = true := decide_eq_true c3
  have c3b1 : decide (60 < l1.length) = true := decide_eq_true (by omega)
  clear c3
  replace H := Option.bind_eq_some_iff.mp H
  obtain ⟨t123, A40, H⟩ := H
  replace H : (some t123) = some r := H
  have A4 := Aside0.mk A40
  clear A40
  obtain rfl := Option.some.inj H
  go_enter Try.func5, Try.ntmps5
  go_wp2_with (first | ((with_reducible refine gate_callee (f := 11) rfl ?_); refine goesL_ (some 16) rfl rfl Try.func11 (by kernel_rfl) rfl #[] rfl (by (try simp only [List.map_toArray, List.map_cons, List.map_nil]); first | done | rfl | (simp only [List.length_drop, List.length_take]; rfl)) ?_; (with_reducible refine (ladderbacklaw08_awake.calls  t123 _ A4.out).mono ?_); rintro e w5 ⟨rfl, hb⟩; refine ⟨_, rfl, ?_⟩; have n0_ := Aside0.mk (below_step (by repeat (first | (with_reducible first | exact HB.out | apply below_alloc | apply pw_below_drewN | apply below_drew1) | exact HB.out)) hb); clear HB; have HB := n0_; clear n0_; (try clear hb); (try clear hb2); (try clear hk); (try clear hi)))
  go_ret
  exact ⟨by first | rfl | (simp [errW_none, errW_some] <;> rfl) | (simp [*, errW_none, errW_some] <;> rfl), by repeat (first | (with_reducible first | exact HB.out | apply below_alloc | apply pw_below_drewN | apply below_drew1) | exact HB.out)⟩
 ·
  rw [if_neg c3] at H
  have c3b0 : decide (60 < (l1.length : Int)) = false := decide_eq_false c3
  have c3b1 : decide (60 < l1.length) = false := decide_eq_false (by omega)
  clear c3
  have H' := Aside0.mk H
  clear H
  go_enter Try.func5, Try.ntmps5
  go_wp2_with (first | ((with_reducible refine gate_dst (N := 5) rfl ?_); refine box_event ?hg (N := 5) ?hd (cs := #[.int .i64 0, .int .i64 0, .int .i64 0, .int .i64 0, .int .i64 0, .int .i64 0, .int .i64 0, .int .i64 0, .int .i64 0, .int .i64 0]) (t := 26) ?hr ?_; (case hd => rfl); (case hg => rfl); (case hr => first | (go_simp; done) | (go_simp; rfl)); intro gb124 hg w6 hbox hb; have n0_ := Aside0.mk (below_step (by repeat (first | (with_reducible first | exact HB.out | apply below_alloc | apply pw_below_drewN | apply below_drew1) | exact HB.out)) hb); have n1_ := Aside0.mk (hbox); have n2_ := Aside0.mk ((by rw [hg]; exact (below_size (by repeat (first | (with_reducible first | exact HB.out | apply below_alloc | apply pw_below_drewN | apply below_drew1) | exact HB.out))) : w.heap.size ≤ gb124)); have n3_ := Aside0.mk ((by rw [hg]; exact (below_size (by repeat (first | (with_reducible first | exact HB.out | apply below_alloc | apply pw_below_drewN | apply below_drew1) | exact HB.out))) : w.heap.size ≤ gb124)); clear HB; have HB := n0_; have BK124 := n1_; have GW124 := n2_; have GE124 := n3_; clear n0_ n1_ n2_ n3_; clear hb hbox hg) | ((with_reducible refine gate_dst (N := 6) rfl ?_); refine box_event ?hg (N := 6) ?hd (cs := #[.int .i64 0, .int .i64 0, .int .i64 0, .int .i64 0, .int .i64 0, .int .i64 0, .int .i64 0, .int .i64 0, .int .i64 0, .int .i64 0]) (t := 26) ?hr ?_; (case hd => rfl); (case hg => rfl); (case hr => first | (go_simp; done) | (go_simp; rfl)); intro gb125 hg w7 hbox hb; have n0_ := Aside0.mk (blk_below (g := gb124) (o := .cells #[.int .i64 0, .int .i64 0, .int .i64 0, .int .i64 0, .int .i64 0, .int .i64 0, .int .i64 0, .int .i64 0, .int .i64 0, .int .i64 0] 26 (0, 0)) (by (with_reducible repeat (first | refine blk_drewN ?_ _ | refine blk_drew ?_ | refine blk_alloc ?_ _)); exact BK124.out) hb); have n1_ := Aside0.mk (below_step (by repeat (first | (with_reducible first | exact HB.out | apply below_alloc | apply pw_below_drewN | apply below_drew1 | refine below_set ?_ GE124.out) | exact HB.out)) hb); have n2_ := Aside0.mk (hbox); have n3_ := Aside0.mk ((by rw [hg]; exact (below_size (by repeat (first | (with_reducible first | exact HB.out | apply below_alloc | apply pw_below_drewN | apply below_drew1 | refine below_set ?_ GE124.out) | exact HB.out))) : w.heap.size ≤ gb125)); have n4_ := Aside0.mk ((by rw [hg]; exact (below_size (by repeat (first | (with_reducible first | exact HB.out | apply below_alloc | apply pw_below_drewN | apply below_drew1 | refine below_set ?_ GE124.out) | exact HB.out))) : w.heap.size ≤ gb125)); have n5_ := Aside0.mk ((by rw [hg]; exact Nat.ne_of_lt (blk_lt (g := gb124) (o := .cells #[.int .i64 0, .int .i64 0, .int .i64 0, .int .i64 0, .int .i64 0, .int .i64 0, .int .i64 0, .int .i64 0, .int .i64 0, .int .i64 0] 26 (0, 0)) (by (with_reducible repeat (first | refine blk_drewN ?_ _ | refine blk_drew ?_ | refine blk_alloc ?_ _)); exact BK124.out)) : gb124 ≠ gb125)); have n6_ := Aside0.mk ((by rw [hg]; exact Nat.ne_of_gt (blk_lt (g := gb124) (o := .cells #[.int .i64 0, .int .i64 0, .int .i64 0, .int .i64 0, .int .i64 0, .int .i64 0, .int .i64 0, .int .i64 0, .int .i64 0, .int .i64 0] 26 (0, 0)) (by (with_reducible repeat (first | refine blk_drewN ?_ _ | refine blk_drew ?_ | refine blk_alloc ?_ _)); exact BK124.out)) : gb125 ≠ gb124)); clear BK124; clear HB; have BK124 := n0_; have HB := n1_; have BK125 := n2_; have GW125 := n3_; have GE125 := n4_; have NB124_125 := n5_; have NB125_124 := n6_; clear n0_ n1_ n2_ n3_ n4_ n5_ n6_; clear hb hbox hg; have hnb8 := NB124_125.out; have hnc8 := NB125_124.out; have hcz9_0 : w7.cell? ⟨gb124, 0, none⟩ = some (.int .i64 0) := (blk_cell BK124.out 0).trans rfl; have hcz9_1 : w7.cell? ⟨gb124, 1, none⟩ = some (.int .i64 0) := (blk_cell BK124.out 1).trans rfl; have hcz9_2 : w7.cell? ⟨gb124, 2, none⟩ = some (.int .i64 0) := (blk_cell BK124.out 2).trans rfl; have hcz9_3 : w7.cell? ⟨gb124, 3, none⟩ = some (.int .i64 0) := (blk_cell BK124.out 3).trans rfl; have hcz9_4 : w7.cell? ⟨gb124, 4, none⟩ = some (.int .i64 0) := (blk_cell BK124.out 4).trans rfl; have hcz9_5 : w7.cell? ⟨gb124, 5, none⟩ = some (.int .i64 0) := (blk_cell BK124.out 5).trans rfl; have hcz9_6 : w7.cell? ⟨gb124, 6, none⟩ = some (.int .i64 0) := (blk_cell BK124.out 6).trans rfl; have hcz9_7 : w7.cell? ⟨gb124, 7, none⟩ = some (.int .i64 0) := (blk_cell BK124.out 7).trans rfl; have hcz9_8 : w7.cell? ⟨gb124, 8, none⟩ = some (.int .i64 0) := (blk_cell BK124.out 8).trans rfl; have hcz9_9 : w7.cell? ⟨gb124, 9, none⟩ = some (.int .i64 0) := (blk_cell BK124.out 9).trans rfl; have hfz9_0 := blk_frozen BK124.out 0; have hfz9_1 := blk_frozen BK124.out 1; have hfz9_2 := blk_frozen BK124.out 2; have hfz9_3 := blk_frozen BK124.out 3; have hfz9_4 := blk_frozen BK124.out 4; have hfz9_5 := blk_frozen BK124.out 5; have hfz9_6 := blk_frozen BK124.out 6; have hfz9_7 := blk_frozen BK124.out 7; have hfz9_8 := blk_frozen BK124.out 8; have hfz9_9 := blk_frozen BK124.out 9; have hcz10_0 : w7.cell? ⟨gb125, 0, none⟩ = some (.int .i64 0) := (blk_cell BK125.out 0).trans rfl; have hcz10_1 : w7.cell? ⟨gb125, 1, none⟩ = some (.int .i64 0) := (blk_cell BK125.out 1).trans rfl; have hcz10_2 : w7.cell? ⟨gb125, 2, none⟩ = some (.int .i64 0) := (blk_cell BK125.out 2).trans rfl; have hcz10_3 : w7.cell? ⟨gb125, 3, none⟩ = some (.int .i64 0) := (blk_cell BK125.out 3).trans rfl; have hcz10_4 : w7.cell? ⟨gb125, 4, none⟩ = some (.int .i64 0) := (blk_cell BK125.out 4).trans rfl; have hcz10_5 : w7.cell? ⟨gb125, 5, none⟩ = some (.int .i64 0) := (blk_cell BK125.out 5).trans rfl; have hcz10_6 : w7.cell? ⟨gb125, 6, none⟩ = some (.int .i64 0) := (blk_cell BK125.out 6).trans rfl; have hcz10_7 : w7.cell? ⟨gb125, 7, none⟩ = some (.int .i64 0) := (blk_cell BK125.out 7).trans rfl; have hcz10_8 : w7.cell? ⟨gb125, 8, none⟩ = some (.int .i64 0) := (blk_cell BK125.out 8).trans rfl; have hcz10_9 : w7.cell? ⟨gb125, 9, none⟩ = some (.int .i64 0) := (blk_cell BK125.out 9).trans rfl; have hfz10_0 := blk_frozen BK125.out 0; have hfz10_1 := blk_frozen BK125.out 1; have hfz10_2 := blk_frozen BK125.out 2; have hfz10_3 := blk_frozen BK125.out 3; have hfz10_4 := blk_frozen BK125.out 4; have hfz10_5 := blk_frozen BK125.out 5; have hfz10_6 := blk_frozen BK125.out 6; have hfz10_7 := blk_frozen BK125.out 7; have hfz10_8 := blk_frozen BK125.out 8; have hfz10_9 := blk_frozen BK125.out 9))
  go_loopg [7, 8, 9, 10, 11] k (fun kq v7 v8 v9 v10 v11 w' => ∃ (x7_1 : Int) (x8_1 : Int) (x9_1 : Bool) (x10_1 : Bool) (x11_1 : Int) (x125000_1 : Int) (x125001_1 : Int) (x125002_1 : Int) (x125003_1 : Int) (x125004_1 : Int) (x125005_1 : Int) (x125006_1 : Int) (x125007_1 : Int) (x125008_1 : Int) (x125009_1 : Int) (x126000_1 : Int) (x126001_1 : Int) (x126002_1 : Int) (x126003_1 : Int) (x126004_1 : Int) (x126005_1 : Int) (x126006_1 : Int) (x126007_1 : Int) (x126008_1 : Int) (x126009_1 : Int), v7 = .int .i64 x7_1 ∧ v8 = .int .i64 x8_1 ∧ v9 = .bool x9_1 ∧ v10 = .bool x10_1 ∧ v11 = .int .i64 x11_1 ∧ Aside0 (ladderbacklaw08_TimerDelays.l0 kq a0 l1 x7_1 x8_1 x9_1 x10_1 x11_1 x125000_1 x125001_1 x125002_1 x125003_1 x125004_1 x125005_1 x125006_1 x125007_1 x125008_1 x125009_1 x126000_1 x126001_1 x126002_1 x126003_1 x126004_1 x126005_1 x126006_1 x126007_1 x126008_1 x126009_1 = some r) ∧ Aside0 (kq ≤ k) ∧ Aside0 (w'.heap[gb124]? = some (.cells #[.int .i64 x125000_1, .int .i64 x125001_1, .int .i64 x125002_1, .int .i64 x125003_1, .int .i64 x125004_1, .int .i64 x125005_1, .int .i64 x125006_1, .int .i64 x125007_1, .int .i64 x125008_1, .int .i64 x125009_1] 26 (0, 0))) ∧ Aside0 (w'.heap[gb125]? = some (.cells #[.int .i64 x126000_1, .int .i64 x126001_1, .int .i64 x126002_1, .int .i64 x126003_1, .int .i64 x126004_1, .int .i64 x126005_1, .int .i64 x126006_1, .int .i64 x126007_1, .int .i64 x126008_1, .int .i64 x126009_1] 26 (0, 0))) ∧ Aside0 (Below w.heap.size w w'))
  case atStart => exact ⟨(0), (0), (false), (false), (0), (0), (wrap64 (a0)), (0), (0), (0), (0), (0), (0), (0), (0), (0), (wrap64 (a0)), (0), (0), (0), (0), (0), (0), (0), (0), (by first | rfl | (simp; done) | (simp [*]; done)), (by first | rfl | (simp; done) | (simp [*]; done)), (by first | rfl | (simp; done) | (simp [*]; done)), (by first | rfl | (simp; done) | (simp [*]; done)), (by first | rfl | (simp; done) | (simp [*]; done)), H', ⟨Nat.le_refl _⟩, ⟨by (with_reducible repeat (first | refine blk_drewN ?_ _ | refine blk_drew ?_ | refine blk_alloc ?_ _)); refine blk_far ?_ NB124_125.out _; (with_reducible repeat (first | refine blk_drewN ?_ _ | refine blk_drew ?_ | refine blk_alloc ?_ _)); refine blk_far ?_ NB124_125.out _; (with_reducible repeat (first | refine blk_drewN ?_ _ | refine blk_drew ?_ | refine blk_alloc ?_ _)); refine blk_far ?_ NB124_125.out _; (with_reducible repeat (first | refine blk_drewN ?_ _ | refine blk_drew ?_ | refine blk_alloc ?_ _)); refine blk_far ?_ NB124_125.out _; (with_reducible repeat (first | refine blk_drewN ?_ _ | refine blk_drew ?_ | refine blk_alloc ?_ _)); refine blk_far ?_ NB124_125.out _; (with_reducible repeat (first | refine blk_drewN ?_ _ | refine blk_drew ?_ | refine blk_alloc ?_ _)); refine blk_far ?_ NB124_125.out _; (with_reducible repeat (first | refine blk_drewN ?_ _ | refine blk_drew ?_ | refine blk_alloc ?_ _)); refine blk_far ?_ NB124_125.out _; (with_reducible repeat (first | refine blk_drewN ?_ _ | refine blk_drew ?_ | refine blk_alloc ?_ _)); refine blk_far ?_ NB124_125.out _; (with_reducible repeat (first | refine blk_drewN ?_ _ | refine blk_drew ?_ | refine blk_alloc ?_ _)); refine blk_far ?_ NB124_125.out _; (with_reducible repeat (first | refine blk_drewN ?_ _ | refine blk_drew ?_ | refine blk_alloc ?_ _)); refine blk_far ?_ NB124_125.out _; (with_reducible repeat (first | refine blk_drewN ?_ _ | refine blk_drew ?_ | refine blk_alloc ?_ _)); refine blk_put (cs := #[.int .i64 0, .int .i64 (wrap64 (a0)), .int .i64 0, .int .i64 0, .int .i64 0, .int .i64 0, .int .i64 0, .int .i64 0, .int .i64 0, .int .i64 0]) ?_ 9 _ rfl; (with_reducible repeat (first | refine blk_drewN ?_ _ | refine blk_drew ?_ | refine blk_alloc ?_ _)); refine blk_put (cs := #[.int .i64 0, .int .i64 (wrap64 (a0)), .int .i64 0, .int .i64 0, .int .i64 0, .int .i64 0, .int .i64 0, .int .i64 0, .int .i64 0, .int .i64 0]) ?_ 8 _ rfl; (with_reducible repeat (first | refine blk_drewN ?_ _ | refine blk_drew ?_ | refine blk_alloc ?_ _)); refine blk_put (cs := #[.int .i64 0, .int .i64 (wrap64 (a0)), .int .i64 0, .int .i64 0, .int .i64 0, .int .i64 0, .int .i64 0, .int .i64 0, .int .i64 0, .int .i64 0]) ?_ 7 _ rfl; (with_reducible repeat (first | refine blk_drewN ?_ _ | refine blk_drew ?_ | refine blk_alloc ?_ _)); refine blk_put (cs := #[.int .i64 0, .int .i64 (wrap64 (a0)), .int .i64 0, .int .i64 0, .int .i64 0, .int .i64 0, .int .i64 0, .int .i64 0, .int .i64 0, .int .i64 0]) ?_ 6 _ rfl; (with_reducible repeat (first | refine blk_drewN ?_ _ | refine blk_drew ?_ | refine blk_alloc ?_ _)); refine blk_put (cs := #[.int .i64 0, .int .i64 (wrap64 (a0)), .int .i64 0, .int .i64 0, .int .i64 0, .int .i64 0, .int .i64 0, .int .i64 0, .int .i64 0, .int .i64 0]) ?_ 5 _ rfl; (with_reducible repeat (first | refine blk_drewN ?_ _ | refine blk_drew ?_ | refine blk_alloc ?_ _)); refine blk_put (cs := #[.int .i64 0, .int .i64 (wrap64 (a0)), .int .i64 0, .int .i64 0, .int .i64 0, .int .i64 0, .int .i64 0, .int .i64 0, .int .i64 0, .int .i64 0]) ?_ 4 _ rfl; (with_reducible repeat (first | refine blk_drewN ?_ _ | refine blk_drew ?_ | refine blk_alloc ?_ _)); refine blk_put (cs := #[.int .i64 0, .int .i64 (wrap64 (a0)), .int .i64 0, .int .i64 0, .int .i64 0, .int .i64 0, .int .i64 0, .int .i64 0, .int .i64 0, .int .i64 0]) ?_ 3 _ rfl; (with_reducible repeat (first | refine blk_drewN ?_ _ | refine blk_drew ?_ | refine blk_alloc ?_ _)); refine blk_put (cs := #[.int .i64 0, .int .i64 (wrap64 (a0)), .int .i64 0, .int .i64 0, .int .i64 0, .int .i64 0, .int .i64 0, .int .i64 0, .int .i64 0, .int .i64 0]) ?_ 2 _ rfl; (with_reducible repeat (first | refine blk_drewN ?_ _ | refine blk_drew ?_ | refine blk_alloc ?_ _)); refine blk_put (cs := #[.int .i64 0, .int .i64 0, .int .i64 0, .int .i64 0, .int .i64 0, .int .i64 0, .int .i64 0, .int .i64 0, .int .i64 0, .int .i64 0]) ?_ 1 _ rfl; (with_reducible repeat (first | refine blk_drewN ?_ _ | refine blk_drew ?_ | refine blk_alloc ?_ _)); refine blk_put (cs := #[.int .i64 0, .int .i64 0, .int .i64 0, .int .i64 0, .int .i64 0, .int .i64 0, .int .i64 0, .int .i64 0, .int .i64 0, .int .i64 0]) ?_ 0 _ rfl; (with_reducible repeat (first | refine blk_drewN ?_ _ | refine blk_drew ?_ | refine blk_alloc ?_ _)); exact BK124.out⟩, ⟨by (with_reducible repeat (first | refine blk_drewN ?_ _ | refine blk_drew ?_ | refine blk_alloc ?_ _)); refine blk_put (cs := #[.int .i64 0, .int .i64 (wrap64 (a0)), .int .i64 0, .int .i64 0, .int .i64 0, .int .i64 0, .int .i64 0, .int .i64 0, .int .i64 0, .int .i64 0]) ?_ 9 _ rfl; (with_reducible repeat (first | refine blk_drewN ?_ _ | refine blk_drew ?_ | refine blk_alloc ?_ _)); refine blk_put (cs := #[.int .i64 0, .int .i64 (wrap64 (a0)), .int .i64 0, .int .i64 0, .int .i64 0, .int .i64 0, .int .i64 0, .int .i64 0, .int .i64 0, .int .i64 0]) ?_ 8 _ rfl; (with_reducible repeat (first | refine blk_drewN ?_ _ | refine blk_drew ?_ | refine blk_alloc ?_ _)); refine blk_put (cs := #[.int .i64 0, .int .i64 (wrap64 (a0)), .int .i64 0, .int .i64 0, .int .i64 0, .int .i64 0, .int .i64 0, .int .i64 0, .int .i64 0, .int .i64 0]) ?_ 7 _ rfl; (with_reducible repeat (first | refine blk_drewN ?_ _ | refine blk_drew ?_ | refine blk_alloc ?_ _)); refine blk_put (cs := #[.int .i64 0, .int .i64 (wrap64 (a0)), .int .i64 0, .int .i64 0, .int .i64 0, .int .i64 0, .int .i64 0, .int .i64 0, .int .i64 0, .int .i64 0]) ?_ 6 _ rfl; (with_reducible repeat (first | refine blk_drewN ?_ _ | refine blk_drew ?_ | refine blk_alloc ?_ _)); refine blk_put (cs := #[.int .i64 0, .int .i64 (wrap64 (a0)), .int .i64 0, .int .i64 0, .int .i64 0, .int .i64 0, .int .i64 0, .int .i64 0, .int .i64 0, .int .i64 0]) ?_ 5 _ rfl; (with_reducible repeat (first | refine blk_drewN ?_ _ | refine blk_drew ?_ | refine blk_alloc ?_ _)); refine blk_put (cs := #[.int .i64 0, .int .i64 (wrap64 (a0)), .int .i64 0, .int .i64 0, .int .i64 0, .int .i64 0, .int .i64 0, .int .i64 0, .int .i64 0, .int .i64 0]) ?_ 4 _ rfl; (with_reducible repeat (first | refine blk_drewN ?_ _ | refine blk_drew ?_ | refine blk_alloc ?_ _)); refine blk_put (cs := #[.int .i64 0, .int .i64 (wrap64 (a0)), .int .i64 0, .int .i64 0, .int .i64 0, .int .i64 0, .int .i64 0, .int .i64 0, .int .i64 0, .int .i64 0]) ?_ 3 _ rfl; (with_reducible repeat (first | refine blk_drewN ?_ _ | refine blk_drew ?_ | refine blk_alloc ?_ _)); refine blk_put (cs := #[.int .i64 0, .int .i64 (wrap64 (a0)), .int .i64 0, .int .i64 0, .int .i64 0, .int .i64 0, .int .i64 0, .int .i64 0, .int .i64 0, .int .i64 0]) ?_ 2 _ rfl; (with_reducible repeat (first | refine blk_drewN ?_ _ | refine blk_drew ?_ | refine blk_alloc ?_ _)); refine blk_put (cs := #[.int .i64 0, .int .i64 0, .int .i64 0, .int .i64 0, .int .i64 0, .int .i64 0, .int .i64 0, .int .i64 0, .int .i64 0, .int .i64 0]) ?_ 1 _ rfl; (with_reducible repeat (first | refine blk_drewN ?_ _ | refine blk_drew ?_ | refine blk_alloc ?_ _)); refine blk_put (cs := #[.int .i64 0, .int .i64 0, .int .i64 0, .int .i64 0, .int .i64 0, .int .i64 0, .int .i64 0, .int .i64 0, .int .i64 0, .int .i64 0]) ?_ 0 _ rfl; (with_reducible repeat (first | refine blk_drewN ?_ _ | refine blk_drew ?_ | refine blk_alloc ?_ _)); refine blk_far ?_ NB125_124.out _; (with_reducible repeat (first | refine blk_drewN ?_ _ | refine blk_drew ?_ | refine blk_alloc ?_ _)); refine blk_far ?_ NB125_124.out _; (with_reducible repeat (first | refine blk_drewN ?_ _ | refine blk_drew ?_ | refine blk_alloc ?_ _)); refine blk_far ?_ NB125_124.out _; (with_reducible repeat (first | refine blk_drewN ?_ _ | refine blk_drew ?_ | refine blk_alloc ?_ _)); refine blk_far ?_ NB125_124.out _; (with_reducible repeat (first | refine blk_drewN ?_ _ | refine blk_drew ?_ | refine blk_alloc ?_ _)); refine blk_far ?_ NB125_124.out _; (with_reducible repeat (first | refine blk_drewN ?_ _ | refine blk_drew ?_ | refine blk_alloc ?_ _)); refine blk_far ?_ NB125_124.out _; (with_reducible repeat (first | refine blk_drewN ?_ _ | refine blk_drew ?_ | refine blk_alloc ?_ _)); refine blk_far ?_ NB125_124.out _; (with_reducible repeat (first | refine blk_drewN ?_ _ | refine blk_drew ?_ | refine blk_alloc ?_ _)); refine blk_far ?_ NB125_124.out _; (with_reducible repeat (first | refine blk_drewN ?_ _ | refine blk_drew ?_ | refine blk_alloc ?_ _)); refine blk_far ?_ NB125_124.out _; (with_reducible repeat (first | refine blk_drewN ?_ _ | refine blk_drew ?_ | refine blk_alloc ?_ _)); refine blk_far ?_ NB125_124.out _; (with_reducible repeat (first | refine blk_drewN ?_ _ | refine blk_drew ?_ | refine blk_alloc ?_ _)); exact BK125.out⟩, ⟨by repeat (first | (with_reducible first | exact HB.out | apply below_alloc | apply pw_below_drewN | apply below_drew1 | refine below_set ?_ GE124.out | refine below_set ?_ GE125.out) | exact HB.out)⟩⟩
  case round =>
   clear H'
   (try clear c1); (try clear c3); (try clear c3b0); (try clear c3b1); (try clear hcz10_0); (try clear hcz10_1); (try clear hcz10_2); (try clear hcz10_3); (try clear hcz10_4); (try clear hcz10_5); (try clear hcz10_6); (try clear hcz10_7); (try clear hcz10_8); (try clear hcz10_9); (try clear hcz9_0); (try clear hcz9_1); (try clear hcz9_2); (try clear hcz9_3); (try clear hcz9_4); (try clear hcz9_5); (try clear hcz9_6); (try clear hcz9_7); (try clear hcz9_8); (try clear hcz9_9); (try clear hfz10_0); (try clear hfz10_1); (try clear hfz10_2); (try clear hfz10_3); (try clear hfz10_4); (try clear hfz10_5); (try clear hfz10_6); (try clear hfz10_7); (try clear hfz10_8); (try clear hfz10_9); (try clear hfz9_0); (try clear hfz9_1); (try clear hfz9_2); (try clear hfz9_3); (try clear hfz9_4); (try clear hfz9_5); (try clear hfz9_6); (try clear hfz9_7); (try clear hfz9_8); (try clear hfz9_9)
   obtain ⟨x7_1, x8_1, x9_1, x10_1, x11_1, x125000_1, x125001_1, x125002_1, x125003_1, x125004_1, x125005_1, x125006_1, x125007_1, x125008_1, x125009_1, x126000_1, x126001_1, x126002_1, x126003_1, x126004_1, x126005_1, x126006_1, x126007_1, x126008_1, x126009_1, rfl, rfl, rfl, rfl, rfl, HA, HK1, BK124, BK125, HB⟩ := hrel
   cases gk with
   | zero => exact absurd HA.out (by simp [ladderbacklaw08_TimerDelays.l0])
   | succ k1 =>
    have H := HA.out
    clear HA
    simp only [ladderbacklaw08_TimerDelays.l0] at H
    by_cases c11 : x11_1 < (l1.length : Int)
    ·
     rw [if_pos c11] at H
     have c11b0 : decide (x11_1 < (l1.length : Int)) = true := decide_eq_true c11
     clear c11
     by_cases c12 : 0 ≤ x11_1
     ·
      rw [if_pos c12] at H
      have c12b0 : decide (0 ≤ x11_1) = true := decide_eq_true c12
      clear c12
      have HC13 := Aside0.mk H
      clear H
      have p127 : 0 ≤ (x11_1 : Int) := of_decide_eq_true (by first | (with_reducible assumption) | assumption)
      have q127 : x11_1 < (l1.length : Int) := of_decide_eq_true (by first | (with_reducible assumption) | assumption)
      obtain ⟨ad127, e127, hx127_0, hx127_1⟩ := at_T33 HR1.out x11_1 p127 q127
      cases e127
      replace hx127_0 := (HB.out.cell (World.block_lt_of_cell? w _ hx127_0)).trans hx127_0
      replace hx127_1 := (HB.out.cell (World.block_lt_of_cell? w _ hx127_1)).trans hx127_1
      replace p127 := eq_true p127
      replace q127 := eq_true q127
      go_upto_region 10 with (fail)
      go_cut [49] (fun v49 wc => ∃ (kq : Nat) (x49_12 : Bool), v49 = .bool x49_12 ∧ Aside0 (ladderbacklaw08_TimerDelays.j1 kq a0 l1 (wrap64 (x7_1 + (wrap64 ((rd_T33 l1 x11_1).f0)))) x8_1 x10_1 x11_1 x49_12 x125000_1 x125001_1 x125002_1 x125003_1 x125004_1 x125005_1 x125006_1 x125007_1 x125008_1 x125009_1 x126000_1 x126001_1 x126002_1 x126003_1 x126004_1 x126005_1 x126006_1 x126007_1 x126008_1 x126009_1 = some r) ∧ Aside0 (kq ≤ k1) ∧ Aside0 (wc.heap[gb124]? = some (.cells #[.int .i64 x125000_1, .int .i64 x125001_1, .int .i64 x125002_1, .int .i64 x125003_1, .int .i64 x125004_1, .int .i64 x125005_1, .int .i64 x125006_1, .int .i64 x125007_1, .int .i64 x125008_1, .int .i64 x125009_1] 26 (0, 0))) ∧ Aside0 (wc.heap[gb125]? = some (.cells #[.int .i64 x126000_1, .int .i64 x126001_1, .int .i64 x126002_1, .int .i64 x126003_1, .int .i64 x126004_1, .int .i64 x126005_1, .int .i64 x126006_1, .int .i64 x126007_1, .int .i64 x126008_1, .int .i64 x126009_1] 26 (0, 0))) ∧ Aside0 (Below w.heap.size w wc))
      case first =>
       have H := HC13.out
       clear HC13
       by_cases c14 : x11_1 = 0
       ·
        rw [if_pos c14] at H
        have c14b0 : (x11_1 == 0) = true := beq_iff_eq.mpr c14
        have c14b1 : (x11_1 != 0) = false := bne_eq_false_iff_eq.mpr c14
        clear c14
        (first | rw [c14b0] | (simp only [i64_w, i32_w]; rw [c14b0]) | skip)
        have H' := Aside0.mk H
        clear H
        go_wp2
        go_meet
        case rel => exact ⟨_, (true), (by first | rfl | (simp; done) | (simp [*]; done)), H', ⟨by have := HK1.out; first | omega | exact Nat.le_refl _⟩, ⟨by (with_reducible repeat (first | refine blk_drewN ?_ _ | refine blk_drew ?_ | refine blk_alloc ?_ _)); exact BK124.out⟩, ⟨by (with_reducible repeat (first | refine blk_drewN ?_ _ | refine blk_drew ?_ | refine blk_alloc ?_ _)); exact BK125.out⟩, ⟨by repeat (first | (with_reducible first | exact HB.out | apply below_alloc | apply pw_below_drewN | apply below_drew1 | refine below_set ?_ GE124.out | refine below_set ?_ GE125.out) | exact HB.out)⟩⟩
       ·
        rw [if_neg c14] at H
        have c14b0 : (x11_1 == 0) = false := beq_eq_false_iff_ne.mpr c14
        have c14b1 : (x11_1 != 0) = true := bne_iff_ne.mpr c14
        (first | rw [c14b0] | (simp only [i64_w, i32_w]; rw [c14b0]) | skip)
        have H' := Aside0.mk H
        clear H
        have p128 : 0 ≤ (x11_1 : Int) := of_decide_eq_true (by first | (with_reducible assumption) | assumption)
        have q128 : x11_1 < (l1.length : Int) := of_decide_eq_true (by first | (with_reducible assumption) | assumption)
        obtain ⟨ad128, e128, hx128_0, hx128_1⟩ := at_T33 HR1.out x11_1 p128 q128
        obtain rfl : ad127 = ad128 := (by injection e128)
        replace hx128_0 := (HB.out.cell (World.block_lt_of_cell? w _ hx128_0)).trans hx128_0
        replace hx128_1 := (HB.out.cell (World.block_lt_of_cell? w _ hx128_1)).trans hx128_1
        replace p128 := eq_true p128
        replace q128 := eq_true q128
        go_wp2
        go_meet
        case rel => exact ⟨_, ((((rd_T33 l1 x11_1).f1) != x9_1)), (by first | rfl | (simp; done) | (simp [*]; done)), H', ⟨by have := HK1.out; first | omega | exact Nat.le_refl _⟩, ⟨by (with_reducible repeat (first | refine blk_drewN ?_ _ | refine blk_drew ?_ | refine blk_alloc ?_ _)); exact BK124.out⟩, ⟨by (with_reducible repeat (first | refine blk_drewN ?_ _ | refine blk_drew ?_ | refine blk_alloc ?_ _)); exact BK125.out⟩, ⟨by repeat (first | (with_reducible first | exact HB.out | apply below_alloc | apply pw_below_drewN | apply below_drew1 | refine below_set ?_ GE124.out | refine below_set ?_ GE125.out) | exact HB.out)⟩⟩
      case rest =>
       clear HC13
       (try clear c11); (try clear c11b0); (try clear c12); (try clear c12b0); (try clear hx127_0); (try clear hx127_1); (try clear p127); (try clear q127)
       obtain ⟨kq, x49_12, rfl, HA, HJ12, BK124, BK125, HB⟩ := hcut
       cases kq with
       | zero => exact absurd HA.out (by simp [ladderbacklaw08_TimerDelays.j1])
       | succ kj12 =>
        have H := HA.out
        clear HA
        simp only [ladderbacklaw08_TimerDelays.j1] at H
        have HC15 := Aside0.mk H
        clear H
        go_upto_if 49 with (fail)
        go_cut [8] (fun v8 wc => ∃ (kq : Nat) (x8_14 : Int), v8 = .int .i64 x8_14 ∧ Aside0 (ladderbacklaw08_TimerDelays.j2 kq a0 l1 (wrap64 (x7_1 + (wrap64 ((rd_T33 l1 x11_1).f0)))) x8_14 x10_1 x11_1 x125000_1 x125001_1 x125002_1 x125003_1 x125004_1 x125005_1 x125006_1 x125007_1 x125008_1 x125009_1 x126000_1 x126001_1 x126002_1 x126003_1 x126004_1 x126005_1 x126006_1 x126007_1 x126008_1 x126009_1 = some r) ∧ Aside0 (kq ≤ kj12) ∧ Aside0 (wc.heap[gb124]? = some (.cells #[.int .i64 x125000_1, .int .i64 x125001_1, .int .i64 x125002_1, .int .i64 x125003_1, .int .i64 x125004_1, .int .i64 x125005_1, .int .i64 x125006_1, .int .i64 x125007_1, .int .i64 x125008_1, .int .i64 x125009_1] 26 (0, 0))) ∧ Aside0 (wc.heap[gb125]? = some (.cells #[.int .i64 x126000_1, .int .i64 x126001_1, .int .i64 x126002_1, .int .i64 x126003_1, .int .i64 x126004_1, .int .i64 x126005_1, .int .i64 x126006_1, .int .i64 x126007_1, .int .i64 x126008_1, .int .i64 x126009_1] 26 (0, 0))) ∧ Aside0 (Below w.heap.size w wc))
        case first =>
         have H := HC15.out
         clear HC15
         by_cases c16 : x49_12 = true
         ·
          subst c16
          have H1 : (ladderbacklaw08_TimerDelays.j2 kj12 a0 l1 (wrap64 (x7_1 + (wrap64 ((rd_T33 l1 x11_1).f0)))) (wrap64 (x7_1 + (wrap64 ((rd_T33 l1 x11_1).f0)))) x10_1 x11_1 x125000_1 x125001_1 x125002_1 x125003_1 x125004_1 x125005_1 x125006_1 x125007_1 x125008_1 x125009_1 x126000_1 x126001_1 x126002_1 x126003_1 x126004_1 x126005_1 x126006_1 x126007_1 x126008_1 x126009_1) = some r := by rw [if_pos rfl] at H; exact H
          clear H
          have H := H1
          clear H1
          have H' := Aside0.mk H
          clear H
          go_wp2
          go_meet
          case rel => exact ⟨_, ((wrap64 (x7_1 + (wrap64 ((rd_T33 l1 x11_1).f0))))), (by first | rfl | (simp; done) | (simp [*]; done)), H', ⟨by have := HK1.out; have := HJ12.out; first | omega | exact Nat.le_refl _⟩, ⟨by (with_reducible repeat (first | refine blk_drewN ?_ _ | refine blk_drew ?_ | refine blk_alloc ?_ _)); exact BK124.out⟩, ⟨by (with_reducible repeat (first | refine blk_drewN ?_ _ | refine blk_drew ?_ | refine blk_alloc ?_ _)); exact BK125.out⟩, ⟨by repeat (first | (with_reducible first | exact HB.out | apply below_alloc | apply pw_below_drewN | apply below_drew1 | refine below_set ?_ GE124.out | refine below_set ?_ GE125.out) | exact HB.out)⟩⟩
         ·
          replace c16 := Bool.eq_false_iff.mpr c16
          subst c16
          have H1 : (ladderbacklaw08_TimerDelays.j2 kj12 a0 l1 (wrap64 (x7_1 + (wrap64 ((rd_T33 l1 x11_1).f0)))) x8_1 x10_1 x11_1 x125000_1 x125001_1 x125002_1 x125003_1 x125004_1 x125005_1 x125006_1 x125007_1 x125008_1 x125009_1 x126000_1 x126001_1 x126002_1 x126003_1 x126004_1 x126005_1 x126006_1 x126007_1 x126008_1 x126009_1) = some r := by rw [if_neg (show ¬ (false = true) by decide)] at H; exact H
          clear H
          have H := H1
          clear H1
          have H' := Aside0.mk H
          clear H
          go_wp2
          go_meet
          case rel => exact ⟨_, (x8_1), (by first | rfl | (simp; done) | (simp [*]; done)), H', ⟨by have := HK1.out; have := HJ12.out; first | omega | exact Nat.le_refl _⟩, ⟨by (with_reducible repeat (first | refine blk_drewN ?_ _ | refine blk_drew ?_ | refine blk_alloc ?_ _)); exact BK124.out⟩, ⟨by (with_reducible repeat (first | refine blk_drewN ?_ _ | refine blk_drew ?_ | refine blk_alloc ?_ _)); exact BK125.out⟩, ⟨by repeat (first | (with_reducible first | exact HB.out | apply below_alloc | apply pw_below_drewN | apply below_drew1 | refine below_set ?_ GE124.out | refine below_set ?_ GE125.out) | exact HB.out)⟩⟩
        case rest =>
         clear HC15
         obtain ⟨kq, x8_14, rfl, HA, HJ14, BK124, BK125, HB⟩ := hcut
         cases kq with
         | zero => exact absurd HA.out (by simp [ladderbacklaw08_TimerDelays.j2])
         | succ kj14 =>
          have H := HA.out
          clear HA
          simp only [ladderbacklaw08_TimerDelays.j2] at H
          by_cases c17 : 0 ≤ x11_1
          ·
           rw [if_pos c17] at H
           have c17b0 : decide (0 ≤ x11_1) = true := decide_eq_true c17
           clear c17
           by_cases c18 : x11_1 < (l1.length : Int)
           ·
            rw [if_pos c18] at H
            have c18b0 : decide (x11_1 < (l1.length : Int)) = true := decide_eq_true c18
            clear c18
            have HC19 := Aside0.mk H
            clear H
            have p129 : 0 ≤ (x11_1 : Int) := of_decide_eq_true (by first | (with_reducible assumption) | assumption)
            have q129 : x11_1 < (l1.length : Int) := of_decide_eq_true (by first | (with_reducible assumption) | assumption)
            obtain ⟨ad129, e129, hx129_0, hx129_1⟩ := at_T33 HR1.out x11_1 p129 q129
            obtain rfl : ad127 = ad129 := (by injection e129)
            replace hx129_0 := (HB.out.cell (World.block_lt_of_cell? w _ hx129_0)).trans hx129_0
            replace hx129_1 := (HB.out.cell (World.block_lt_of_cell? w _ hx129_1)).trans hx129_1
            replace p129 := eq_true p129
            replace q129 := eq_true q129
            go_upto_region 13 with (fail)
            go_cut [10] (fun v10 wc => ∃ (kq : Nat) (x10_18 : Bool), v10 = .bool x10_18 ∧ Aside0 (ladderbacklaw08_TimerDelays.j3 kq a0 l1 (wrap64 (x7_1 + (wrap64 ((rd_T33 l1 x11_1).f0)))) x8_14 ((rd_T33 l1 x11_1).f1) x10_18 x11_1 x125000_1 x125001_1 x125002_1 x125003_1 x125004_1 x125005_1 x125006_1 x125007_1 x125008_1 x125009_1 x126000_1 x126001_1 x126002_1 x126003_1 x126004_1 x126005_1 x126006_1 x126007_1 x126008_1 x126009_1 = some r) ∧ Aside0 (kq ≤ kj14) ∧ Aside0 (wc.heap[gb124]? = some (.cells #[.int .i64 x125000_1, .int .i64 x125001_1, .int .i64 x125002_1, .int .i64 x125003_1, .int .i64 x125004_1, .int .i64 x125005_1, .int .i64 x125006_1, .int .i64 x125007_1, .int .i64 x125008_1, .int .i64 x125009_1] 26 (0, 0))) ∧ Aside0 (wc.heap[gb125]? = some (.cells #[.int .i64 x126000_1, .int .i64 x126001_1, .int .i64 x126002_1, .int .i64 x126003_1, .int .i64 x126004_1, .int .i64 x126005_1, .int .i64 x126006_1, .int .i64 x126007_1, .int .i64 x126008_1, .int .i64 x126009_1] 26 (0, 0))) ∧ Aside0 (Below w.heap.size w wc))
            case first =>
             have H := HC19.out
             clear HC19
             by_cases c20 : x10_1 = true
             ·
              subst c20
              have H1 : (ladderbacklaw08_TimerDelays.j3 kj14 a0 l1 (wrap64 (x7_1 + (wrap64 ((rd_T33 l1 x11_1).f0)))) x8_14 ((rd_T33 l1 x11_1).f1) true x11_1 x125000_1 x125001_1 x125002_1 x125003_1 x125004_1 x125005_1 x125006_1 x125007_1 x125008_1 x125009_1 x126000_1 x126001_1 x126002_1 x126003_1 x126004_1 x126005_1 x126006_1 x126007_1 x126008_1 x126009_1) = some r := by rw [if_pos rfl] at H; exact H
              clear H
              have H := H1
              clear H1
              have H' := Aside0.mk H
              clear H
              go_wp2
              go_meet
              case rel => exact ⟨_, (true), (by first | rfl | (simp; done) | (simp [*]; done)), H', ⟨by have := HK1.out; have := HJ12.out; have := HJ14.out; first | omega | exact Nat.le_refl _⟩, ⟨by (with_reducible repeat (first | refine blk_drewN ?_ _ | refine blk_drew ?_ | refine blk_alloc ?_ _)); exact BK124.out⟩, ⟨by (with_reducible repeat (first | refine blk_drewN ?_ _ | refine blk_drew ?_ | refine blk_alloc ?_ _)); exact BK125.out⟩, ⟨by repeat (first | (with_reducible first | exact HB.out | apply below_alloc | apply pw_below_drewN | apply below_drew1 | refine below_set ?_ GE124.out | refine below_set ?_ GE125.out) | exact HB.out)⟩⟩
             ·
              replace c20 := Bool.eq_false_iff.mpr c20
              subst c20
              have H1 : (ladderbacklaw08_TimerDelays.j3 kj14 a0 l1 (wrap64 (x7_1 + (wrap64 ((rd_T33 l1 x11_1).f0)))) x8_14 ((rd_T33 l1 x11_1).f1) ((rd_T33 l1 x11_1).f1) x11_1 x125000_1 x125001_1 x125002_1 x125003_1 x125004_1 x125005_1 x125006_1 x125007_1 x125008_1 x125009_1 x126000_1 x126001_1 x126002_1 x126003_1 x126004_1 x126005_1 x126006_1 x126007_1 x126008_1 x126009_1) = some r := by rw [if_neg (show ¬ (false = true) by decide)] at H; exact H
              clear H
              have H := H1
              clear H1
              have H' := Aside0.mk H
              clear H
              go_wp2
              go_meet
              case rel => exact ⟨_, ((rd_T33 l1 x11_1).f1), (by first | rfl | (simp; done) | (simp [*]; done)), H', ⟨by have := HK1.out; have := HJ12.out; have := HJ14.out; first | omega | exact Nat.le_refl _⟩, ⟨by (with_reducible repeat (first | refine blk_drewN ?_ _ | refine blk_drew ?_ | refine blk_alloc ?_ _)); exact BK124.out⟩, ⟨by (with_reducible repeat (first | refine blk_drewN ?_ _ | refine blk_drew ?_ | refine blk_alloc ?_ _)); exact BK125.out⟩, ⟨by repeat (first | (with_reducible first | exact HB.out | apply below_alloc | apply pw_below_drewN | apply below_drew1 | refine below_set ?_ GE124.out | refine below_set ?_ GE125.out) | exact HB.out)⟩⟩
            case rest =>
             clear HC19
             (try clear c17); (try clear c17b0); (try clear c18); (try clear c18b0); (try clear hx129_0); (try clear hx129_1); (try clear p129); (try clear q129)
             obtain ⟨kq, x10_18, rfl, HA, HJ18, BK124, BK125, HB⟩ := hcut
             cases kq with
             | zero => exact absurd HA.out (by simp [ladderbacklaw08_TimerDelays.j3])
             | succ kj18 =>
              have H := HA.out
              clear HA
              simp only [ladderbacklaw08_TimerDelays.j3] at H
              replace H := Option.bind_eq_some_iff.mp H
              obtain ⟨t130, A210, H⟩ := H
              replace H : ((ladderbacklaw08_on.f ((rd_T33 l1 x11_1).f1)).bind fun t131 => ((timer_Step.f 1 t130 x125001_1 x125002_1 x125003_1 x125004_1 x125005_1 x125006_1 x125007_1 x125008_1 x125009_1 (wrap64 (x7_1 + (wrap64 ((rd_T33 l1 x11_1).f0))))).bind fun bt132 => ((timer_Step.f 2 t131 x126001_1 x126002_1 x126003_1 x126004_1 x126005_1 x126006_1 x126007_1 x126008_1 x126009_1 (wrap64 (x7_1 + (wrap64 ((rd_T33 l1 x11_1).f0))))).bind fun bt142 => (if ((rd_T33 l1 x11_1).f1) = true then ((ladderbacklaw08_on.f (decide ((wrap64 ((wrap64 (x7_1 + (wrap64 ((rd_T33 l1 x11_1).f0)))) - x8_14)) ≥ (wrap64 (a0))))).bind fun t152 => (if bt132.2.2.1 = t152 then ((ladderbacklaw08_on.f true).bind fun t153 => (if bt142.2.2.1 = t153 then (ladderbacklaw08_TimerDelays.l0 kj18 a0 l1 (wrap64 (x7_1 + (wrap64 ((rd_T33 l1 x11_1).f0)))) x8_14 ((rd_T33 l1 x11_1).f1) x10_18 (wrap64 (x11_1 + 1)) bt132.1 bt132.2.1 bt132.2.2.1 bt132.2.2.2.1 bt132.2.2.2.2.1 bt132.2.2.2.2.2.1 bt132.2.2.2.2.2.2.1 bt132.2.2.2.2.2.2.2.1 bt132.2.2.2.2.2.2.2.2.1 bt132.2.2.2.2.2.2.2.2.2 bt142.1 bt142.2.1 bt142.2.2.1 bt142.2.2.2.1 bt142.2.2.2.2.1 bt142.2.2.2.2.2.1 bt142.2.2.2.2.2.2.1 bt142.2.2.2.2.2.2.2.1 bt142.2.2.2.2.2.2.2.2.1 bt142.2.2.2.2.2.2.2.2.2) else (some false))) else (some false))) else ((ladderbacklaw08_on.f false).bind fun t154 => (if bt132.2.2.1 = t154 then (if x10_18 = true then ((ladderbacklaw08_on.f (!(decide ((wrap64 ((wrap64 (x7_1 + (wrap64 ((rd_T33 l1 x11_1).f0)))) - x8_14)) ≥ (wrap64 (a0)))))).bind fun t155 => (if bt142.2.2.1 = t155 then (ladderbacklaw08_TimerDelays.l0 kj18 a0 l1 (wrap64 (x7_1 + (wrap64 ((rd_T33 l1 x11_1).f0)))) x8_14 ((rd_T33 l1 x11_1).f1) x10_18 (wrap64 (x11_1 + 1)) bt132.1 bt132.2.1 bt132.2.2.1 bt132.2.2.2.1 bt132.2.2.2.2.1 bt132.2.2.2.2.2.1 bt132.2.2.2.2.2.2.1 bt132.2.2.2.2.2.2.2.1 bt132.2.2.2.2.2.2.2.2.1 bt132.2.2.2.2.2.2.2.2.2 bt142.1 bt142.2.1 bt142.2.2.1 bt142.2.2.2.1 bt142.2.2.2.2.1 bt142.2.2.2.2.2.1 bt142.2.2.2.2.2.2.1 bt142.2.2.2.2.2.2.2.1 bt142.2.2.2.2.2.2.2.2.1 bt142.2.2.2.2.2.2.2.2.2) else (some false))) else ((ladderbacklaw08_on.f false).bind fun t156 => (if bt142.2.2.1 = t156 then (ladderbacklaw08_TimerDelays.l0 kj18 a0 l1 (wrap64 (x7_1 + (wrap64 ((rd_T33 l1 x11_1).f0)))) x8_14 ((rd_T33 l1 x11_1).f1) x10_18 (wrap64 (x11_1 + 1)) bt132.1 bt132.2.1 bt132.2.2.1 bt132.2.2.2.1 bt132.2.2.2.2.1 bt132.2.2.2.2.2.1 bt132.2.2.2.2.2.2.1 bt132.2.2.2.2.2.2.2.1 bt132.2.2.2.2.2.2.2.2.1 bt132.2.2.2.2.2.2.2.2.2 bt142.1 bt142.2.1 bt142.2.2.1 bt142.2.2.2.1 bt142.2.2.2.2.1 bt142.2.2.2.2.2.1 bt142.2.2.2.2.2.2.1 bt142.2.2.2.2.2.2.2.1 bt142.2.2.2.2.2.2.2.2.1 bt142.2.2.2.2.2.2.2.2.2) else (some false)))) else (some false))))))) = some r := H
              have A21 := Aside0.mk A210
              clear A210
              replace H := Option.bind_eq_some_iff.mp H
              obtain ⟨t131, A220, H⟩ := H
              replace H : ((timer_Step.f 1 t130 x125001_1 x125002_1 x125003_1 x125004_1 x125005_1 x125006_1 x125007_1 x125008_1 x125009_1 (wrap64 (x7_1 + (wrap64 ((rd_T33 l1 x11_1).f0))))).bind fun bt132 => ((timer_Step.f 2 t131 x126001_1 x126002_1 x126003_1 x126004_1 x126005_1 x126006_1 x126007_1 x126008_1 x126009_1 (wrap64 (x7_1 + (wrap64 ((rd_T33 l1 x11_1).f0))))).bind fun bt142 => (if ((rd_T33 l1 x11_1).f1) = true then ((ladderbacklaw08_on.f (decide ((wrap64 ((wrap64 (x7_1 + (wrap64 ((rd_T33 l1 x11_1).f0)))) - x8_14)) ≥ (wrap64 (a0))))).bind fun t152 => (if bt132.2.2.1 = t152 then ((ladderbacklaw08_on.f true).bind fun t153 => (if bt142.2.2.1 = t153 then (ladderbacklaw08_TimerDelays.l0 kj18 a0 l1 (wrap64 (x7_1 + (wrap64 ((rd_T33 l1 x11_1).f0)))) x8_14 ((rd_T33 l1 x11_1).f1) x10_18 (wrap64 (x11_1 + 1)) bt132.1 bt132.2.1 bt132.2.2.1 bt132.2.2.2.1 bt132.2.2.2.2.1 bt132.2.2.2.2.2.1 bt132.2.2.2.2.2.2.1 bt132.2.2.2.2.2.2.2.1 bt132.2.2.2.2.2.2.2.2.1 bt132.2.2.2.2.2.2.2.2.2 bt142.1 bt142.2.1 bt142.2.2.1 bt142.2.2.2.1 bt142.2.2.2.2.1 bt142.2.2.2.2.2.1 bt142.2.2.2.2.2.2.1 bt142.2.2.2.2.2.2.2.1 bt142.2.2.2.2.2.2.2.2.1 bt142.2.2.2.2.2.2.2.2.2) else (some false))) else (some false))) else ((ladderbacklaw08_on.f false).bind fun t154 => (if bt132.2.2.1 = t154 then (if x10_18 = true then ((ladderbacklaw08_on.f (!(decide ((wrap64 ((wrap64 (x7_1 + (wrap64 ((rd_T33 l1 x11_1).f0)))) - x8_14)) ≥ (wrap64 (a0)))))).bind fun t155 => (if bt142.2.2.1 = t155 then (ladderbacklaw08_TimerDelays.l0 kj18 a0 l1 (wrap64 (x7_1 + (wrap64 ((rd_T33 l1 x11_1).f0)))) x8_14 ((rd_T33 l1 x11_1).f1) x10_18 (wrap64 (x11_1 + 1)) bt132.1 bt132.2.1 bt132.2.2.1 bt132.2.2.2.1 bt132.2.2.2.2.1 bt132.2.2.2.2.2.1 bt132.2.2.2.2.2.2.1 bt132.2.2.2.2.2.2.2.1 bt132.2.2.2.2.2.2.2.2.1 bt132.2.2.2.2.2.2.2.2.2 bt142.1 bt142.2.1 bt142.2.2.1 bt142.2.2.2.1 bt142.2.2.2.2.1 bt142.2.2.2.2.2.1 bt142.2.2.2.2.2.2.1 bt142.2.2.2.2.2.2.2.1 bt142.2.2.2.2.2.2.2.2.1 bt142.2.2.2.2.2.2.2.2.2) else (some false))) else ((ladderbacklaw08_on.f false).bind fun t156 => (if bt142.2.2.1 = t156 then (ladderbacklaw08_TimerDelays.l0 kj18 a0 l1 (wrap64 (x7_1 + (wrap64 ((rd_T33 l1 x11_1).f0)))) x8_14 ((rd_T33 l1 x11_1).f1) x10_18 (wrap64 (x11_1 + 1)) bt132.1 bt132.2.1 bt132.2.2.1 bt132.2.2.2.1 bt132.2.2.2.2.1 bt132.2.2.2.2.2.1 bt132.2.2.2.2.2.2.1 bt132.2.2.2.2.2.2.2.1 bt132.2.2.2.2.2.2.2.2.1 bt132.2.2.2.2.2.2.2.2.2 bt142.1 bt142.2.1 bt142.2.2.1 bt142.2.2.2.1 bt142.2.2.2.2.1 bt142.2.2.2.2.2.1 bt142.2.2.2.2.2.2.1 bt142.2.2.2.2.2.2.2.1 bt142.2.2.2.2.2.2.2.2.1 bt142.2.2.2.2.2.2.2.2.2) else (some false)))) else (some false)))))) = some r := H
              have A22 := Aside0.mk A220
              clear A220
              replace H := Option.bind_eq_some_iff.mp H
              obtain ⟨⟨t132, t133, t134, t135, t136, t137, t138, t139, t140, t141⟩, A230, H⟩ := H
              replace H : ((timer_Step.f 2 t131 x126001_1 x126002_1 x126003_1 x126004_1 x126005_1 x126006_1 x126007_1 x126008_1 x126009_1 (wrap64 (x7_1 + (wrap64 ((rd_T33 l1 x11_1).f0))))).bind fun bt142 => (if ((rd_T33 l1 x11_1).f1) = true then ((ladderbacklaw08_on.f (decide ((wrap64 ((wrap64 (x7_1 + (wrap64 ((rd_T33 l1 x11_1).f0)))) - x8_14)) ≥ (wrap64 (a0))))).bind fun t152 => (if t134 = t152 then ((ladderbacklaw08_on.f true).bind fun t153 => (if bt142.2.2.1 = t153 then (ladderbacklaw08_TimerDelays.l0 kj18 a0 l1 (wrap64 (x7_1 + (wrap64 ((rd_T33 l1 x11_1).f0)))) x8_14 ((rd_T33 l1 x11_1).f1) x10_18 (wrap64 (x11_1 + 1)) t132 t133 t134 t135 t136 t137 t138 t139 t140 t141 bt142.1 bt142.2.1 bt142.2.2.1 bt142.2.2.2.1 bt142.2.2.2.2.1 bt142.2.2.2.2.2.1 bt142.2.2.2.2.2.2.1 bt142.2.2.2.2.2.2.2.1 bt142.2.2.2.2.2.2.2.2.1 bt142.2.2.2.2.2.2.2.2.2) else (some false))) else (some false))) else ((ladderbacklaw08_on.f false).bind fun t154 => (if t134 = t154 then (if x10_18 = true then ((ladderbacklaw08_on.f (!(decide ((wrap64 ((wrap64 (x7_1 + (wrap64 ((rd_T33 l1 x11_1).f0)))) - x8_14)) ≥ (wrap64 (a0)))))).bind fun t155 => (if bt142.2.2.1 = t155 then (ladderbacklaw08_TimerDelays.l0 kj18 a0 l1 (wrap64 (x7_1 + (wrap64 ((rd_T33 l1 x11_1).f0)))) x8_14 ((rd_T33 l1 x11_1).f1) x10_18 (wrap64 (x11_1 + 1)) t132 t133 t134 t135 t136 t137 t138 t139 t140 t141 bt142.1 bt142.2.1 bt142.2.2.1 bt142.2.2.2.1 bt142.2.2.2.2.1 bt142.2.2.2.2.2.1 bt142.2.2.2.2.2.2.1 bt142.2.2.2.2.2.2.2.1 bt142.2.2.2.2.2.2.2.2.1 bt142.2.2.2.2.2.2.2.2.2) else (some false))) else ((ladderbacklaw08_on.f false).bind fun t156 => (if bt142.2.2.1 = t156 then (ladderbacklaw08_TimerDelays.l0 kj18 a0 l1 (wrap64 (x7_1 + (wrap64 ((rd_T33 l1 x11_1).f0)))) x8_14 ((rd_T33 l1 x11_1).f1) x10_18 (wrap64 (x11_1 + 1)) t132 t133 t134 t135 t136 t137 t138 t139 t140 t141 bt142.1 bt142.2.1 bt142.2.2.1 bt142.2.2.2.1 bt142.2.2.2.2.1 bt142.2.2.2.2.2.1 bt142.2.2.2.2.2.2.1 bt142.2.2.2.2.2.2.2.1 bt142.2.2.2.2.2.2.2.2.1 bt142.2.2.2.2.2.2.2.2.2) else (some false)))) else (some false))))) = some r := H
              have A23 := Aside0.mk A230
              clear A230
              replace H := Option.bind_eq_some_iff.mp H
              obtain ⟨⟨t142, t143, t144, t145, t146, t147, t148, t149, t150, t151⟩, A240, H⟩ := H
              replace H : (if ((rd_T33 l1 x11_1).f1) = true then ((ladderbacklaw08_on.f (decide ((wrap64 ((wrap64 (x7_1 + (wrap64 ((rd_T33 l1 x11_1).f0)))) - x8_14)) ≥ (wrap64 (a0))))).bind fun t152 => (if t134 = t152 then ((ladderbacklaw08_on.f true).bind fun t153 => (if t144 = t153 then (ladderbacklaw08_TimerDelays.l0 kj18 a0 l1 (wrap64 (x7_1 + (wrap64 ((rd_T33 l1 x11_1).f0)))) x8_14 ((rd_T33 l1 x11_1).f1) x10_18 (wrap64 (x11_1 + 1)) t132 t133 t134 t135 t136 t137 t138 t139 t140 t141 t142 t143 t144 t145 t146 t147 t148 t149 t150 t151) else (some false))) else (some false))) else ((ladderbacklaw08_on.f false).bind fun t154 => (if t134 = t154 then (if x10_18 = true then ((ladderbacklaw08_on.f (!(decide ((wrap64 ((wrap64 (x7_1 + (wrap64 ((rd_T33 l1 x11_1).f0)))) - x8_14)) ≥ (wrap64 (a0)))))).bind fun t155 => (if t144 = t155 then (ladderbacklaw08_TimerDelays.l0 kj18 a0 l1 (wrap64 (x7_1 + (wrap64 ((rd_T33 l1 x11_1).f0)))) x8_14 ((rd_T33 l1 x11_1).f1) x10_18 (wrap64 (x11_1 + 1)) t132 t133 t134 t135 t136 t137 t138 t139 t140 t141 t142 t143 t144 t145 t146 t147 t148 t149 t150 t151) else (some false))) else ((ladderbacklaw08_on.f false).bind fun t156 => (if t144 = t156 then (ladderbacklaw08_TimerDelays.l0 kj18 a0 l1 (wrap64 (x7_1 + (wrap64 ((rd_T33 l1 x11_1).f0)))) x8_14 ((rd_T33 l1 x11_1).f1) x10_18 (wrap64 (x11_1 + 1)) t132 t133 t134 t135 t136 t137 t138 t139 t140 t141 t142 t143 t144 t145 t146 t147 t148 t149 t150 t151) else (some false)))) else (some false)))) = some r := H
              have A24 := Aside0.mk A240
              clear A240
              obtain ⟨bq25, hbq25⟩ : ∃ b_ : Bool, b_ = ((rd_T33 l1 x11_1).f1) := ⟨_, rfl⟩
              replace H : (if bq25 = true then ((ladderbacklaw08_on.f (decide ((wrap64 ((wrap64 (x7_1 + (wrap64 ((rd_T33 l1 x11_1).f0)))) - x8_14)) ≥ (wrap64 (a0))))).bind fun t152 => (if t134 = t152 then ((ladderbacklaw08_on.f true).bind fun t153 => (if t144 = t153 then (ladderbacklaw08_TimerDelays.l0 kj18 a0 l1 (wrap64 (x7_1 + (wrap64 ((rd_T33 l1 x11_1).f0)))) x8_14 bq25 x10_18 (wrap64 (x11_1 + 1)) t132 t133 t134 t135 t136 t137 t138 t139 t140 t141 t142 t143 t144 t145 t146 t147 t148 t149 t150 t151) else (some false))) else (some false))) else ((ladderbacklaw08_on.f false).bind fun t154 => (if t134 = t154 then (if x10_18 = true then ((ladderbacklaw08_on.f (!(decide ((wrap64 ((wrap64 (x7_1 + (wrap64 ((rd_T33 l1 x11_1).f0)))) - x8_14)) ≥ (wrap64 (a0)))))).bind fun t155 => (if t144 = t155 then (ladderbacklaw08_TimerDelays.l0 kj18 a0 l1 (wrap64 (x7_1 + (wrap64 ((rd_T33 l1 x11_1).f0)))) x8_14 bq25 x10_18 (wrap64 (x11_1 + 1)) t132 t133 t134 t135 t136 t137 t138 t139 t140 t141 t142 t143 t144 t145 t146 t147 t148 t149 t150 t151) else (some false))) else ((ladderbacklaw08_on.f false).bind fun t156 => (if t144 = t156 then (ladderbacklaw08_TimerDelays.l0 kj18 a0 l1 (wrap64 (x7_1 + (wrap64 ((rd_T33 l1 x11_1).f0)))) x8_14 bq25 x10_18 (wrap64 (x11_1 + 1)) t132 t133 t134 t135 t136 t137 t138 t139 t140 t141 t142 t143 t144 t145 t146 t147 t148 t149 t150 t151) else (some false)))) else (some false)))) = some r := by rw [← hbq25] at H; exact H
              (try rw [← hbq25] at A21)
              (try rw [← hbq25] at A22)
              (try rw [← hbq25] at A23)
              (try rw [← hbq25] at A24)
              have Nbq25 := Aside0.mk hbq25
              clear hbq25
              (try rw [← Nbq25.out])
              by_cases c26 : bq25 = true
              ·
               subst c26
               have H1 : ((ladderbacklaw08_on.f (decide ((wrap64 ((wrap64 (x7_1 + (wrap64 ((rd_T33 l1 x11_1).f0)))) - x8_14)) ≥ (wrap64 (a0))))).bind fun t152 => (if t134 = t152 then ((ladderbacklaw08_on.f true).bind fun t153 => (if t144 = t153 then (ladderbacklaw08_TimerDelays.l0 kj18 a0 l1 (wrap64 (x7_1 + (wrap64 ((rd_T33 l1 x11_1).f0)))) x8_14 true x10_18 (wrap64 (x11_1 + 1)) t132 t133 t134 t135 t136 t137 t138 t139 t140 t141 t142 t143 t144 t145 t146 t147 t148 t149 t150 t151) else (some false))) else (some false))) = some r := by rw [if_pos rfl] at H; exact H
               clear H
               have H := H1
               clear H1
               replace H := Option.bind_eq_some_iff.mp H
               obtain ⟨t152, A270, H⟩ := H
               replace H : (if t134 = t152 then ((ladderbacklaw08_on.f true).bind fun t153 => (if t144 = t153 then (ladderbacklaw08_TimerDelays.l0 kj18 a0 l1 (wrap64 (x7_1 + (wrap64 ((rd_T33 l1 x11_1).f0)))) x8_14 true x10_18 (wrap64 (x11_1 + 1)) t132 t133 t134 t135 t136 t137 t138 t139 t140 t141 t142 t143 t144 t145 t146 t147 t148 t149 t150 t151) else (some false))) else (some false)) = some r := H
               have A27 := Aside0.mk A270
               clear A270
               by_cases c28 : t134 = t152
               ·
                rw [if_pos c28] at H
                have c28b0 : (t134 == t152) = true := beq_iff_eq.mpr c28
                have c28b1 : (t134 != t152) = false := bne_eq_false_iff_eq.mpr c28
                clear c28
                replace H := Option.bind_eq_some_iff.mp H
                obtain ⟨t153, A290, H⟩ := H
                replace H : (if t144 = t153 then (ladderbacklaw08_TimerDelays.l0 kj18 a0 l1 (wrap64 (x7_1 + (wrap64 ((rd_T33 l1 x11_1).f0)))) x8_14 true x10_18 (wrap64 (x11_1 + 1)) t132 t133 t134 t135 t136 t137 t138 t139 t140 t141 t142 t143 t144 t145 t146 t147 t148 t149 t150 t151) else (some false)) = some r := H
                have A29 := Aside0.mk A290
                clear A290
                by_cases c30 : t144 = t153
                ·
                 rw [if_pos c30] at H
                 have c30b0 : (t144 == t153) = true := beq_iff_eq.mpr c30
                 have c30b1 : (t144 != t153) = false := bne_eq_false_iff_eq.mpr c30
                 clear c30
                 have H' := Aside0.mk H
                 clear H
                 try go_wp2_with (first | ((with_reducible refine gate_callee (f := 12) rfl ?_); refine goesL_ (some 61) rfl rfl Try.func12 (by kernel_rfl) rfl #[.bool true] rfl (by (try simp only [List.map_toArray, List.map_cons, List.map_nil]); first | done | rfl | (simp only [List.length_drop, List.length_take]; rfl)) ?_; (with_reducible refine (ladderbacklaw08_on.calls true t130 _ A21.out).mono ?_); rintro e w' ⟨rfl, ⟨nd, rfl⟩⟩; refine ⟨_, rfl, ?_⟩; (try (rw [drewN_self wc]; generalize hq_ : World.drewN wc _ = wc; have n0_ : Aside0 (wc.heap[gb124]? = some (.cells #[.int .i64 x125000_1, .int .i64 x125001_1, .int .i64 x125002_1, .int .i64 x125003_1, .int .i64 x125004_1, .int .i64 x125005_1, .int .i64 x125006_1, .int .i64 x125007_1, .int .i64 x125008_1, .int .i64 x125009_1] 26 (0, 0))) := ⟨by rw [← hq_]; exact (by (with_reducible repeat (first | refine blk_drewN ?_ _ | refine blk_drew ?_ | refine blk_alloc ?_ _)); exact BK124.out)⟩; have n1_ : Aside0 (wc.heap[gb125]? = some (.cells #[.int .i64 x126000_1, .int .i64 x126001_1, .int .i64 x126002_1, .int .i64 x126003_1, .int .i64 x126004_1, .int .i64 x126005_1, .int .i64 x126006_1, .int .i64 x126007_1, .int .i64 x126008_1, .int .i64 x126009_1] 26 (0, 0))) := ⟨by rw [← hq_]; exact (by (with_reducible repeat (first | refine blk_drewN ?_ _ | refine blk_drew ?_ | refine blk_alloc ?_ _)); exact BK125.out)⟩; have n2_ : Aside0 (Below w.heap.size w wc) := ⟨by rw [← hq_]; exact (by repeat (first | (with_reducible first | exact HB.out | apply below_alloc | apply pw_below_drewN | apply below_drew1 | refine below_set ?_ GE124.out | refine below_set ?_ GE125.out) | exact HB.out))⟩; clear BK124 BK125 HB hq_; have BK124 := n0_; have BK125 := n1_; have HB := n2_; clear n0_ n1_ n2_)); have hnb31 := NB124_125.out; have hnc31 := NB125_124.out; have hcz32_0 : wc.cell? ⟨gb124, 0, none⟩ = some (.int .i64 x125000_1) := (blk_cell BK124.out 0).trans rfl; have hcz32_1 : wc.cell? ⟨gb124, 1, none⟩ = some (.int .i64 x125001_1) := (blk_cell BK124.out 1).trans rfl; have hcz32_2 : wc.cell? ⟨gb124, 2, none⟩ = some (.int .i64 x125002_1) := (blk_cell BK124.out 2).trans rfl; have hcz32_3 : wc.cell? ⟨gb124, 3, none⟩ = some (.int .i64 x125003_1) := (blk_cell BK124.out 3).trans rfl; have hcz32_4 : wc.cell? ⟨gb124, 4, none⟩ = some (.int .i64 x125004_1) := (blk_cell BK124.out 4).trans rfl; have hcz32_5 : wc.cell? ⟨gb124, 5, none⟩ = some (.int .i64 x125005_1) := (blk_cell BK124.out 5).trans rfl; have hcz32_6 : wc.cell? ⟨gb124, 6, none⟩ = some (.int .i64 x125006_1) := (blk_cell BK124.out 6).trans rfl; have hcz32_7 : wc.cell? ⟨gb124, 7, none⟩ = some (.int .i64 x125007_1) := (blk_cell BK124.out 7).trans rfl; have hcz32_8 : wc.cell? ⟨gb124, 8, none⟩ = some (.int .i64 x125008_1) := (blk_cell BK124.out 8).trans rfl; have hcz32_9 : wc.cell? ⟨gb124, 9, none⟩ = some (.int .i64 x125009_1) := (blk_cell BK124.out 9).trans rfl; have hfz32_0 := blk_frozen BK124.out 0; have hfz32_1 := blk_frozen BK124.out 1; have hfz32_2 := blk_frozen BK124.out 2; have hfz32_3 := blk_frozen BK124.out 3; have hfz32_4 := blk_frozen BK124.out 4; have hfz32_5 := blk_frozen BK124.out 5; have hfz32_6 := blk_frozen BK124.out 6; have hfz32_7 := blk_frozen BK124.out 7; have hfz32_8 := blk_frozen BK124.out 8; have hfz32_9 := blk_frozen BK124.out 9) | ((with_reducible refine gate_callee (f := 12) rfl ?_); refine goesL_ (some 65) rfl rfl Try.func12 (by kernel_rfl) rfl #[.bool true] rfl (by (try simp only [List.map_toArray, List.map_cons, List.map_nil]); first | done | rfl | (simp only [List.length_drop, List.length_take]; rfl)) ?_; (with_reducible refine (ladderbacklaw08_on.calls true t131 _ A22.out).mono ?_); rintro e w' ⟨rfl, ⟨nd, rfl⟩⟩; refine ⟨_, rfl, ?_⟩; have hcz33_0 : wc.cell? ⟨gb125, 0, none⟩ = some (.int .i64 x126000_1) := (blk_cell BK125.out 0).trans rfl; have hcz33_1 : wc.cell? ⟨gb125, 1, none⟩ = some (.int .i64 x126001_1) := (blk_cell BK125.out 1).trans rfl; have hcz33_2 : wc.cell? ⟨gb125, 2, none⟩ = some (.int .i64 x126002_1) := (blk_cell BK125.out 2).trans rfl; have hcz33_3 : wc.cell? ⟨gb125, 3, none⟩ = some (.int .i64 x126003_1) := (blk_cell BK125.out 3).trans rfl; have hcz33_4 : wc.cell? ⟨gb125, 4, none⟩ = some (.int .i64 x126004_1) := (blk_cell BK125.out 4).trans rfl; have hcz33_5 : wc.cell? ⟨gb125, 5, none⟩ = some (.int .i64 x126005_1) := (blk_cell BK125.out 5).trans rfl; have hcz33_6 : wc.cell? ⟨gb125, 6, none⟩ = some (.int .i64 x126006_1) := (blk_cell BK125.out 6).trans rfl; have hcz33_7 : wc.cell? ⟨gb125, 7, none⟩ = some (.int .i64 x126007_1) := (blk_cell BK125.out 7).trans rfl; have hcz33_8 : wc.cell? ⟨gb125, 8, none⟩ = some (.int .i64 x126008_1) := (blk_cell BK125.out 8).trans rfl; have hcz33_9 : wc.cell? ⟨gb125, 9, none⟩ = some (.int .i64 x126009_1) := (blk_cell BK125.out 9).trans rfl; have hfz33_0 := blk_frozen BK125.out 0; have hfz33_1 := blk_frozen BK125.out 1; have hfz33_2 := blk_frozen BK125.out 2; have hfz33_3 := blk_frozen BK125.out 3; have hfz33_4 := blk_frozen BK125.out 4; have hfz33_5 := blk_frozen BK125.out 5; have hfz33_6 := blk_frozen BK125.out 6; have hfz33_7 := blk_frozen BK125.out 7; have hfz33_8 := blk_frozen BK125.out 8; have hfz33_9 := blk_frozen BK125.out 9))
                 have n0_ : Aside0 (((wc.setCell ⟨gb124, 0, none⟩ (.int .i64 t130)).setCell ⟨gb125, 0, none⟩ (.int .i64 t131)).heap[gb124]? = some (.cells #[.int .i64 t130, .int .i64 x125001_1, .int .i64 x125002_1, .int .i64 x125003_1, .int .i64 x125004_1, .int .i64 x125005_1, .int .i64 x125006_1, .int .i64 x125007_1, .int .i64 x125008_1, .int .i64 x125009_1] 26 (0, 0))) := ⟨by (with_reducible repeat (first | refine blk_drewN ?_ _ | refine blk_drew ?_ | refine blk_alloc ?_ _)); refine blk_far ?_ NB124_125.out _; (with_reducible repeat (first | refine blk_drewN ?_ _ | refine blk_drew ?_ | refine blk_alloc ?_ _)); refine blk_put (cs := #[.int .i64 x125000_1, .int .i64 x125001_1, .int .i64 x125002_1, .int .i64 x125003_1, .int .i64 x125004_1, .int .i64 x125005_1, .int .i64 x125006_1, .int .i64 x125007_1, .int .i64 x125008_1, .int .i64 x125009_1]) ?_ 0 _ rfl; (with_reducible repeat (first | refine blk_drewN ?_ _ | refine blk_drew ?_ | refine blk_alloc ?_ _)); exact BK124.out⟩
                 have n1_ : Aside0 (((wc.setCell ⟨gb124, 0, none⟩ (.int .i64 t130)).setCell ⟨gb125, 0, none⟩ (.int .i64 t131)).heap[gb125]? = some (.cells #[.int .i64 t131, .int .i64 x126001_1, .int .i64 x126002_1, .int .i64 x126003_1, .int .i64 x126004_1, .int .i64 x126005_1, .int .i64 x126006_1, .int .i64 x126007_1, .int .i64 x126008_1, .int .i64 x126009_1] 26 (0, 0))) := ⟨by (with_reducible repeat (first | refine blk_drewN ?_ _ | refine blk_drew ?_ | refine blk_alloc ?_ _)); refine blk_put (cs := #[.int .i64 x126000_1, .int .i64 x126001_1, .int .i64 x126002_1, .int .i64 x126003_1, .int .i64 x126004_1, .int .i64 x126005_1, .int .i64 x126006_1, .int .i64 x126007_1, .int .i64 x126008_1, .int .i64 x126009_1]) ?_ 0 _ rfl; (with_reducible repeat (first | refine blk_drewN ?_ _ | refine blk_drew ?_ | refine blk_alloc ?_ _)); refine blk_far ?_ NB125_124.out _; (with_reducible repeat (first | refine blk_drewN ?_ _ | refine blk_drew ?_ | refine blk_alloc ?_ _)); exact BK125.out⟩
                 have n2_ : Aside0 (Below w.heap.size w ((wc.setCell ⟨gb124, 0, none⟩ (.int .i64 t130)).setCell ⟨gb125, 0, none⟩ (.int .i64 t131))) := ⟨by repeat (first | (with_reducible first | exact HB.out | apply below_alloc | apply pw_below_drewN | apply below_drew1 | refine below_set ?_ GE124.out | refine below_set ?_ GE125.out) | exact HB.out)⟩
                 (try clear BK124)
                 (try clear BK125)
                 (try clear HB)
                 generalize ((wc.setCell ⟨gb124, 0, none⟩ (.int .i64 t130)).setCell ⟨gb125, 0, none⟩ (.int .i64 t131)) = w34 at n0_ n1_ n2_ ⊢
                 have BK124 := n0_
                 have BK125 := n1_
                 have HB := n2_
                 clear n0_ n1_ n2_
                 (try (rw [drewN_self w34]; generalize hq_ : World.drewN w34 _ = w34; have n0_ : Aside0 (w34.heap[gb124]? = some (.cells #[.int .i64 t130, .int .i64 x125001_1, .int .i64 x125002_1, .int .i64 x125003_1, .int .i64 x125004_1, .int .i64 x125005_1, .int .i64 x125006_1, .int .i64 x125007_1, .int .i64 x125008_1, .int .i64 x125009_1] 26 (0, 0))) := ⟨by rw [← hq_]; exact (by (with_reducible repeat (first | refine blk_drewN ?_ _ | refine blk_drew ?_ | refine blk_alloc ?_ _)); exact BK124.out)⟩; have n1_ : Aside0 (w34.heap[gb125]? = some (.cells #[.int .i64 t131, .int .i64 x126001_1, .int .i64 x126002_1, .int .i64 x126003_1, .int .i64 x126004_1, .int .i64 x126005_1, .int .i64 x126006_1, .int .i64 x126007_1, .int .i64 x126008_1, .int .i64 x126009_1] 26 (0, 0))) := ⟨by rw [← hq_]; exact (by (with_reducible repeat (first | refine blk_drewN ?_ _ | refine blk_drew ?_ | refine blk_alloc ?_ _)); exact BK125.out)⟩; have n2_ : Aside0 (Below w.heap.size w w34) := ⟨by rw [← hq_]; exact (by repeat (first | (with_reducible first | exact HB.out | apply below_alloc | apply pw_below_drewN | apply below_drew1 | refine below_set ?_ GE124.out | refine below_set ?_ GE125.out) | exact HB.out))⟩; clear BK124 BK125 HB hq_; have BK124 := n0_; have BK125 := n1_; have HB := n2_; clear n0_ n1_ n2_))
                 have n0_ := Aside0.mk (blk_drew BK124.out)
                 have n1_ := Aside0.mk (blk_drew BK125.out)
                 have n2_ := Aside0.mk (below_drew1 HB.out)
                 clear BK124
                 clear BK125
                 clear HB
                 have BK124 := n0_
                 have BK125 := n1_
                 have HB := n2_
                 clear n0_ n1_ n2_
                 refine start_ (n := 8) (S := fun w' => w'.cell? ⟨gb124, 0, none⟩ = some (.int .i64 t130) ∧ w'.cell? ⟨gb124, 1, none⟩ = some (.int .i64 x125001_1) ∧ w'.cell? ⟨gb124, 2, none⟩ = some (.int .i64 x125002_1) ∧ w'.cell? ⟨gb124, 3, none⟩ = some (.int .i64 x125003_1) ∧ w'.cell? ⟨gb124, 4, none⟩ = some (.int .i64 x125004_1) ∧ w'.cell? ⟨gb124, 5, none⟩ = some (.int .i64 x125005_1) ∧ w'.cell? ⟨gb124, 6, none⟩ = some (.int .i64 x125006_1) ∧ w'.cell? ⟨gb124, 7, none⟩ = some (.int .i64 x125007_1) ∧ w'.cell? ⟨gb124, 8, none⟩ = some (.int .i64 x125008_1) ∧ w'.cell? ⟨gb124, 9, none⟩ = some (.int .i64 x125009_1) ∧ w'.cell? ⟨gb125, 0, none⟩ = some (.int .i64 t131) ∧ w'.cell? ⟨gb125, 1, none⟩ = some (.int .i64 x126001_1) ∧ w'.cell? ⟨gb125, 2, none⟩ = some (.int .i64 x126002_1) ∧ w'.cell? ⟨gb125, 3, none⟩ = some (.int .i64 x126003_1) ∧ w'.cell? ⟨gb125, 4, none⟩ = some (.int .i64 x126004_1) ∧ w'.cell? ⟨gb125, 5, none⟩ = some (.int .i64 x126005_1) ∧ w'.cell? ⟨gb125, 6, none⟩ = some (.int .i64 x126006_1) ∧ w'.cell? ⟨gb125, 7, none⟩ = some (.int .i64 x126007_1) ∧ w'.cell? ⟨gb125, 8, none⟩ = some (.int .i64 x126008_1) ∧ w'.cell? ⟨gb125, 9, none⟩ = some (.int .i64 x126009_1)) (ds := [6, 7]) #[Ff,Ff,Ff,Ff,Ff,Ff,Ff,Ff] (by kernel_rfl) rfl rfl ⟨(blk_cell BK124.out 0).trans rfl, (blk_cell BK124.out 1).trans rfl, (blk_cell BK124.out 2).trans rfl, (blk_cell BK124.out 3).trans rfl, (blk_cell BK124.out 4).trans rfl, (blk_cell BK124.out 5).trans rfl, (blk_cell BK124.out 6).trans rfl, (blk_cell BK124.out 7).trans rfl, (blk_cell BK124.out 8).trans rfl, (blk_cell BK124.out 9).trans rfl, (blk_cell BK125.out 0).trans rfl, (blk_cell BK125.out 1).trans rfl, (blk_cell BK125.out 2).trans rfl, (blk_cell BK125.out 3).trans rfl, (blk_cell BK125.out 4).trans rfl, (blk_cell BK125.out 5).trans rfl, (blk_cell BK125.out 6).trans rfl, (blk_cell BK125.out 7).trans rfl, (blk_cell BK125.out 8).trans rfl, (blk_cell BK125.out 9).trans rfl⟩ (fun hHeld => ?_); refine with_tabW ladderbacklaw08_TimerDelays.tab16 ladderbacklaw08_TimerDelays.bits16 (fun HT_ HW_ => ?_)
                 generalize w34.drew = w35 at BK124 BK125 HB hHeld ⊢
                 refine pure_ (i := 1) (N := some 69) (v := ?_) (a' := ?_) #[Ff,Tt,Ff,Ff,Ff,Ff,Ff,Ff] rfl rfl (any_of HT_.out (by kernel_rfl)) (fun _ _ _ h => h) (Or.inl ⟨by rfl, ?_⟩) ?_ ?_
                 rotate_left
                 ·
                  intro w'
                  go_simp
                  with_reducible rfl
                 rotate_left
                 ·
                  simp only [Act.put, List.setIfInBounds_toArray, List.set_cons_zero, List.set_cons_succ, i64_w, i32_w]
                  rfl
                 refine pure_ (i := 4) (N := some 72) (v := ?_) (a' := ?_) #[Ff,Tt,Ff,Ff,Tt,Ff,Ff,Ff] rfl rfl (any_of HT_.out (by kernel_rfl)) (fun _ _ _ h => h) (Or.inl ⟨by rfl, ?_⟩) ?_ ?_
                 rotate_left
                 ·
                  intro w'
                  go_simp
                  with_reducible rfl
                 rotate_left
                 ·
                  simp only [Act.put, List.setIfInBounds_toArray, List.set_cons_zero, List.set_cons_succ, i64_w, i32_w]
                  rfl
                 refine take_ (i := 0) (N := some 68) (v := ?_) (a' := ?_) #[Tt,Tt,Ff,Ff,Tt,Ff,Ff,Ff] rfl rfl (take_ofW HT_.out HW_.out (by kernel_rfl)) (fun _ _ _ h => h) (Or.inl ⟨by rfl, ?_⟩) hHeld ?_ ?_
                 rotate_left
                 ·
                  rintro w' ⟨s0, s1, s2, s3, s4, s5, s6, s7, s8, s9, s10, s11, s12, s13, s14, s15, s16, s17, s18, s19⟩
                  go_simp
                  with_reducible rfl
                 rotate_left
                 ·
                  simp only [Act.put, List.setIfInBounds_toArray, List.set_cons_zero, List.set_cons_succ, i64_w, i32_w]
                  rfl
                 refine take_ (i := 3) (N := some 71) (v := ?_) (a' := ?_) #[Tt,Tt,Ff,Tt,Tt,Ff,Ff,Ff] rfl rfl (take_ofW HT_.out HW_.out (by kernel_rfl)) (fun _ _ _ h => h) (Or.inl ⟨by rfl, ?_⟩) hHeld ?_ ?_
                 rotate_left
                 ·
                  rintro w' ⟨s0, s1, s2, s3, s4, s5, s6, s7, s8, s9, s10, s11, s12, s13, s14, s15, s16, s17, s18, s19⟩
                  go_simp
                  with_reducible rfl
                 rotate_left
                 ·
                  simp only [Act.put, List.setIfInBounds_toArray, List.set_cons_zero, List.set_cons_succ, i64_w, i32_w]
                  rfl
                 refine one_ (i := 2) (N := some 70) #[Tt,Tt,Tt,Tt,Tt,Ff,Ff,Ff] rfl rfl (one_of HT_.out (by kernel_rfl)) (by decide) (fun K hK => ?_)
                 refine goes_ Try.func13 (by kernel_rfl) rfl #[.int .i64 1, .agg #[.int .i64 t130, .int .i64 x125001_1, .int .i64 x125002_1, .int .i64 x125003_1, .int .i64 x125004_1, .int .i64 x125005_1, .int .i64 x125006_1, .int .i64 x125007_1, .int .i64 x125008_1, .int .i64 x125009_1], .int .i64 (wrap64 (x7_1 + (wrap64 ((rd_T33 l1 x11_1).f0))))] (by rfl) rfl rfl (by (try simp only [List.map_toArray, List.map_cons, List.map_nil]); first | done | rfl | (simp only [List.length_drop, List.length_take]; rfl)) ?_
                 with_reducible refine (timer_Step.calls 1 t130 x125001_1 x125002_1 x125003_1 x125004_1 x125005_1 x125006_1 x125007_1 x125008_1 x125009_1 (wrap64 (x7_1 + (wrap64 ((rd_T33 l1 x11_1).f0)))) t132 t133 t134 t135 t136 t137 t138 t139 t140 t141 _ A23.out).mono ?_
                 rintro e w36 ⟨rfl, hb⟩
                 refine ⟨_, rfl, ?_⟩
                 have n0_ := Aside0.mk (blk_below (g := gb124) (o := .cells #[.int .i64 t130, .int .i64 x125001_1, .int .i64 x125002_1, .int .i64 x125003_1, .int .i64 x125004_1, .int .i64 x125005_1, .int .i64 x125006_1, .int .i64 x125007_1, .int .i64 x125008_1, .int .i64 x125009_1] 26 (0, 0)) (by (with_reducible repeat (first | refine blk_drewN ?_ _ | refine blk_drew ?_ | refine blk_alloc ?_ _)); exact BK124.out) hb)
                 have n1_ := Aside0.mk (blk_below (g := gb125) (o := .cells #[.int .i64 t131, .int .i64 x126001_1, .int .i64 x126002_1, .int .i64 x126003_1, .int .i64 x126004_1, .int .i64 x126005_1, .int .i64 x126006_1, .int .i64 x126007_1, .int .i64 x126008_1, .int .i64 x126009_1] 26 (0, 0)) (by (with_reducible repeat (first | refine blk_drewN ?_ _ | refine blk_drew ?_ | refine blk_alloc ?_ _)); exact BK125.out) hb)
                 have n2_ := Aside0.mk (below_step (by repeat (first | (with_reducible first | exact HB.out | apply below_alloc | apply pw_below_drewN | apply below_drew1 | refine below_set ?_ GE124.out | refine below_set ?_ GE125.out) | exact HB.out)) hb)
                 clear BK124
                 clear BK125
                 clear HB
                 have BK124 := n0_
                 have BK125 := n1_
                 have HB := n2_
                 clear n0_ n1_ n2_
                 (try clear hb)
                 (try clear hb2)
                 (try clear hk)
                 (try clear hi)
                 refine hK.out _ _ ⟨(blk_cell BK124.out 0).trans rfl, (blk_cell BK124.out 1).trans rfl, (blk_cell BK124.out 2).trans rfl, (blk_cell BK124.out 3).trans rfl, (blk_cell BK124.out 4).trans rfl, (blk_cell BK124.out 5).trans rfl, (blk_cell BK124.out 6).trans rfl, (blk_cell BK124.out 7).trans rfl, (blk_cell BK124.out 8).trans rfl, (blk_cell BK124.out 9).trans rfl, (blk_cell BK125.out 0).trans rfl, (blk_cell BK125.out 1).trans rfl, (blk_cell BK125.out 2).trans rfl, (blk_cell BK125.out 3).trans rfl, (blk_cell BK125.out 4).trans rfl, (blk_cell BK125.out 5).trans rfl, (blk_cell BK125.out 6).trans rfl, (blk_cell BK125.out 7).trans rfl, (blk_cell BK125.out 8).trans rfl, (blk_cell BK125.out 9).trans rfl⟩ (fun hHeld => ?_)
                 clear hK K
                 refine norm_ (a' := ?_) ?_ ?_
                 rotate_left
                 ·
                  show Act.put _ (some 70) _ = _
                  simp only [Act.put, List.setIfInBounds_toArray, List.set_cons_zero, List.set_cons_succ, i64_w, i32_w]
                  rfl
                 refine one_ (i := 5) (N := some 73) #[Tt,Tt,Tt,Tt,Tt,Tt,Ff,Ff] rfl rfl (one_of HT_.out (by kernel_rfl)) (by decide) (fun K hK => ?_)
                 refine goes_ Try.func13 (by kernel_rfl) rfl #[.int .i64 2, .agg #[.int .i64 t131, .int .i64 x126001_1, .int .i64 x126002_1, .int .i64 x126003_1, .int .i64 x126004_1, .int .i64 x126005_1, .int .i64 x126006_1, .int .i64 x126007_1, .int .i64 x126008_1, .int .i64 x126009_1], .int .i64 (wrap64 (x7_1 + (wrap64 ((rd_T33 l1 x11_1).f0))))] (by rfl) rfl rfl (by (try simp only [List.map_toArray, List.map_cons, List.map_nil]); first | done | rfl | (simp only [List.length_drop, List.length_take]; rfl)) ?_
                 with_reducible refine (timer_Step.calls 2 t131 x126001_1 x126002_1 x126003_1 x126004_1 x126005_1 x126006_1 x126007_1 x126008_1 x126009_1 (wrap64 (x7_1 + (wrap64 ((rd_T33 l1 x11_1).f0)))) t142 t143 t144 t145 t146 t147 t148 t149 t150 t151 _ A24.out).mono ?_
                 rintro e w37 ⟨rfl, hb⟩
                 refine ⟨_, rfl, ?_⟩
                 have n0_ := Aside0.mk (blk_below (g := gb124) (o := .cells #[.int .i64 t130, .int .i64 x125001_1, .int .i64 x125002_1, .int .i64 x125003_1, .int .i64 x125004_1, .int .i64 x125005_1, .int .i64 x125006_1, .int .i64 x125007_1, .int .i64 x125008_1, .int .i64 x125009_1] 26 (0, 0)) (by (with_reducible repeat (first | refine blk_drewN ?_ _ | refine blk_drew ?_ | refine blk_alloc ?_ _)); exact BK124.out) hb)
                 have n1_ := Aside0.mk (blk_below (g := gb125) (o := .cells #[.int .i64 t131, .int .i64 x126001_1, .int .i64 x126002_1, .int .i64 x126003_1, .int .i64 x126004_1, .int .i64 x126005_1, .int .i64 x126006_1, .int .i64 x126007_1, .int .i64 x126008_1, .int .i64 x126009_1] 26 (0, 0)) (by (with_reducible repeat (first | refine blk_drewN ?_ _ | refine blk_drew ?_ | refine blk_alloc ?_ _)); exact BK125.out) hb)
                 have n2_ := Aside0.mk (below_step (by repeat (first | (with_reducible first | exact HB.out | apply below_alloc | apply pw_below_drewN | apply below_drew1 | refine below_set ?_ GE124.out | refine below_set ?_ GE125.out) | exact HB.out)) hb)
                 clear BK124
                 clear BK125
                 clear HB
                 have BK124 := n0_
                 have BK125 := n1_
                 have HB := n2_
                 clear n0_ n1_ n2_
                 (try clear hb)
                 (try clear hb2)
                 (try clear hk)
                 (try clear hi)
                 refine hK.out _ _ ⟨(blk_cell BK124.out 0).trans rfl, (blk_cell BK124.out 1).trans rfl, (blk_cell BK124.out 2).trans rfl, (blk_cell BK124.out 3).trans rfl, (blk_cell BK124.out 4).trans rfl, (blk_cell BK124.out 5).trans rfl, (blk_cell BK124.out 6).trans rfl, (blk_cell BK124.out 7).trans rfl, (blk_cell BK124.out 8).trans rfl, (blk_cell BK124.out 9).trans rfl, (blk_cell BK125.out 0).trans rfl, (blk_cell BK125.out 1).trans rfl, (blk_cell BK125.out 2).trans rfl, (blk_cell BK125.out 3).trans rfl, (blk_cell BK125.out 4).trans rfl, (blk_cell BK125.out 5).trans rfl, (blk_cell BK125.out 6).trans rfl, (blk_cell BK125.out 7).trans rfl, (blk_cell BK125.out 8).trans rfl, (blk_cell BK125.out 9).trans rfl⟩ (fun hHeld => ?_)
                 clear hK K
                 refine norm_ (a' := ?_) ?_ ?_
                 rotate_left
                 ·
                  show Act.put _ (some 73) _ = _
                  simp only [Act.put, List.setIfInBounds_toArray, List.set_cons_zero, List.set_cons_succ, i64_w, i32_w]
                  rfl
                 refine last_ (i := 6) (N := none) #[Tt,Tt,Tt,Tt,Tt,Tt,Tt,Ff] rfl rfl (one_of HT_.out (by kernel_rfl)) (by decide) (fun K hK => ?_)
                 have hs38 : w37.cell? ⟨gb124, 0, none⟩ = some (.int .i64 t130) := (blk_cell BK124.out 0).trans rfl
                 have hfs38 := blk_frozen BK124.out 0
                 have hns38_1 := NB125_124.out
                 have hms38_1 := NB124_125.out
                 have hs39 : w37.cell? ⟨gb124, 1, none⟩ = some (.int .i64 x125001_1) := (blk_cell BK124.out 1).trans rfl
                 have hfs39 := blk_frozen BK124.out 1
                 have hns39_1 := NB125_124.out
                 have hms39_1 := NB124_125.out
                 have hs40 : w37.cell? ⟨gb124, 2, none⟩ = some (.int .i64 x125002_1) := (blk_cell BK124.out 2).trans rfl
                 have hfs40 := blk_frozen BK124.out 2
                 have hns40_1 := NB125_124.out
                 have hms40_1 := NB124_125.out
                 have hs41 : w37.cell? ⟨gb124, 3, none⟩ = some (.int .i64 x125003_1) := (blk_cell BK124.out 3).trans rfl
                 have hfs41 := blk_frozen BK124.out 3
                 have hns41_1 := NB125_124.out
                 have hms41_1 := NB124_125.out
                 have hs42 : w37.cell? ⟨gb124, 4, none⟩ = some (.int .i64 x125004_1) := (blk_cell BK124.out 4).trans rfl
                 have hfs42 := blk_frozen BK124.out 4
                 have hns42_1 := NB125_124.out
                 have hms42_1 := NB124_125.out
                 have hs43 : w37.cell? ⟨gb124, 5, none⟩ = some (.int .i64 x125005_1) := (blk_cell BK124.out 5).trans rfl
                 have hfs43 := blk_frozen BK124.out 5
                 have hns43_1 := NB125_124.out
                 have hms43_1 := NB124_125.out
                 have hs44 : w37.cell? ⟨gb124, 6, none⟩ = some (.int .i64 x125006_1) := (blk_cell BK124.out 6).trans rfl
                 have hfs44 := blk_frozen BK124.out 6
                 have hns44_1 := NB125_124.out
                 have hms44_1 := NB124_125.out
                 have hs45 : w37.cell? ⟨gb124, 7, none⟩ = some (.int .i64 x125007_1) := (blk_cell BK124.out 7).trans rfl
                 have hfs45 := blk_frozen BK124.out 7
                 have hns45_1 := NB125_124.out
                 have hms45_1 := NB124_125.out
                 have hs46 : w37.cell? ⟨gb124, 8, none⟩ = some (.int .i64 x125008_1) := (blk_cell BK124.out 8).trans rfl
                 have hfs46 := blk_frozen BK124.out 8
                 have hns46_1 := NB125_124.out
                 have hms46_1 := NB124_125.out
                 have hs47 : w37.cell? ⟨gb124, 9, none⟩ = some (.int .i64 x125009_1) := (blk_cell BK124.out 9).trans rfl
                 have hfs47 := blk_frozen BK124.out 9
                 have hns47_1 := NB125_124.out
                 have hms47_1 := NB124_125.out
                 with_reducible refine skip_ (w1 := ?_) ?_ ?_ ?_ ?_
                 rotate_left
                 · rfl
                 · rfl
                 ·
                  first | (exact store10_ rfl rfl rfl (by repeat' (first | (with_reducible exact Aside0.out (by assumption)) | refine blk_far ?_ (Aside0.out (by assumption)) _))) | (go_simp; rfl)
                 refine hK.out _ _ ?_
                 clear hK K
                 refine last_ (i := 7) (N := none) #[Tt,Tt,Tt,Tt,Tt,Tt,Tt,Tt] rfl rfl (one_of HT_.out (by kernel_rfl)) (by decide) (fun K hK => ?_)
                 have hs48 : w37.cell? ⟨gb125, 0, none⟩ = some (.int .i64 t131) := (blk_cell BK125.out 0).trans rfl
                 have hfs48 := blk_frozen BK125.out 0
                 have hns48_0 := NB124_125.out
                 have hms48_0 := NB125_124.out
                 have hs49 : w37.cell? ⟨gb125, 1, none⟩ = some (.int .i64 x126001_1) := (blk_cell BK125.out 1).trans rfl
                 have hfs49 := blk_frozen BK125.out 1
                 have hns49_0 := NB124_125.out
                 have hms49_0 := NB125_124.out
                 have hs50 : w37.cell? ⟨gb125, 2, none⟩ = some (.int .i64 x126002_1) := (blk_cell BK125.out 2).trans rfl
                 have hfs50 := blk_frozen BK125.out 2
                 have hns50_0 := NB124_125.out
                 have hms50_0 := NB125_124.out
                 have hs51 : w37.cell? ⟨gb125, 3, none⟩ = some (.int .i64 x126003_1) := (blk_cell BK125.out 3).trans rfl
                 have hfs51 := blk_frozen BK125.out 3
                 have hns51_0 := NB124_125.out
                 have hms51_0 := NB125_124.out
                 have hs52 : w37.cell? ⟨gb125, 4, none⟩ = some (.int .i64 x126004_1) := (blk_cell BK125.out 4).trans rfl
                 have hfs52 := blk_frozen BK125.out 4
                 have hns52_0 := NB124_125.out
                 have hms52_0 := NB125_124.out
                 have hs53 : w37.cell? ⟨gb125, 5, none⟩ = some (.int .i64 x126005_1) := (blk_cell BK125.out 5).trans rfl
                 have hfs53 := blk_frozen BK125.out 5
                 have hns53_0 := NB124_125.out
                 have hms53_0 := NB125_124.out
                 have hs54 : w37.cell? ⟨gb125, 6, none⟩ = some (.int .i64 x126006_1) := (blk_cell BK125.out 6).trans rfl
                 have hfs54 := blk_frozen BK125.out 6
                 have hns54_0 := NB124_125.out
                 have hms54_0 := NB125_124.out
                 have hs55 : w37.cell? ⟨gb125, 7, none⟩ = some (.int .i64 x126007_1) := (blk_cell BK125.out 7).trans rfl
                 have hfs55 := blk_frozen BK125.out 7
                 have hns55_0 := NB124_125.out
                 have hms55_0 := NB125_124.out
                 have hs56 : w37.cell? ⟨gb125, 8, none⟩ = some (.int .i64 x126008_1) := (blk_cell BK125.out 8).trans rfl
                 have hfs56 := blk_frozen BK125.out 8
                 have hns56_0 := NB124_125.out
                 have hms56_0 := NB125_124.out
                 have hs57 : w37.cell? ⟨gb125, 9, none⟩ = some (.int .i64 x126009_1) := (blk_cell BK125.out 9).trans rfl
                 have hfs57 := blk_frozen BK125.out 9
                 have hns57_0 := NB124_125.out
                 have hms57_0 := NB125_124.out
                 with_reducible refine skip_ (w1 := ?_) ?_ ?_ ?_ ?_
                 rotate_left
                 · rfl
                 · rfl
                 ·
                  first | (exact store10_ rfl rfl rfl (by repeat' (first | (with_reducible exact Aside0.out (by assumption)) | refine blk_far ?_ (Aside0.out (by assumption)) _))) | (go_simp; rfl)
                 refine hK.out _ _ ?_
                 clear hK K
                 refine done_ (done_of HT_.out (by kernel_rfl)) ?_
                 try go_wp2
                 have n0_ : Aside0 (((((((((((((((((((((w37.setCell ⟨gb124, 0, none⟩ (.int .i64 t132)).setCell ⟨gb124, 1, none⟩ (.int .i64 t133)).setCell ⟨gb124, 2, none⟩ (.int .i64 t134)).setCell ⟨gb124, 3, none⟩ (.int .i64 t135)).setCell ⟨gb124, 4, none⟩ (.int .i64 t136)).setCell ⟨gb124, 5, none⟩ (.int .i64 t137)).setCell ⟨gb124, 6, none⟩ (.int .i64 t138)).setCell ⟨gb124, 7, none⟩ (.int .i64 t139)).setCell ⟨gb124, 8, none⟩ (.int .i64 t140)).setCell ⟨gb124, 9, none⟩ (.int .i64 t141)).setCell ⟨gb125, 0, none⟩ (.int .i64 t142)).setCell ⟨gb125, 1, none⟩ (.int .i64 t143)).setCell ⟨gb125, 2, none⟩ (.int .i64 t144)).setCell ⟨gb125, 3, none⟩ (.int .i64 t145)).setCell ⟨gb125, 4, none⟩ (.int .i64 t146)).setCell ⟨gb125, 5, none⟩ (.int .i64 t147)).setCell ⟨gb125, 6, none⟩ (.int .i64 t148)).setCell ⟨gb125, 7, none⟩ (.int .i64 t149)).setCell ⟨gb125, 8, none⟩ (.int .i64 t150)).setCell ⟨gb125, 9, none⟩ (.int .i64 t151)).heap[gb124]? = some (.cells #[.int .i64 t132, .int .i64 t133, .int .i64 t134, .int .i64 t135, .int .i64 t136, .int .i64 t137, .int .i64 t138, .int .i64 t139, .int .i64 t140, .int .i64 t141] 26 (0, 0))) := ⟨by (with_reducible repeat (first | refine blk_drewN ?_ _ | refine blk_drew ?_ | refine blk_alloc ?_ _)); refine blk_far ?_ NB124_125.out _; (with_reducible repeat (first | refine blk_drewN ?_ _ | refine blk_drew ?_ | refine blk_alloc ?_ _)); refine blk_far ?_ NB124_125.out _; (with_reducible repeat (first | refine blk_drewN ?_ _ | refine blk_drew ?_ | refine blk_alloc ?_ _)); refine blk_far ?_ NB124_125.out _; (with_reducible repeat (first | refine blk_drewN ?_ _ | refine blk_drew ?_ | refine blk_alloc ?_ _)); refine blk_far ?_ NB124_125.out _; (with_reducible repeat (first | refine blk_drewN ?_ _ | refine blk_drew ?_ | refine blk_alloc ?_ _)); refine blk_far ?_ NB124_125.out _; (with_reducible repeat (first | refine blk_drewN ?_ _ | refine blk_drew ?_ | refine blk_alloc ?_ _)); refine blk_far ?_ NB124_125.out _; (with_reducible repeat (first | refine blk_drewN ?_ _ | refine blk_drew ?_ | refine blk_alloc ?_ _)); refine blk_far ?_ NB124_125.out _; (with_reducible repeat (first | refine blk_drewN ?_ _ | refine blk_drew ?_ | refine blk_alloc ?_ _)); refine blk_far ?_ NB124_125.out _; (with_reducible repeat (first | refine blk_drewN ?_ _ | refine blk_drew ?_ | refine blk_alloc ?_ _)); refine blk_far ?_ NB124_125.out _; (with_reducible repeat (first | refine blk_drewN ?_ _ | refine blk_drew ?_ | refine blk_alloc ?_ _)); refine blk_far ?_ NB124_125.out _; (with_reducible repeat (first | refine blk_drewN ?_ _ | refine blk_drew ?_ | refine blk_alloc ?_ _)); refine blk_put (cs := #[.int .i64 t132, .int .i64 t133, .int .i64 t134, .int .i64 t135, .int .i64 t136, .int .i64 t137, .int .i64 t138, .int .i64 t139, .int .i64 t140, .int .i64 x125009_1]) ?_ 9 _ rfl; (with_reducible repeat (first | refine blk_drewN ?_ _ | refine blk_drew ?_ | refine blk_alloc ?_ _)); refine blk_put (cs := #[.int .i64 t132, .int .i64 t133, .int .i64 t134, .int .i64 t135, .int .i64 t136, .int .i64 t137, .int .i64 t138, .int .i64 t139, .int .i64 x125008_1, .int .i64 x125009_1]) ?_ 8 _ rfl; (with_reducible repeat (first | refine blk_drewN ?_ _ | refine blk_drew ?_ | refine blk_alloc ?_ _)); refine blk_put (cs := #[.int .i64 t132, .int .i64 t133, .int .i64 t134, .int .i64 t135, .int .i64 t136, .int .i64 t137, .int .i64 t138, .int .i64 x125007_1, .int .i64 x125008_1, .int .i64 x125009_1]) ?_ 7 _ rfl; (with_reducible repeat (first | refine blk_drewN ?_ _ | refine blk_drew ?_ | refine blk_alloc ?_ _)); refine blk_put (cs := #[.int .i64 t132, .int .i64 t133, .int .i64 t134, .int .i64 t135, .int .i64 t136, .int .i64 t137, .int .i64 x125006_1, .int .i64 x125007_1, .int .i64 x125008_1, .int .i64 x125009_1]) ?_ 6 _ rfl; (with_reducible repeat (first | refine blk_drewN ?_ _ | refine blk_drew ?_ | refine blk_alloc ?_ _)); refine blk_put (cs := #[.int .i64 t132, .int .i64 t133, .int .i64 t134, .int .i64 t135, .int .i64 t136, .int .i64 x125005_1, .int .i64 x125006_1, .int .i64 x125007_1, .int .i64 x125008_1, .int .i64 x125009_1]) ?_ 5 _ rfl; (with_reducible repeat (first | refine blk_drewN ?_ _ | refine blk_drew ?_ | refine blk_alloc ?_ _)); refine blk_put (cs := #[.int .i64 t132, .int .i64 t133, .int .i64 t134, .int .i64 t135, .int .i64 x125004_1, .int .i64 x125005_1, .int .i64 x125006_1, .int .i64 x125007_1, .int .i64 x125008_1, .int .i64 x125009_1]) ?_ 4 _ rfl; (with_reducible repeat (first | refine blk_drewN ?_ _ | refine blk_drew ?_ | refine blk_alloc ?_ _)); refine blk_put (cs := #[.int .i64 t132, .int .i64 t133, .int .i64 t134, .int .i64 x125003_1, .int .i64 x125004_1, .int .i64 x125005_1, .int .i64 x125006_1, .int .i64 x125007_1, .int .i64 x125008_1, .int .i64 x125009_1]) ?_ 3 _ rfl; (with_reducible repeat (first | refine blk_drewN ?_ _ | refine blk_drew ?_ | refine blk_alloc ?_ _)); refine blk_put (cs := #[.int .i64 t132, .int .i64 t133, .int .i64 x125002_1, .int .i64 x125003_1, .int .i64 x125004_1, .int .i64 x125005_1, .int .i64 x125006_1, .int .i64 x125007_1, .int .i64 x125008_1, .int .i64 x125009_1]) ?_ 2 _ rfl; (with_reducible repeat (first | refine blk_drewN ?_ _ | refine blk_drew ?_ | refine blk_alloc ?_ _)); refine blk_put (cs := #[.int .i64 t132, .int .i64 x125001_1, .int .i64 x125002_1, .int .i64 x125003_1, .int .i64 x125004_1, .int .i64 x125005_1, .int .i64 x125006_1, .int .i64 x125007_1, .int .i64 x125008_1, .int .i64 x125009_1]) ?_ 1 _ rfl; (with_reducible repeat (first | refine blk_drewN ?_ _ | refine blk_drew ?_ | refine blk_alloc ?_ _)); refine blk_put (cs := #[.int .i64 t130, .int .i64 x125001_1, .int .i64 x125002_1, .int .i64 x125003_1, .int .i64 x125004_1, .int .i64 x125005_1, .int .i64 x125006_1, .int .i64 x125007_1, .int .i64 x125008_1, .int .i64 x125009_1]) ?_ 0 _ rfl; (with_reducible repeat (first | refine blk_drewN ?_ _ | refine blk_drew ?_ | refine blk_alloc ?_ _)); exact BK124.out⟩
                 have n1_ : Aside0 (((((((((((((((((((((w37.setCell ⟨gb124, 0, none⟩ (.int .i64 t132)).setCell ⟨gb124, 1, none⟩ (.int .i64 t133)).setCell ⟨gb124, 2, none⟩ (.int .i64 t134)).setCell ⟨gb124, 3, none⟩ (.int .i64 t135)).setCell ⟨gb124, 4, none⟩ (.int .i64 t136)).setCell ⟨gb124, 5, none⟩ (.int .i64 t137)).setCell ⟨gb124, 6, none⟩ (.int .i64 t138)).setCell ⟨gb124, 7, none⟩ (.int .i64 t139)).setCell ⟨gb124, 8, none⟩ (.int .i64 t140)).setCell ⟨gb124, 9, none⟩ (.int .i64 t141)).setCell ⟨gb125, 0, none⟩ (.int .i64 t142)).setCell ⟨gb125, 1, none⟩ (.int .i64 t143)).setCell ⟨gb125, 2, none⟩ (.int .i64 t144)).setCell ⟨gb125, 3, none⟩ (.int .i64 t145)).setCell ⟨gb125, 4, none⟩ (.int .i64 t146)).setCell ⟨gb125, 5, none⟩ (.int .i64 t147)).setCell ⟨gb125, 6, none⟩ (.int .i64 t148)).setCell ⟨gb125, 7, none⟩ (.int .i64 t149)).setCell ⟨gb125, 8, none⟩ (.int .i64 t150)).setCell ⟨gb125, 9, none⟩ (.int .i64 t151)).heap[gb125]? = some (.cells #[.int .i64 t142, .int .i64 t143, .int .i64 t144, .int .i64 t145, .int .i64 t146, .int .i64 t147, .int .i64 t148, .int .i64 t149, .int .i64 t150, .int .i64 t151] 26 (0, 0))) := ⟨by (with_reducible repeat (first | refine blk_drewN ?_ _ | refine blk_drew ?_ | refine blk_alloc ?_ _)); refine blk_put (cs := #[.int .i64 t142, .int .i64 t143, .int .i64 t144, .int .i64 t145, .int .i64 t146, .int .i64 t147, .int .i64 t148, .int .i64 t149, .int .i64 t150, .int .i64 x126009_1]) ?_ 9 _ rfl; (with_reducible repeat (first | refine blk_drewN ?_ _ | refine blk_drew ?_ | refine blk_alloc ?_ _)); refine blk_put (cs := #[.int .i64 t142, .int .i64 t143, .int .i64 t144, .int .i64 t145, .int .i64 t146, .int .i64 t147, .int .i64 t148, .int .i64 t149, .int .i64 x126008_1, .int .i64 x126009_1]) ?_ 8 _ rfl; (with_reducible repeat (first | refine blk_drewN ?_ _ | refine blk_drew ?_ | refine blk_alloc ?_ _)); refine blk_put (cs := #[.int .i64 t142, .int .i64 t143, .int .i64 t144, .int .i64 t145, .int .i64 t146, .int .i64 t147, .int .i64 t148, .int .i64 x126007_1, .int .i64 x126008_1, .int .i64 x126009_1]) ?_ 7 _ rfl; (with_reducible repeat (first | refine blk_drewN ?_ _ | refine blk_drew ?_ | refine blk_alloc ?_ _)); refine blk_put (cs := #[.int .i64 t142, .int .i64 t143, .int .i64 t144, .int .i64 t145, .int .i64 t146, .int .i64 t147, .int .i64 x126006_1, .int .i64 x126007_1, .int .i64 x126008_1, .int .i64 x126009_1]) ?_ 6 _ rfl; (with_reducible repeat (first | refine blk_drewN ?_ _ | refine blk_drew ?_ | refine blk_alloc ?_ _)); refine blk_put (cs := #[.int .i64 t142, .int .i64 t143, .int .i64 t144, .int .i64 t145, .int .i64 t146, .int .i64 x126005_1, .int .i64 x126006_1, .int .i64 x126007_1, .int .i64 x126008_1, .int .i64 x126009_1]) ?_ 5 _ rfl; (with_reducible repeat (first | refine blk_drewN ?_ _ | refine blk_drew ?_ | refine blk_alloc ?_ _)); refine blk_put (cs := #[.int .i64 t142, .int .i64 t143, .int .i64 t144, .int .i64 t145, .int .i64 x126004_1, .int .i64 x126005_1, .int .i64 x126006_1, .int .i64 x126007_1, .int .i64 x126008_1, .int .i64 x126009_1]) ?_ 4 _ rfl; (with_reducible repeat (first | refine blk_drewN ?_ _ | refine blk_drew ?_ | refine blk_alloc ?_ _)); refine blk_put (cs := #[.int .i64 t142, .int .i64 t143, .int .i64 t144, .int .i64 x126003_1, .int .i64 x126004_1, .int .i64 x126005_1, .int .i64 x126006_1, .int .i64 x126007_1, .int .i64 x126008_1, .int .i64 x126009_1]) ?_ 3 _ rfl; (with_reducible repeat (first | refine blk_drewN ?_ _ | refine blk_drew ?_ | refine blk_alloc ?_ _)); refine blk_put (cs := #[.int .i64 t142, .int .i64 t143, .int .i64 x126002_1, .int .i64 x126003_1, .int .i64 x126004_1, .int .i64 x126005_1, .int .i64 x126006_1, .int .i64 x126007_1, .int .i64 x126008_1, .int .i64 x126009_1]) ?_ 2 _ rfl; (with_reducible repeat (first | refine blk_drewN ?_ _ | refine blk_drew ?_ | refine blk_alloc ?_ _)); refine blk_put (cs := #[.int .i64 t142, .int .i64 x126001_1, .int .i64 x126002_1, .int .i64 x126003_1, .int .i64 x126004_1, .int .i64 x126005_1, .int .i64 x126006_1, .int .i64 x126007_1, .int .i64 x126008_1, .int .i64 x126009_1]) ?_ 1 _ rfl; (with_reducible repeat (first | refine blk_drewN ?_ _ | refine blk_drew ?_ | refine blk_alloc ?_ _)); refine blk_put (cs := #[.int .i64 t131, .int .i64 x126001_1, .int .i64 x126002_1, .int .i64 x126003_1, .int .i64 x126004_1, .int .i64 x126005_1, .int .i64 x126006_1, .int .i64 x126007_1, .int .i64 x126008_1, .int .i64 x126009_1]) ?_ 0 _ rfl; (with_reducible repeat (first | refine blk_drewN ?_ _ | refine blk_drew ?_ | refine blk_alloc ?_ _)); refine blk_far ?_ NB125_124.out _; (with_reducible repeat (first | refine blk_drewN ?_ _ | refine blk_drew ?_ | refine blk_alloc ?_ _)); refine blk_far ?_ NB125_124.out _; (with_reducible repeat (first | refine blk_drewN ?_ _ | refine blk_drew ?_ | refine blk_alloc ?_ _)); refine blk_far ?_ NB125_124.out _; (with_reducible repeat (first | refine blk_drewN ?_ _ | refine blk_drew ?_ | refine blk_alloc ?_ _)); refine blk_far ?_ NB125_124.out _; (with_reducible repeat (first | refine blk_drewN ?_ _ | refine blk_drew ?_ | refine blk_alloc ?_ _)); refine blk_far ?_ NB125_124.out _; (with_reducible repeat (first | refine blk_drewN ?_ _ | refine blk_drew ?_ | refine blk_alloc ?_ _)); refine blk_far ?_ NB125_124.out _; (with_reducible repeat (first | refine blk_drewN ?_ _ | refine blk_drew ?_ | refine blk_alloc ?_ _)); refine blk_far ?_ NB125_124.out _; (with_reducible repeat (first | refine blk_drewN ?_ _ | refine blk_drew ?_ | refine blk_alloc ?_ _)); refine blk_far ?_ NB125_124.out _; (with_reducible repeat (first | refine blk_drewN ?_ _ | refine blk_drew ?_ | refine blk_alloc ?_ _)); refine blk_far ?_ NB125_124.out _; (with_reducible repeat (first | refine blk_drewN ?_ _ | refine blk_drew ?_ | refine blk_alloc ?_ _)); refine blk_far ?_ NB125_124.out _; (with_reducible repeat (first | refine blk_drewN ?_ _ | refine blk_drew ?_ | refine blk_alloc ?_ _)); exact BK125.out⟩
                 have n2_ : Aside0 (Below w.heap.size w ((((((((((((((((((((w37.setCell ⟨gb124, 0, none⟩ (.int .i64 t132)).setCell ⟨gb124, 1, none⟩ (.int .i64 t133)).setCell ⟨gb124, 2, none⟩ (.int .i64 t134)).setCell ⟨gb124, 3, none⟩ (.int .i64 t135)).setCell ⟨gb124, 4, none⟩ (.int .i64 t136)).setCell ⟨gb124, 5, none⟩ (.int .i64 t137)).setCell ⟨gb124, 6, none⟩ (.int .i64 t138)).setCell ⟨gb124, 7, none⟩ (.int .i64 t139)).setCell ⟨gb124, 8, none⟩ (.int .i64 t140)).setCell ⟨gb124, 9, none⟩ (.int .i64 t141)).setCell ⟨gb125, 0, none⟩ (.int .i64 t142)).setCell ⟨gb125, 1, none⟩ (.int .i64 t143)).setCell ⟨gb125, 2, none⟩ (.int .i64 t144)).setCell ⟨gb125, 3, none⟩ (.int .i64 t145)).setCell ⟨gb125, 4, none⟩ (.int .i64 t146)).setCell ⟨gb125, 5, none⟩ (.int .i64 t147)).setCell ⟨gb125, 6, none⟩ (.int .i64 t148)).setCell ⟨gb125, 7, none⟩ (.int .i64 t149)).setCell ⟨gb125, 8, none⟩ (.int .i64 t150)).setCell ⟨gb125, 9, none⟩ (.int .i64 t151))) := ⟨by repeat (first | (with_reducible first | exact HB.out | apply below_alloc | apply pw_below_drewN | apply below_drew1 | refine below_set ?_ GE124.out | refine below_set ?_ GE125.out) | exact HB.out)⟩
                 (try clear BK124)
                 (try clear BK125)
                 (try clear HB)
                 generalize ((((((((((((((((((((w37.setCell ⟨gb124, 0, none⟩ (.int .i64 t132)).setCell ⟨gb124, 1, none⟩ (.int .i64 t133)).setCell ⟨gb124, 2, none⟩ (.int .i64 t134)).setCell ⟨gb124, 3, none⟩ (.int .i64 t135)).setCell ⟨gb124, 4, none⟩ (.int .i64 t136)).setCell ⟨gb124, 5, none⟩ (.int .i64 t137)).setCell ⟨gb124, 6, none⟩ (.int .i64 t138)).setCell ⟨gb124, 7, none⟩ (.int .i64 t139)).setCell ⟨gb124, 8, none⟩ (.int .i64 t140)).setCell ⟨gb124, 9, none⟩ (.int .i64 t141)).setCell ⟨gb125, 0, none⟩ (.int .i64 t142)).setCell ⟨gb125, 1, none⟩ (.int .i64 t143)).setCell ⟨gb125, 2, none⟩ (.int .i64 t144)).setCell ⟨gb125, 3, none⟩ (.int .i64 t145)).setCell ⟨gb125, 4, none⟩ (.int .i64 t146)).setCell ⟨gb125, 5, none⟩ (.int .i64 t147)).setCell ⟨gb125, 6, none⟩ (.int .i64 t148)).setCell ⟨gb125, 7, none⟩ (.int .i64 t149)).setCell ⟨gb125, 8, none⟩ (.int .i64 t150)).setCell ⟨gb125, 9, none⟩ (.int .i64 t151)) = w58 at n0_ n1_ n2_ ⊢
                 have BK124 := n0_
                 have BK125 := n1_
                 have HB := n2_
                 clear n0_ n1_ n2_
                 have n0_ := Aside0.mk (blk_drew BK124.out)
                 have n1_ := Aside0.mk (blk_drew BK125.out)
                 have n2_ := Aside0.mk (below_drew1 HB.out)
                 clear BK124
                 clear BK125
                 clear HB
                 have BK124 := n0_
                 have BK125 := n1_
                 have HB := n2_
                 clear n0_ n1_ n2_
                 refine start_ (n := 24) (S := fun w' => w'.cell? ⟨gb124, 0, none⟩ = some (.int .i64 t132) ∧ w'.cell? ⟨gb124, 1, none⟩ = some (.int .i64 t133) ∧ w'.cell? ⟨gb124, 2, none⟩ = some (.int .i64 t134) ∧ w'.cell? ⟨gb124, 3, none⟩ = some (.int .i64 t135) ∧ w'.cell? ⟨gb124, 4, none⟩ = some (.int .i64 t136) ∧ w'.cell? ⟨gb124, 5, none⟩ = some (.int .i64 t137) ∧ w'.cell? ⟨gb124, 6, none⟩ = some (.int .i64 t138) ∧ w'.cell? ⟨gb124, 7, none⟩ = some (.int .i64 t139) ∧ w'.cell? ⟨gb124, 8, none⟩ = some (.int .i64 t140) ∧ w'.cell? ⟨gb124, 9, none⟩ = some (.int .i64 t141) ∧ w'.cell? ⟨gb125, 0, none⟩ = some (.int .i64 t142) ∧ w'.cell? ⟨gb125, 1, none⟩ = some (.int .i64 t143) ∧ w'.cell? ⟨gb125, 2, none⟩ = some (.int .i64 t144) ∧ w'.cell? ⟨gb125, 3, none⟩ = some (.int .i64 t145) ∧ w'.cell? ⟨gb125, 4, none⟩ = some (.int .i64 t146) ∧ w'.cell? ⟨gb125, 5, none⟩ = some (.int .i64 t147) ∧ w'.cell? ⟨gb125, 6, none⟩ = some (.int .i64 t148) ∧ w'.cell? ⟨gb125, 7, none⟩ = some (.int .i64 t149) ∧ w'.cell? ⟨gb125, 8, none⟩ = some (.int .i64 t150) ∧ w'.cell? ⟨gb125, 9, none⟩ = some (.int .i64 t151)) (ds := []) #[Ff,Ff,Ff,Ff,Ff,Ff,Ff,Ff,Ff,Ff,Ff,Ff,Ff,Ff,Ff,Ff,Ff,Ff,Ff,Ff,Ff,Ff,Ff,Ff] (by kernel_rfl) rfl rfl ⟨(blk_cell BK124.out 0).trans rfl, (blk_cell BK124.out 1).trans rfl, (blk_cell BK124.out 2).trans rfl, (blk_cell BK124.out 3).trans rfl, (blk_cell BK124.out 4).trans rfl, (blk_cell BK124.out 5).trans rfl, (blk_cell BK124.out 6).trans rfl, (blk_cell BK124.out 7).trans rfl, (blk_cell BK124.out 8).trans rfl, (blk_cell BK124.out 9).trans rfl, (blk_cell BK125.out 0).trans rfl, (blk_cell BK125.out 1).trans rfl, (blk_cell BK125.out 2).trans rfl, (blk_cell BK125.out 3).trans rfl, (blk_cell BK125.out 4).trans rfl, (blk_cell BK125.out 5).trans rfl, (blk_cell BK125.out 6).trans rfl, (blk_cell BK125.out 7).trans rfl, (blk_cell BK125.out 8).trans rfl, (blk_cell BK125.out 9).trans rfl⟩ (fun hHeld => ?_); refine with_tabW ladderbacklaw08_TimerDelays.tab18 ladderbacklaw08_TimerDelays.bits18 (fun HT_ HW_ => ?_)
                 generalize w58.drew = w59 at BK124 BK125 HB hHeld ⊢
                 refine pure_ (i := 0) (N := some 80) (v := ?_) (a' := ?_) #[Tt,Ff,Ff,Ff,Ff,Ff,Ff,Ff,Ff,Ff,Ff,Ff,Ff,Ff,Ff,Ff,Ff,Ff,Ff,Ff,Ff,Ff,Ff,Ff] rfl rfl (any_of HT_.out (by kernel_rfl)) (fun _ _ _ h => h) (Or.inl ⟨by rfl, ?_⟩) ?_ ?_
                 rotate_left
                 ·
                  intro w'
                  go_simp
                  with_reducible rfl
                 rotate_left
                 ·
                  simp only [Act.put, List.setIfInBounds_toArray, List.set_cons_zero, List.set_cons_succ, i64_w, i32_w]
                  rfl
                 refine pure_ (i := 1) (N := some 81) (v := ?_) (a' := ?_) #[Tt,Tt,Ff,Ff,Ff,Ff,Ff,Ff,Ff,Ff,Ff,Ff,Ff,Ff,Ff,Ff,Ff,Ff,Ff,Ff,Ff,Ff,Ff,Ff] rfl rfl (any_of HT_.out (by kernel_rfl)) (fun _ _ _ h => h) (Or.inl ⟨by rfl, ?_⟩) ?_ ?_
                 rotate_left
                 ·
                  intro w'
                  go_simp
                  with_reducible rfl
                 rotate_left
                 ·
                  simp only [Act.put, List.setIfInBounds_toArray, List.set_cons_zero, List.set_cons_succ, i64_w, i32_w]
                  rfl
                 refine pure_ (i := 3) (N := some 83) (v := ?_) (a' := ?_) #[Tt,Tt,Ff,Tt,Ff,Ff,Ff,Ff,Ff,Ff,Ff,Ff,Ff,Ff,Ff,Ff,Ff,Ff,Ff,Ff,Ff,Ff,Ff,Ff] rfl rfl (any_of HT_.out (by kernel_rfl)) (fun _ _ _ h => h) (Or.inl ⟨by rfl, ?_⟩) ?_ ?_
                 rotate_left
                 ·
                  intro w'
                  go_simp
                  with_reducible rfl
                 rotate_left
                 ·
                  simp only [Act.put, List.setIfInBounds_toArray, List.set_cons_zero, List.set_cons_succ, i64_w, i32_w]
                  rfl
                 refine pure_ (i := 4) (N := some 84) (v := ?_) (a' := ?_) #[Tt,Tt,Ff,Tt,Tt,Ff,Ff,Ff,Ff,Ff,Ff,Ff,Ff,Ff,Ff,Ff,Ff,Ff,Ff,Ff,Ff,Ff,Ff,Ff] rfl rfl (any_of HT_.out (by kernel_rfl)) (fun _ _ _ h => h) (Or.inl ⟨by rfl, ?_⟩) ?_ ?_
                 rotate_left
                 ·
                  intro w'
                  go_simp
                  with_reducible rfl
                 rotate_left
                 ·
                  simp only [Act.put, List.setIfInBounds_toArray, List.set_cons_zero, List.set_cons_succ, i64_w, i32_w]
                  rfl
                 refine pure_ (i := 5) (N := some 85) (v := ?_) (a' := ?_) #[Tt,Tt,Ff,Tt,Tt,Tt,Ff,Ff,Ff,Ff,Ff,Ff,Ff,Ff,Ff,Ff,Ff,Ff,Ff,Ff,Ff,Ff,Ff,Ff] rfl rfl (any_of HT_.out (by kernel_rfl)) (fun _ _ _ h => h) (Or.inl ⟨by rfl, ?_⟩) ?_ ?_
                 rotate_left
                 ·
                  intro w'
                  go_simp
                  with_reducible rfl
                 rotate_left
                 ·
                  simp only [Act.put, List.setIfInBounds_toArray, List.set_cons_zero, List.set_cons_succ, i64_w, i32_w]
                  rfl
                 refine pure_ (i := 6) (N := some 86) (v := ?_) (a' := ?_) #[Tt,Tt,Ff,Tt,Tt,Tt,Tt,Ff,Ff,Ff,Ff,Ff,Ff,Ff,Ff,Ff,Ff,Ff,Ff,Ff,Ff,Ff,Ff,Ff] rfl rfl (any_of HT_.out (by kernel_rfl)) (fun _ _ _ h => h) (Or.inl ⟨by rfl, ?_⟩) ?_ ?_
                 rotate_left
                 ·
                  intro w'
                  go_simp
                  with_reducible rfl
                 rotate_left
                 ·
                  simp only [Act.put, List.setIfInBounds_toArray, List.set_cons_zero, List.set_cons_succ, i64_w, i32_w]
                  rfl
                 refine take_ (i := 2) (N := some 82) (v := ?_) (a' := ?_) #[Tt,Tt,Tt,Tt,Tt,Tt,Tt,Ff,Ff,Ff,Ff,Ff,Ff,Ff,Ff,Ff,Ff,Ff,Ff,Ff,Ff,Ff,Ff,Ff] rfl rfl (take_ofW HT_.out HW_.out (by kernel_rfl)) (fun _ _ _ h => h) (Or.inl ⟨by rfl, ?_⟩) hHeld ?_ ?_
                 rotate_left
                 ·
                  rintro w' ⟨s0, s1, s2, s3, s4, s5, s6, s7, s8, s9, s10, s11, s12, s13, s14, s15, s16, s17, s18, s19⟩
                  go_simp
                  with_reducible rfl
                 rotate_left
                 ·
                  simp only [Act.put, List.setIfInBounds_toArray, List.set_cons_zero, List.set_cons_succ, i64_w, i32_w]
                  rfl
                 refine one_ (i := 7) (N := some 87) #[Tt,Tt,Tt,Tt,Tt,Tt,Tt,Tt,Ff,Ff,Ff,Ff,Ff,Ff,Ff,Ff,Ff,Ff,Ff,Ff,Ff,Ff,Ff,Ff] rfl rfl (one_of HT_.out (by kernel_rfl)) (by decide) (fun K hK => ?_)
                 refine goes_ Try.func12 (by kernel_rfl) rfl #[.bool (decide ((wrap64 ((wrap64 (x7_1 + (wrap64 ((rd_T33 l1 x11_1).f0)))) - x8_14)) ≥ (wrap64 (a0))))] (by rfl) rfl rfl (by (try simp only [List.map_toArray, List.map_cons, List.map_nil]); first | done | rfl | (simp only [List.length_drop, List.length_take]; rfl)) ?_
                 with_reducible refine (ladderbacklaw08_on.calls (decide ((wrap64 ((wrap64 (x7_1 + (wrap64 ((rd_T33 l1 x11_1).f0)))) - x8_14)) ≥ (wrap64 (a0)))) t152 _ A27.out).mono ?_
                 rintro e w' ⟨rfl, ⟨nd, rfl⟩⟩
                 refine ⟨_, rfl, ?_⟩
                 refine hK.out _ _ ⟨(blk_cell BK124.out 0).trans rfl, (blk_cell BK124.out 1).trans rfl, (blk_cell BK124.out 2).trans rfl, (blk_cell BK124.out 3).trans rfl, (blk_cell BK124.out 4).trans rfl, (blk_cell BK124.out 5).trans rfl, (blk_cell BK124.out 6).trans rfl, (blk_cell BK124.out 7).trans rfl, (blk_cell BK124.out 8).trans rfl, (blk_cell BK124.out 9).trans rfl, (blk_cell BK125.out 0).trans rfl, (blk_cell BK125.out 1).trans rfl, (blk_cell BK125.out 2).trans rfl, (blk_cell BK125.out 3).trans rfl, (blk_cell BK125.out 4).trans rfl, (blk_cell BK125.out 5).trans rfl, (blk_cell BK125.out 6).trans rfl, (blk_cell BK125.out 7).trans rfl, (blk_cell BK125.out 8).trans rfl, (blk_cell BK125.out 9).trans rfl⟩ (fun hHeld => ?_)
                 clear hK K
                 refine norm_ (a' := ?_) ?_ ?_
                 rotate_left
                 ·
                  show Act.put _ (some 87) _ = _
                  simp only [Act.put, List.setIfInBounds_toArray, List.set_cons_zero, List.set_cons_succ, i64_w, i32_w]
                  rfl
                 refine pure_ (i := 8) (N := some 88) (v := ?_) (a' := ?_) #[Tt,Tt,Tt,Tt,Tt,Tt,Tt,Tt,Tt,Ff,Ff,Ff,Ff,Ff,Ff,Ff,Ff,Ff,Ff,Ff,Ff,Ff,Ff,Ff] rfl rfl (any_of HT_.out (by kernel_rfl)) (fun _ _ _ h => h) (Or.inl ⟨by rfl, ?_⟩) ?_ ?_
                 rotate_left
                 ·
                  intro w'
                  go_simp
                  with_reducible rfl
                 rotate_left
                 ·
                  simp only [Act.put, List.setIfInBounds_toArray, List.set_cons_zero, List.set_cons_succ, i64_w, i32_w]
                  rfl
                 refine pure_ (i := 9) (N := some 89) (v := ?_) (a' := ?_) #[Tt,Tt,Tt,Tt,Tt,Tt,Tt,Tt,Tt,Tt,Ff,Ff,Ff,Ff,Ff,Ff,Ff,Ff,Ff,Ff,Ff,Ff,Ff,Ff] rfl rfl (any_of HT_.out (by kernel_rfl)) (fun _ _ _ h => h) (Or.inl ⟨by rfl, ?_⟩) ?_ ?_
                 rotate_left
                 ·
                  intro w'
                  go_simp
                  with_reducible rfl
                 rotate_left
                 ·
                  simp only [Act.put, List.setIfInBounds_toArray, List.set_cons_zero, List.set_cons_succ, i64_w, i32_w]
                  rfl
                 refine pure_ (i := 10) (N := some 90) (v := ?_) (a' := ?_) #[Tt,Tt,Tt,Tt,Tt,Tt,Tt,Tt,Tt,Tt,Tt,Ff,Ff,Ff,Ff,Ff,Ff,Ff,Ff,Ff,Ff,Ff,Ff,Ff] rfl rfl (any_of HT_.out (by kernel_rfl)) (fun _ _ _ h => h) (Or.inl ⟨by rfl, ?_⟩) ?_ ?_
                 rotate_left
                 ·
                  intro w'
                  go_simp
                  with_reducible rfl
                 rotate_left
                 ·
                  simp only [Act.put, List.setIfInBounds_toArray, List.set_cons_zero, List.set_cons_succ, i64_w, i32_w]
                  rfl
                 refine pure_ (i := 11) (N := some 91) (v := ?_) (a' := ?_) #[Tt,Tt,Tt,Tt,Tt,Tt,Tt,Tt,Tt,Tt,Tt,Tt,Ff,Ff,Ff,Ff,Ff,Ff,Ff,Ff,Ff,Ff,Ff,Ff] rfl rfl (any_of HT_.out (by kernel_rfl)) (fun _ _ _ h => h) (Or.inl ⟨by rfl, ?_⟩) ?_ ?_
                 rotate_left
                 ·
                  intro w'
                  go_simp
                  with_reducible rfl
                 rotate_left
                 ·
                  simp only [Act.put, List.setIfInBounds_toArray, List.set_cons_zero, List.set_cons_succ, i64_w, i32_w]
                  rfl
                 refine pure_ (i := 13) (N := some 93) (v := ?_) (a' := ?_) #[Tt,Tt,Tt,Tt,Tt,Tt,Tt,Tt,Tt,Tt,Tt,Tt,Ff,Tt,Ff,Ff,Ff,Ff,Ff,Ff,Ff,Ff,Ff,Ff] rfl rfl (any_of HT_.out (by kernel_rfl)) (fun _ _ _ h => h) (Or.inl ⟨by rfl, ?_⟩) ?_ ?_
                 rotate_left
                 ·
                  intro w'
                  go_simp
                  with_reducible rfl
                 rotate_left
                 ·
                  simp only [Act.put, List.setIfInBounds_toArray, List.set_cons_zero, List.set_cons_succ, i64_w, i32_w]
                  rfl
                 refine pure_ (i := 14) (N := some 94) (v := ?_) (a' := ?_) #[Tt,Tt,Tt,Tt,Tt,Tt,Tt,Tt,Tt,Tt,Tt,Tt,Ff,Tt,Tt,Ff,Ff,Ff,Ff,Ff,Ff,Ff,Ff,Ff] rfl rfl (any_of HT_.out (by kernel_rfl)) (fun _ _ _ h => h) (Or.inl ⟨by rfl, ?_⟩) ?_ ?_
                 rotate_left
                 ·
                  intro w'
                  go_simp
                  with_reducible rfl
                 rotate_left
                 ·
                  simp only [Act.put, List.setIfInBounds_toArray, List.set_cons_zero, List.set_cons_succ, i64_w, i32_w]
                  rfl
                 refine pure_ (i := 15) (N := some 95) (v := undef) (a' := ?_) #[Tt,Tt,Tt,Tt,Tt,Tt,Tt,Tt,Tt,Tt,Tt,Tt,Ff,Tt,Tt,Tt,Ff,Ff,Ff,Ff,Ff,Ff,Ff,Ff] rfl rfl (any_of HT_.out (by kernel_rfl)) (fun _ _ _ h => h) (Or.inr ⟨by rfl, rfl⟩) ?_ ?_
                 rotate_left
                 ·
                  simp only [Act.put, List.setIfInBounds_toArray, List.set_cons_zero, List.set_cons_succ, i64_w, i32_w]
                  rfl
                 refine pure_ (i := 16) (N := some 96) (v := undef) (a' := ?_) #[Tt,Tt,Tt,Tt,Tt,Tt,Tt,Tt,Tt,Tt,Tt,Tt,Ff,Tt,Tt,Tt,Tt,Ff,Ff,Ff,Ff,Ff,Ff,Ff] rfl rfl (any_of HT_.out (by kernel_rfl)) (fun _ _ _ h => h) (Or.inr ⟨by rfl, rfl⟩) ?_ ?_
                 rotate_left
                 ·
                  simp only [Act.put, List.setIfInBounds_toArray, List.set_cons_zero, List.set_cons_succ, i64_w, i32_w]
                  rfl
                 refine pure_ (i := 17) (N := some 97) (v := undef) (a' := ?_) #[Tt,Tt,Tt,Tt,Tt,Tt,Tt,Tt,Tt,Tt,Tt,Tt,Ff,Tt,Tt,Tt,Tt,Tt,Ff,Ff,Ff,Ff,Ff,Ff] rfl rfl (any_of HT_.out (by kernel_rfl)) (fun _ _ _ h => h) (Or.inr ⟨by rfl, rfl⟩) ?_ ?_
                 rotate_left
                 ·
                  simp only [Act.put, List.setIfInBounds_toArray, List.set_cons_zero, List.set_cons_succ, i64_w, i32_w]
                  rfl
                 refine pure_ (i := 18) (N := some 98) (v := undef) (a' := ?_) #[Tt,Tt,Tt,Tt,Tt,Tt,Tt,Tt,Tt,Tt,Tt,Tt,Ff,Tt,Tt,Tt,Tt,Tt,Tt,Ff,Ff,Ff,Ff,Ff] rfl rfl (any_of HT_.out (by kernel_rfl)) (fun _ _ _ h => h) (Or.inr ⟨by rfl, rfl⟩) ?_ ?_
                 rotate_left
                 ·
                  simp only [Act.put, List.setIfInBounds_toArray, List.set_cons_zero, List.set_cons_succ, i64_w, i32_w]
                  rfl
                 refine pure_ (i := 19) (N := some 99) (v := undef) (a' := ?_) #[Tt,Tt,Tt,Tt,Tt,Tt,Tt,Tt,Tt,Tt,Tt,Tt,Ff,Tt,Tt,Tt,Tt,Tt,Tt,Tt,Ff,Ff,Ff,Ff] rfl rfl (any_of HT_.out (by kernel_rfl)) (fun _ _ _ h => h) (Or.inr ⟨by rfl, rfl⟩) ?_ ?_
                 rotate_left
                 ·
                  simp only [Act.put, List.setIfInBounds_toArray, List.set_cons_zero, List.set_cons_succ, i64_w, i32_w]
                  rfl
                 refine pure_ (i := 20) (N := some 100) (v := ?_) (a' := ?_) #[Tt,Tt,Tt,Tt,Tt,Tt,Tt,Tt,Tt,Tt,Tt,Tt,Ff,Tt,Tt,Tt,Tt,Tt,Tt,Tt,Tt,Ff,Ff,Ff] rfl rfl (any_of HT_.out (by kernel_rfl)) (fun _ _ _ h => h) (Or.inl ⟨by rfl, ?_⟩) ?_ ?_
                 rotate_left
                 ·
                  intro w'
                  go_simp
                  with_reducible rfl
                 rotate_left
                 ·
                  simp only [Act.put, List.setIfInBounds_toArray, List.set_cons_zero, List.set_cons_succ, i64_w, i32_w]
                  rfl
                 refine take_ (i := 12) (N := some 92) (v := ?_) (a' := ?_) #[Tt,Tt,Tt,Tt,Tt,Tt,Tt,Tt,Tt,Tt,Tt,Tt,Tt,Tt,Tt,Tt,Tt,Tt,Tt,Tt,Tt,Ff,Ff,Ff] rfl rfl (take_ofW HT_.out HW_.out (by kernel_rfl)) (fun _ _ _ h => h) (Or.inl ⟨by rfl, ?_⟩) hHeld ?_ ?_
                 rotate_left
                 ·
                  rintro w' ⟨s0, s1, s2, s3, s4, s5, s6, s7, s8, s9, s10, s11, s12, s13, s14, s15, s16, s17, s18, s19⟩
                  go_simp
                  with_reducible rfl
                 rotate_left
                 ·
                  simp only [Act.put, List.setIfInBounds_toArray, List.set_cons_zero, List.set_cons_succ, i64_w, i32_w]
                  rfl
                 refine one_ (i := 21) (N := some 101) #[Tt,Tt,Tt,Tt,Tt,Tt,Tt,Tt,Tt,Tt,Tt,Tt,Tt,Tt,Tt,Tt,Tt,Tt,Tt,Tt,Tt,Tt,Ff,Ff] rfl rfl (one_of HT_.out (by kernel_rfl)) (by decide) (fun K hK => ?_)
                 refine goes_ Try.func12 (by kernel_rfl) rfl #[.bool true] (by rfl) rfl rfl (by (try simp only [List.map_toArray, List.map_cons, List.map_nil]); first | done | rfl | (simp only [List.length_drop, List.length_take]; rfl)) ?_
                 with_reducible refine (ladderbacklaw08_on.calls true t153 _ A29.out).mono ?_
                 rintro e w' ⟨rfl, ⟨nd, rfl⟩⟩
                 refine ⟨_, rfl, ?_⟩
                 refine hK.out _ _ ⟨(blk_cell BK124.out 0).trans rfl, (blk_cell BK124.out 1).trans rfl, (blk_cell BK124.out 2).trans rfl, (blk_cell BK124.out 3).trans rfl, (blk_cell BK124.out 4).trans rfl, (blk_cell BK124.out 5).trans rfl, (blk_cell BK124.out 6).trans rfl, (blk_cell BK124.out 7).trans rfl, (blk_cell BK124.out 8).trans rfl, (blk_cell BK124.out 9).trans rfl, (blk_cell BK125.out 0).trans rfl, (blk_cell BK125.out 1).trans rfl, (blk_cell BK125.out 2).trans rfl, (blk_cell BK125.out 3).trans rfl, (blk_cell BK125.out 4).trans rfl, (blk_cell BK125.out 5).trans rfl, (blk_cell BK125.out 6).trans rfl, (blk_cell BK125.out 7).trans rfl, (blk_cell BK125.out 8).trans rfl, (blk_cell BK125.out 9).trans rfl⟩ (fun hHeld => ?_)
                 clear hK K
                 refine norm_ (a' := ?_) ?_ ?_
                 rotate_left
                 ·
                  show Act.put _ (some 101) _ = _
                  simp only [Act.put, List.setIfInBounds_toArray, List.set_cons_zero, List.set_cons_succ, i64_w, i32_w]
                  rfl
                 refine pure_ (i := 22) (N := some 102) (v := ?_) (a' := ?_) #[Tt,Tt,Tt,Tt,Tt,Tt,Tt,Tt,Tt,Tt,Tt,Tt,Tt,Tt,Tt,Tt,Tt,Tt,Tt,Tt,Tt,Tt,Tt,Ff] rfl rfl (any_of HT_.out (by kernel_rfl)) (fun _ _ _ h => h) (Or.inl ⟨by rfl, ?_⟩) ?_ ?_
                 rotate_left
                 ·
                  intro w'
                  go_simp
                  with_reducible rfl
                 rotate_left
                 ·
                  simp only [Act.put, List.setIfInBounds_toArray, List.set_cons_zero, List.set_cons_succ, i64_w, i32_w]
                  rfl
                 refine pure_ (i := 23) (N := some 103) (v := ?_) (a' := ?_) #[Tt,Tt,Tt,Tt,Tt,Tt,Tt,Tt,Tt,Tt,Tt,Tt,Tt,Tt,Tt,Tt,Tt,Tt,Tt,Tt,Tt,Tt,Tt,Tt] rfl rfl (any_of HT_.out (by kernel_rfl)) (fun _ _ _ h => h) (Or.inl ⟨by rfl, ?_⟩) ?_ ?_
                 rotate_left
                 ·
                  intro w'
                  go_simp
                  with_reducible rfl
                 rotate_left
                 ·
                  simp only [Act.put, List.setIfInBounds_toArray, List.set_cons_zero, List.set_cons_succ, i64_w, i32_w]
                  rfl
                 refine done_ (done_of HT_.out (by kernel_rfl)) ?_
                 try go_wp2
                 go_roundg kj18
                 case measure => have := HK1.out; have := HJ12.out; have := HJ14.out; have := HJ18.out; omega
                 case rel => exact ⟨((wrap64 (x7_1 + (wrap64 ((rd_T33 l1 x11_1).f0))))), (x8_14), (true), (x10_18), (wrap64 (x11_1 + 1)), (t132), (t133), (t134), (t135), (t136), (t137), (t138), (t139), (t140), (t141), (t142), (t143), (t144), (t145), (t146), (t147), (t148), (t149), (t150), (t151), (by first | rfl | (simp; done) | (simp [*]; done)), (by first | rfl | (simp; done) | (simp [*]; done)), (by first | rfl | (simp; done) | (simp [*]; done)), (by first | rfl | (simp; done) | (simp [*]; done)), (by first | rfl | (simp; done) | (simp [*]; done)), H', ⟨by have := HK1.out; have := HJ12.out; have := HJ14.out; have := HJ18.out; omega⟩, ⟨by (with_reducible repeat (first | refine blk_drewN ?_ _ | refine blk_drew ?_ | refine blk_alloc ?_ _)); exact BK124.out⟩, ⟨by (with_reducible repeat (first | refine blk_drewN ?_ _ | refine blk_drew ?_ | refine blk_alloc ?_ _)); exact BK125.out⟩, ⟨by repeat (first | (with_reducible first | exact HB.out | apply below_alloc | apply pw_below_drewN | apply below_drew1 | refine below_set ?_ GE124.out | refine below_set ?_ GE125.out) | exact HB.out)⟩⟩
                ·
                 rw [if_neg c30] at H
                 have c30b0 : (t144 == t153) = false := beq_eq_false_iff_ne.mpr c30
                 have c30b1 : (t144 != t153) = true := bne_iff_ne.mpr c30
                 exact absurd (Option.some.inj H) (by rw [HRT.out]; decide)
               ·
                rw [if_neg c28] at H
                have c28b0 : (t134 == t152) = false := beq_eq_false_iff_ne.mpr c28
                have c28b1 : (t134 != t152) = true := bne_iff_ne.mpr c28
                exact absurd (Option.some.inj H) (by rw [HRT.out]; decide)
              ·
               replace c26 := Bool.eq_false_iff.mpr c26
               subst c26
               have H1 : ((ladderbacklaw08_on.f false).bind fun t154 => (if t134 = t154 then (if x10_18 = true then ((ladderbacklaw08_on.f (!(decide ((wrap64 ((wrap64 (x7_1 + (wrap64 ((rd_T33 l1 x11_1).f0)))) - x8_14)) ≥ (wrap64 (a0)))))).bind fun t155 => (if t144 = t155 then (ladderbacklaw08_TimerDelays.l0 kj18 a0 l1 (wrap64 (x7_1 + (wrap64 ((rd_T33 l1 x11_1).f0)))) x8_14 false x10_18 (wrap64 (x11_1 + 1)) t132 t133 t134 t135 t136 t137 t138 t139 t140 t141 t142 t143 t144 t145 t146 t147 t148 t149 t150 t151) else (some false))) else ((ladderbacklaw08_on.f false).bind fun t156 => (if t144 = t156 then (ladderbacklaw08_TimerDelays.l0 kj18 a0 l1 (wrap64 (x7_1 + (wrap64 ((rd_T33 l1 x11_1).f0)))) x8_14 false x10_18 (wrap64 (x11_1 + 1)) t132 t133 t134 t135 t136 t137 t138 t139 t140 t141 t142 t143 t144 t145 t146 t147 t148 t149 t150 t151) else (some false)))) else (some false))) = some r := by rw [if_neg (show ¬ (false = true) by decide)] at H; exact H
               clear H
               have H := H1
               clear H1
               replace H := Option.bind_eq_some_iff.mp H
               obtain ⟨t154, A600, H⟩ := H
               replace H : (if t134 = t154 then (if x10_18 = true then ((ladderbacklaw08_on.f (!(decide ((wrap64 ((wrap64 (x7_1 + (wrap64 ((rd_T33 l1 x11_1).f0)))) - x8_14)) ≥ (wrap64 (a0)))))).bind fun t155 => (if t144 = t155 then (ladderbacklaw08_TimerDelays.l0 kj18 a0 l1 (wrap64 (x7_1 + (wrap64 ((rd_T33 l1 x11_1).f0)))) x8_14 false x10_18 (wrap64 (x11_1 + 1)) t132 t133 t134 t135 t136 t137 t138 t139 t140 t141 t142 t143 t144 t145 t146 t147 t148 t149 t150 t151) else (some false))) else ((ladderbacklaw08_on.f false).bind fun t156 => (if t144 = t156 then (ladderbacklaw08_TimerDelays.l0 kj18 a0 l1 (wrap64 (x7_1 + (wrap64 ((rd_T33 l1 x11_1).f0)))) x8_14 false x10_18 (wrap64 (x11_1 + 1)) t132 t133 t134 t135 t136 t137 t138 t139 t140 t141 t142 t143 t144 t145 t146 t147 t148 t149 t150 t151) else (some false)))) else (some false)) = some r := H
               have A60 := Aside0.mk A600
               clear A600
               by_cases c61 : t134 = t154
               ·
                rw [if_pos c61] at H
                have c61b0 : (t134 == t154) = true := beq_iff_eq.mpr c61
                have c61b1 : (t134 != t154) = false := bne_eq_false_iff_eq.mpr c61
                clear c61
                by_cases c62 : x10_18 = true
                ·
                 subst c62
                 have H1 : ((ladderbacklaw08_on.f (!(decide ((wrap64 ((wrap64 (x7_1 + (wrap64 ((rd_T33 l1 x11_1).f0)))) - x8_14)) ≥ (wrap64 (a0)))))).bind fun t155 => (if t144 = t155 then (ladderbacklaw08_TimerDelays.l0 kj18 a0 l1 (wrap64 (x7_1 + (wrap64 ((rd_T33 l1 x11_1).f0)))) x8_14 false true (wrap64 (x11_1 + 1)) t132 t133 t134 t135 t136 t137 t138 t139 t140 t141 t142 t143 t144 t145 t146 t147 t148 t149 t150 t151) else (some false))) = some r := by rw [if_pos rfl] at H; exact H
                 clear H
                 have H := H1
                 clear H1
                 replace H := Option.bind_eq_some_iff.mp H
                 obtain ⟨t155, A630, H⟩ := H
                 replace H : (if t144 = t155 then (ladderbacklaw08_TimerDelays.l0 kj18 a0 l1 (wrap64 (x7_1 + (wrap64 ((rd_T33 l1 x11_1).f0)))) x8_14 false true (wrap64 (x11_1 + 1)) t132 t133 t134 t135 t136 t137 t138 t139 t140 t141 t142 t143 t144 t145 t146 t147 t148 t149 t150 t151) else (some false)) = some r := H
                 have A63 := Aside0.mk A630
                 clear A630
                 by_cases c64 : t144 = t155
                 ·
                  rw [if_pos c64] at H
                  have c64b0 : (t144 == t155) = true := beq_iff_eq.mpr c64
                  have c64b1 : (t144 != t155) = false := bne_eq_false_iff_eq.mpr c64
                  clear c64
                  have H' := Aside0.mk H
                  clear H
                  try go_wp2_with (first | ((with_reducible refine gate_callee (f := 12) rfl ?_); refine goesL_ (some 61) rfl rfl Try.func12 (by kernel_rfl) rfl #[.bool false] rfl (by (try simp only [List.map_toArray, List.map_cons, List.map_nil]); first | done | rfl | (simp only [List.length_drop, List.length_take]; rfl)) ?_; (with_reducible refine (ladderbacklaw08_on.calls false t130 _ A21.out).mono ?_); rintro e w' ⟨rfl, ⟨nd, rfl⟩⟩; refine ⟨_, rfl, ?_⟩; (try (rw [drewN_self wc]; generalize hq_ : World.drewN wc _ = wc; have n0_ : Aside0 (wc.heap[gb124]? = some (.cells #[.int .i64 x125000_1, .int .i64 x125001_1, .int .i64 x125002_1, .int .i64 x125003_1, .int .i64 x125004_1, .int .i64 x125005_1, .int .i64 x125006_1, .int .i64 x125007_1, .int .i64 x125008_1, .int .i64 x125009_1] 26 (0, 0))) := ⟨by rw [← hq_]; exact (by (with_reducible repeat (first | refine blk_drewN ?_ _ | refine blk_drew ?_ | refine blk_alloc ?_ _)); exact BK124.out)⟩; have n1_ : Aside0 (wc.heap[gb125]? = some (.cells #[.int .i64 x126000_1, .int .i64 x126001_1, .int .i64 x126002_1, .int .i64 x126003_1, .int .i64 x126004_1, .int .i64 x126005_1, .int .i64 x126006_1, .int .i64 x126007_1, .int .i64 x126008_1, .int .i64 x126009_1] 26 (0, 0))) := ⟨by rw [← hq_]; exact (by (with_reducible repeat (first | refine blk_drewN ?_ _ | refine blk_drew ?_ | refine blk_alloc ?_ _)); exact BK125.out)⟩; have n2_ : Aside0 (Below w.heap.size w wc) := ⟨by rw [← hq_]; exact (by repeat (first | (with_reducible first | exact HB.out | apply below_alloc | apply pw_below_drewN | apply below_drew1 | refine below_set ?_ GE124.out | refine below_set ?_ GE125.out) | exact HB.out))⟩; clear BK124 BK125 HB hq_; have BK124 := n0_; have BK125 := n1_; have HB := n2_; clear n0_ n1_ n2_)); have hnb65 := NB124_125.out; have hnc65 := NB125_124.out; have hcz66_0 : wc.cell? ⟨gb124, 0, none⟩ = some (.int .i64 x125000_1) := (blk_cell BK124.out 0).trans rfl; have hcz66_1 : wc.cell? ⟨gb124, 1, none⟩ = some (.int .i64 x125001_1) := (blk_cell BK124.out 1).trans rfl; have hcz66_2 : wc.cell? ⟨gb124, 2, none⟩ = some (.int .i64 x125002_1) := (blk_cell BK124.out 2).trans rfl; have hcz66_3 : wc.cell? ⟨gb124, 3, none⟩ = some (.int .i64 x125003_1) := (blk_cell BK124.out 3).trans rfl; have hcz66_4 : wc.cell? ⟨gb124, 4, none⟩ = some (.int .i64 x125004_1) := (blk_cell BK124.out 4).trans rfl; have hcz66_5 : wc.cell? ⟨gb124, 5, none⟩ = some (.int .i64 x125005_1) := (blk_cell BK124.out 5).trans rfl; have hcz66_6 : wc.cell? ⟨gb124, 6, none⟩ = some (.int .i64 x125006_1) := (blk_cell BK124.out 6).trans rfl; have hcz66_7 : wc.cell? ⟨gb124, 7, none⟩ = some (.int .i64 x125007_1) := (blk_cell BK124.out 7).trans rfl; have hcz66_8 : wc.cell? ⟨gb124, 8, none⟩ = some (.int .i64 x125008_1) := (blk_cell BK124.out 8).trans rfl; have hcz66_9 : wc.cell? ⟨gb124, 9, none⟩ = some (.int .i64 x125009_1) := (blk_cell BK124.out 9).trans rfl; have hfz66_0 := blk_frozen BK124.out 0; have hfz66_1 := blk_frozen BK124.out 1; have hfz66_2 := blk_frozen BK124.out 2; have hfz66_3 := blk_frozen BK124.out 3; have hfz66_4 := blk_frozen BK124.out 4; have hfz66_5 := blk_frozen BK124.out 5; have hfz66_6 := blk_frozen BK124.out 6; have hfz66_7 := blk_frozen BK124.out 7; have hfz66_8 := blk_frozen BK124.out 8; have hfz66_9 := blk_frozen BK124.out 9) | ((with_reducible refine gate_callee (f := 12) rfl ?_); refine goesL_ (some 65) rfl rfl Try.func12 (by kernel_rfl) rfl #[.bool false] rfl (by (try simp only [List.map_toArray, List.map_cons, List.map_nil]); first | done | rfl | (simp only [List.length_drop, List.length_take]; rfl)) ?_; (with_reducible refine (ladderbacklaw08_on.calls false t131 _ A22.out).mono ?_); rintro e w' ⟨rfl, ⟨nd, rfl⟩⟩; refine ⟨_, rfl, ?_⟩; have hcz67_0 : wc.cell? ⟨gb125, 0, none⟩ = some (.int .i64 x126000_1) := (blk_cell BK125.out 0).trans rfl; have hcz67_1 : wc.cell? ⟨gb125, 1, none⟩ = some (.int .i64 x126001_1) := (blk_cell BK125.out 1).trans rfl; have hcz67_2 : wc.cell? ⟨gb125, 2, none⟩ = some (.int .i64 x126002_1) := (blk_cell BK125.out 2).trans rfl; have hcz67_3 : wc.cell? ⟨gb125, 3, none⟩ = some (.int .i64 x126003_1) := (blk_cell BK125.out 3).trans rfl; have hcz67_4 : wc.cell? ⟨gb125, 4, none⟩ = some (.int .i64 x126004_1) := (blk_cell BK125.out 4).trans rfl; have hcz67_5 : wc.cell? ⟨gb125, 5, none⟩ = some (.int .i64 x126005_1) := (blk_cell BK125.out 5).trans rfl; have hcz67_6 : wc.cell? ⟨gb125, 6, none⟩ = some (.int .i64 x126006_1) := (blk_cell BK125.out 6).trans rfl; have hcz67_7 : wc.cell? ⟨gb125, 7, none⟩ = some (.int .i64 x126007_1) := (blk_cell BK125.out 7).trans rfl; have hcz67_8 : wc.cell? ⟨gb125, 8, none⟩ = some (.int .i64 x126008_1) := (blk_cell BK125.out 8).trans rfl; have hcz67_9 : wc.cell? ⟨gb125, 9, none⟩ = some (.int .i64 x126009_1) := (blk_cell BK125.out 9).trans rfl; have hfz67_0 := blk_frozen BK125.out 0; have hfz67_1 := blk_frozen BK125.out 1; have hfz67_2 := blk_frozen BK125.out 2; have hfz67_3 := blk_frozen BK125.out 3; have hfz67_4 := blk_frozen BK125.out 4; have hfz67_5 := blk_frozen BK125.out 5; have hfz67_6 := blk_frozen BK125.out 6; have hfz67_7 := blk_frozen BK125.out 7; have hfz67_8 := blk_frozen BK125.out 8; have hfz67_9 := blk_frozen BK125.out 9))
                  have n0_ : Aside0 (((wc.setCell ⟨gb124, 0, none⟩ (.int .i64 t130)).setCell ⟨gb125, 0, none⟩ (.int .i64 t131)).heap[gb124]? = some (.cells #[.int .i64 t130, .int .i64 x125001_1, .int .i64 x125002_1, .int .i64 x125003_1, .int .i64 x125004_1, .int .i64 x125005_1, .int .i64 x125006_1, .int .i64 x125007_1, .int .i64 x125008_1, .int .i64 x125009_1] 26 (0, 0))) := ⟨by (with_reducible repeat (first | refine blk_drewN ?_ _ | refine blk_drew ?_ | refine blk_alloc ?_ _)); refine blk_far ?_ NB124_125.out _; (with_reducible repeat (first | refine blk_drewN ?_ _ | refine blk_drew ?_ | refine blk_alloc ?_ _)); refine blk_put (cs := #[.int .i64 x125000_1, .int .i64 x125001_1, .int .i64 x125002_1, .int .i64 x125003_1, .int .i64 x125004_1, .int .i64 x125005_1, .int .i64 x125006_1, .int .i64 x125007_1, .int .i64 x125008_1, .int .i64 x125009_1]) ?_ 0 _ rfl; (with_reducible repeat (first | refine blk_drewN ?_ _ | refine blk_drew ?_ | refine blk_alloc ?_ _)); exact BK124.out⟩
                  have n1_ : Aside0 (((wc.setCell ⟨gb124, 0, none⟩ (.int .i64 t130)).setCell ⟨gb125, 0, none⟩ (.int .i64 t131)).heap[gb125]? = some (.cells #[.int .i64 t131, .int .i64 x126001_1, .int .i64 x126002_1, .int .i64 x126003_1, .int .i64 x126004_1, .int .i64 x126005_1, .int .i64 x126006_1, .int .i64 x126007_1, .int .i64 x126008_1, .int .i64 x126009_1] 26 (0, 0))) := ⟨by (with_reducible repeat (first | refine blk_drewN ?_ _ | refine blk_drew ?_ | refine blk_alloc ?_ _)); refine blk_put (cs := #[.int .i64 x126000_1, .int .i64 x126001_1, .int .i64 x126002_1, .int .i64 x126003_1, .int .i64 x126004_1, .int .i64 x126005_1, .int .i64 x126006_1, .int .i64 x126007_1, .int .i64 x126008_1, .int .i64 x126009_1]) ?_ 0 _ rfl; (with_reducible repeat (first | refine blk_drewN ?_ _ | refine blk_drew ?_ | refine blk_alloc ?_ _)); refine blk_far ?_ NB125_124.out _; (with_reducible repeat (first | refine blk_drewN ?_ _ | refine blk_drew ?_ | refine blk_alloc ?_ _)); exact BK125.out⟩
                  have n2_ : Aside0 (Below w.heap.size w ((wc.setCell ⟨gb124, 0, none⟩ (.int .i64 t130)).setCell ⟨gb125, 0, none⟩ (.int .i64 t131))) := ⟨by repeat (first | (with_reducible first | exact HB.out | apply below_alloc | apply pw_below_drewN | apply below_drew1 | refine below_set ?_ GE124.out | refine below_set ?_ GE125.out) | exact HB.out)⟩
                  (try clear BK124)
                  (try clear BK125)
                  (try clear HB)
                  generalize ((wc.setCell ⟨gb124, 0, none⟩ (.int .i64 t130)).setCell ⟨gb125, 0, none⟩ (.int .i64 t131)) = w68 at n0_ n1_ n2_ ⊢
                  have BK124 := n0_
                  have BK125 := n1_
                  have HB := n2_
                  clear n0_ n1_ n2_
                  (try (rw [drewN_self w68]; generalize hq_ : World.drewN w68 _ = w68; have n0_ : Aside0 (w68.heap[gb124]? = some (.cells #[.int .i64 t130, .int .i64 x125001_1, .int .i64 x125002_1, .int .i64 x125003_1, .int .i64 x125004_1, .int .i64 x125005_1, .int .i64 x125006_1, .int .i64 x125007_1, .int .i64 x125008_1, .int .i64 x125009_1] 26 (0, 0))) := ⟨by rw [← hq_]; exact (by (with_reducible repeat (first | refine blk_drewN ?_ _ | refine blk_drew ?_ | refine blk_alloc ?_ _)); exact BK124.out)⟩; have n1_ : Aside0 (w68.heap[gb125]? = some (.cells #[.int .i64 t131, .int .i64 x126001_1, .int .i64 x126002_1, .int .i64 x126003_1, .int .i64 x126004_1, .int .i64 x126005_1, .int .i64 x126006_1, .int .i64 x126007_1, .int .i64 x126008_1, .int .i64 x126009_1] 26 (0, 0))) := ⟨by rw [← hq_]; exact (by (with_reducible repeat (first | refine blk_drewN ?_ _ | refine blk_drew ?_ | refine blk_alloc ?_ _)); exact BK125.out)⟩; have n2_ : Aside0 (Below w.heap.size w w68) := ⟨by rw [← hq_]; exact (by repeat (first | (with_reducible first | exact HB.out | apply below_alloc | apply pw_below_drewN | apply below_drew1 | refine below_set ?_ GE124.out | refine below_set ?_ GE125.out) | exact HB.out))⟩; clear BK124 BK125 HB hq_; have BK124 := n0_; have BK125 := n1_; have HB := n2_; clear n0_ n1_ n2_))
                  have n0_ := Aside0.mk (blk_drew BK124.out)
                  have n1_ := Aside0.mk (blk_drew BK125.out)
                  have n2_ := Aside0.mk (below_drew1 HB.out)
                  clear BK124
                  clear BK125
                  clear HB
                  have BK124 := n0_
                  have BK125 := n1_
                  have HB := n2_
                  clear n0_ n1_ n2_
                  refine start_ (n := 8) (S := fun w' => w'.cell? ⟨gb124, 0, none⟩ = some (.int .i64 t130) ∧ w'.cell? ⟨gb124, 1, none⟩ = some (.int .i64 x125001_1) ∧ w'.cell? ⟨gb124, 2, none⟩ = some (.int .i64 x125002_1) ∧ w'.cell? ⟨gb124, 3, none⟩ = some (.int .i64 x125003_1) ∧ w'.cell? ⟨gb124, 4, none⟩ = some (.int .i64 x125004_1) ∧ w'.cell? ⟨gb124, 5, none⟩ = some (.int .i64 x125005_1) ∧ w'.cell? ⟨gb124, 6, none⟩ = some (.int .i64 x125006_1) ∧ w'.cell? ⟨gb124, 7, none⟩ = some (.int .i64 x125007_1) ∧ w'.cell? ⟨gb124, 8, none⟩ = some (.int .i64 x125008_1) ∧ w'.cell? ⟨gb124, 9, none⟩ = some (.int .i64 x125009_1) ∧ w'.cell? ⟨gb125, 0, none⟩ = some (.int .i64 t131) ∧ w'.cell? ⟨gb125, 1, none⟩ = some (.int .i64 x126001_1) ∧ w'.cell? ⟨gb125, 2, none⟩ = some (.int .i64 x126002_1) ∧ w'.cell? ⟨gb125, 3, none⟩ = some (.int .i64 x126003_1) ∧ w'.cell? ⟨gb125, 4, none⟩ = some (.int .i64 x126004_1) ∧ w'.cell? ⟨gb125, 5, none⟩ = some (.int .i64 x126005_1) ∧ w'.cell? ⟨gb125, 6, none⟩ = some (.int .i64 x126006_1) ∧ w'.cell? ⟨gb125, 7, none⟩ = some (.int .i64 x126007_1) ∧ w'.cell? ⟨gb125, 8, none⟩ = some (.int .i64 x126008_1) ∧ w'.cell? ⟨gb125, 9, none⟩ = some (.int .i64 x126009_1)) (ds := [6, 7]) #[Ff,Ff,Ff,Ff,Ff,Ff,Ff,Ff] (by kernel_rfl) rfl rfl ⟨(blk_cell BK124.out 0).trans rfl, (blk_cell BK124.out 1).trans rfl, (blk_cell BK124.out 2).trans rfl, (blk_cell BK124.out 3).trans rfl, (blk_cell BK124.out 4).trans rfl, (blk_cell BK124.out 5).trans rfl, (blk_cell BK124.out 6).trans rfl, (blk_cell BK124.out 7).trans rfl, (blk_cell BK124.out 8).trans rfl, (blk_cell BK124.out 9).trans rfl, (blk_cell BK125.out 0).trans rfl, (blk_cell BK125.out 1).trans rfl, (blk_cell BK125.out 2).trans rfl, (blk_cell BK125.out 3).trans rfl, (blk_cell BK125.out 4).trans rfl, (blk_cell BK125.out 5).trans rfl, (blk_cell BK125.out 6).trans rfl, (blk_cell BK125.out 7).trans rfl, (blk_cell BK125.out 8).trans rfl, (blk_cell BK125.out 9).trans rfl⟩ (fun hHeld => ?_); refine with_tabW ladderbacklaw08_TimerDelays.tab16 ladderbacklaw08_TimerDelays.bits16 (fun HT_ HW_ => ?_)
                  generalize w68.drew = w69 at BK124 BK125 HB hHeld ⊢
                  refine pure_ (i := 1) (N := some 69) (v := ?_) (a' := ?_) #[Ff,Tt,Ff,Ff,Ff,Ff,Ff,Ff] rfl rfl (any_of HT_.out (by kernel_rfl)) (fun _ _ _ h => h) (Or.inl ⟨by rfl, ?_⟩) ?_ ?_
                  rotate_left
                  ·
                   intro w'
                   go_simp
                   with_reducible rfl
                  rotate_left
                  ·
                   simp only [Act.put, List.setIfInBounds_toArray, List.set_cons_zero, List.set_cons_succ, i64_w, i32_w]
                   rfl
                  refine pure_ (i := 4) (N := some 72) (v := ?_) (a' := ?_) #[Ff,Tt,Ff,Ff,Tt,Ff,Ff,Ff] rfl rfl (any_of HT_.out (by kernel_rfl)) (fun _ _ _ h => h) (Or.inl ⟨by rfl, ?_⟩) ?_ ?_
                  rotate_left
                  ·
                   intro w'
                   go_simp
                   with_reducible rfl
                  rotate_left
                  ·
                   simp only [Act.put, List.setIfInBounds_toArray, List.set_cons_zero, List.set_cons_succ, i64_w, i32_w]
                   rfl
                  refine take_ (i := 0) (N := some 68) (v := ?_) (a' := ?_) #[Tt,Tt,Ff,Ff,Tt,Ff,Ff,Ff] rfl rfl (take_ofW HT_.out HW_.out (by kernel_rfl)) (fun _ _ _ h => h) (Or.inl ⟨by rfl, ?_⟩) hHeld ?_ ?_
                  rotate_left
                  ·
                   rintro w' ⟨s0, s1, s2, s3, s4, s5, s6, s7, s8, s9, s10, s11, s12, s13, s14, s15, s16, s17, s18, s19⟩
                   go_simp
                   with_reducible rfl
                  rotate_left
                  ·
                   simp only [Act.put, List.setIfInBounds_toArray, List.set_cons_zero, List.set_cons_succ, i64_w, i32_w]
                   rfl
                  refine take_ (i := 3) (N := some 71) (v := ?_) (a' := ?_) #[Tt,Tt,Ff,Tt,Tt,Ff,Ff,Ff] rfl rfl (take_ofW HT_.out HW_.out (by kernel_rfl)) (fun _ _ _ h => h) (Or.inl ⟨by rfl, ?_⟩) hHeld ?_ ?_
                  rotate_left
                  ·
                   rintro w' ⟨s0, s1, s2, s3, s4, s5, s6, s7, s8, s9, s10, s11, s12, s13, s14, s15, s16, s17, s18, s19⟩
                   go_simp
                   with_reducible rfl
                  rotate_left
                  ·
                   simp only [Act.put, List.setIfInBounds_toArray, List.set_cons_zero, List.set_cons_succ, i64_w, i32_w]
                   rfl
                  refine one_ (i := 2) (N := some 70) #[Tt,Tt,Tt,Tt,Tt,Ff,Ff,Ff] rfl rfl (one_of HT_.out (by kernel_rfl)) (by decide) (fun K hK => ?_)
                  refine goes_ Try.func13 (by kernel_rfl) rfl #[.int .i64 1, .agg #[.int .i64 t130, .int .i64 x125001_1, .int .i64 x125002_1, .int .i64 x125003_1, .int .i64 x125004_1, .int .i64 x125005_1, .int .i64 x125006_1, .int .i64 x125007_1, .int .i64 x125008_1, .int .i64 x125009_1], .int .i64 (wrap64 (x7_1 + (wrap64 ((rd_T33 l1 x11_1).f0))))] (by rfl) rfl rfl (by (try simp only [List.map_toArray, List.map_cons, List.map_nil]); first | done | rfl | (simp only [List.length_drop, List.length_take]; rfl)) ?_
                  with_reducible refine (timer_Step.calls 1 t130 x125001_1 x125002_1 x125003_1 x125004_1 x125005_1 x125006_1 x125007_1 x125008_1 x125009_1 (wrap64 (x7_1 + (wrap64 ((rd_T33 l1 x11_1).f0)))) t132 t133 t134 t135 t136 t137 t138 t139 t140 t141 _ A23.out).mono ?_
                  rintro e w70 ⟨rfl, hb⟩
                  refine ⟨_, rfl, ?_⟩
                  have n0_ := Aside0.mk (blk_below (g := gb124) (o := .cells #[.int .i64 t130, .int .i64 x125001_1, .int .i64 x125002_1, .int .i64 x125003_1, .int .i64 x125004_1, .int .i64 x125005_1, .int .i64 x125006_1, .int .i64 x125007_1, .int .i64 x125008_1, .int .i64 x125009_1] 26 (0, 0)) (by (with_reducible repeat (first | refine blk_drewN ?_ _ | refine blk_drew ?_ | refine blk_alloc ?_ _)); exact BK124.out) hb)
                  have n1_ := Aside0.mk (blk_below (g := gb125) (o := .cells #[.int .i64 t131, .int .i64 x126001_1, .int .i64 x126002_1, .int .i64 x126003_1, .int .i64 x126004_1, .int .i64 x126005_1, .int .i64 x126006_1, .int .i64 x126007_1, .int .i64 x126008_1, .int .i64 x126009_1] 26 (0, 0)) (by (with_reducible repeat (first | refine blk_drewN ?_ _ | refine blk_drew ?_ | refine blk_alloc ?_ _)); exact BK125.out) hb)
                  have n2_ := Aside0.mk (below_step (by repeat (first | (with_reducible first | exact HB.out | apply below_alloc | apply pw_below_drewN | apply below_drew1 | refine below_set ?_ GE124.out | refine below_set ?_ GE125.out) | exact HB.out)) hb)
                  clear BK124
                  clear BK125
                  clear HB
                  have BK124 := n0_
                  have BK125 := n1_
                  have HB := n2_
                  clear n0_ n1_ n2_
                  (try clear hb)
                  (try clear hb2)
                  (try clear hk)
                  (try clear hi)
                  refine hK.out _ _ ⟨(blk_cell BK124.out 0).trans rfl, (blk_cell BK124.out 1).trans rfl, (blk_cell BK124.out 2).trans rfl, (blk_cell BK124.out 3).trans rfl, (blk_cell BK124.out 4).trans rfl, (blk_cell BK124.out 5).trans rfl, (blk_cell BK124.out 6).trans rfl, (blk_cell BK124.out 7).trans rfl, (blk_cell BK124.out 8).trans rfl, (blk_cell BK124.out 9).trans rfl, (blk_cell BK125.out 0).trans rfl, (blk_cell BK125.out 1).trans rfl, (blk_cell BK125.out 2).trans rfl, (blk_cell BK125.out 3).trans rfl, (blk_cell BK125.out 4).trans rfl, (blk_cell BK125.out 5).trans rfl, (blk_cell BK125.out 6).trans rfl, (blk_cell BK125.out 7).trans rfl, (blk_cell BK125.out 8).trans rfl, (blk_cell BK125.out 9).trans rfl⟩ (fun hHeld => ?_)
                  clear hK K
                  refine norm_ (a' := ?_) ?_ ?_
                  rotate_left
                  ·
                   show Act.put _ (some 70) _ = _
                   simp only [Act.put, List.setIfInBounds_toArray, List.set_cons_zero, List.set_cons_succ, i64_w, i32_w]
                   rfl
                  refine one_ (i := 5) (N := some 73) #[Tt,Tt,Tt,Tt,Tt,Tt,Ff,Ff] rfl rfl (one_of HT_.out (by kernel_rfl)) (by decide) (fun K hK => ?_)
                  refine goes_ Try.func13 (by kernel_rfl) rfl #[.int .i64 2, .agg #[.int .i64 t131, .int .i64 x126001_1, .int .i64 x126002_1, .int .i64 x126003_1, .int .i64 x126004_1, .int .i64 x126005_1, .int .i64 x126006_1, .int .i64 x126007_1, .int .i64 x126008_1, .int .i64 x126009_1], .int .i64 (wrap64 (x7_1 + (wrap64 ((rd_T33 l1 x11_1).f0))))] (by rfl) rfl rfl (by (try simp only [List.map_toArray, List.map_cons, List.map_nil]); first | done | rfl | (simp only [List.length_drop, List.length_take]; rfl)) ?_
                  with_reducible refine (timer_Step.calls 2 t131 x126001_1 x126002_1 x126003_1 x126004_1 x126005_1 x126006_1 x126007_1 x126008_1 x126009_1 (wrap64 (x7_1 + (wrap64 ((rd_T33 l1 x11_1).f0)))) t142 t143 t144 t145 t146 t147 t148 t149 t150 t151 _ A24.out).mono ?_
                  rintro e w71 ⟨rfl, hb⟩
                  refine ⟨_, rfl, ?_⟩
                  have n0_ := Aside0.mk (blk_below (g := gb124) (o := .cells #[.int .i64 t130, .int .i64 x125001_1, .int .i64 x125002_1, .int .i64 x125003_1, .int .i64 x125004_1, .int .i64 x125005_1, .int .i64 x125006_1, .int .i64 x125007_1, .int .i64 x125008_1, .int .i64 x125009_1] 26 (0, 0)) (by (with_reducible repeat (first | refine blk_drewN ?_ _ | refine blk_drew ?_ | refine blk_alloc ?_ _)); exact BK124.out) hb)
                  have n1_ := Aside0.mk (blk_below (g := gb125) (o := .cells #[.int .i64 t131, .int .i64 x126001_1, .int .i64 x126002_1, .int .i64 x126003_1, .int .i64 x126004_1, .int .i64 x126005_1, .int .i64 x126006_1, .int .i64 x126007_1, .int .i64 x126008_1, .int .i64 x126009_1] 26 (0, 0)) (by (with_reducible repeat (first | refine blk_drewN ?_ _ | refine blk_drew ?_ | refine blk_alloc ?_ _)); exact BK125.out) hb)
                  have n2_ := Aside0.mk (below_step (by repeat (first | (with_reducible first | exact HB.out | apply below_alloc | apply pw_below_drewN | apply below_drew1 | refine below_set ?_ GE124.out | refine below_set ?_ GE125.out) | exact HB.out)) hb)
                  clear BK124
                  clear BK125
                  clear HB
                  have BK124 := n0_
                  have BK125 := n1_
                  have HB := n2_
                  clear n0_ n1_ n2_
                  (try clear hb)
                  (try clear hb2)
                  (try clear hk)
                  (try clear hi)
                  refine hK.out _ _ ⟨(blk_cell BK124.out 0).trans rfl, (blk_cell BK124.out 1).trans rfl, (blk_cell BK124.out 2).trans rfl, (blk_cell BK124.out 3).trans rfl, (blk_cell BK124.out 4).trans rfl, (blk_cell BK124.out 5).trans rfl, (blk_cell BK124.out 6).trans rfl, (blk_cell BK124.out 7).trans rfl, (blk_cell BK124.out 8).trans rfl, (blk_cell BK124.out 9).trans rfl, (blk_cell BK125.out 0).trans rfl, (blk_cell BK125.out 1).trans rfl, (blk_cell BK125.out 2).trans rfl, (blk_cell BK125.out 3).trans rfl, (blk_cell BK125.out 4).trans rfl, (blk_cell BK125.out 5).trans rfl, (blk_cell BK125.out 6).trans rfl, (blk_cell BK125.out 7).trans rfl, (blk_cell BK125.out 8).trans rfl, (blk_cell BK125.out 9).trans rfl⟩ (fun hHeld => ?_)
                  clear hK K
                  refine norm_ (a' := ?_) ?_ ?_
                  rotate_left
                  ·
                   show Act.put _ (some 73) _ = _
                   simp only [Act.put, List.setIfInBounds_toArray, List.set_cons_zero, List.set_cons_succ, i64_w, i32_w]
                   rfl
                  refine last_ (i := 6) (N := none) #[Tt,Tt,Tt,Tt,Tt,Tt,Tt,Ff] rfl rfl (one_of HT_.out (by kernel_rfl)) (by decide) (fun K hK => ?_)
                  have hs72 : w71.cell? ⟨gb124, 0, none⟩ = some (.int .i64 t130) := (blk_cell BK124.out 0).trans rfl
                  have hfs72 := blk_frozen BK124.out 0
                  have hns72_1 := NB125_124.out
                  have hms72_1 := NB124_125.out
                  have hs73 : w71.cell? ⟨gb124, 1, none⟩ = some (.int .i64 x125001_1) := (blk_cell BK124.out 1).trans rfl
                  have hfs73 := blk_frozen BK124.out 1
                  have hns73_1 := NB125_124.out
                  have hms73_1 := NB124_125.out
                  have hs74 : w71.cell? ⟨gb124, 2, none⟩ = some (.int .i64 x125002_1) := (blk_cell BK124.out 2).trans rfl
                  have hfs74 := blk_frozen BK124.out 2
                  have hns74_1 := NB125_124.out
                  have hms74_1 := NB124_125.out
                  have hs75 : w71.cell? ⟨gb124, 3, none⟩ = some (.int .i64 x125003_1) := (blk_cell BK124.out 3).trans rfl
                  have hfs75 := blk_frozen BK124.out 3
                  have hns75_1 := NB125_124.out
                  have hms75_1 := NB124_125.out
                  have hs76 : w71.cell? ⟨gb124, 4, none⟩ = some (.int .i64 x125004_1) := (blk_cell BK124.out 4).trans rfl
                  have hfs76 := blk_frozen BK124.out 4
                  have hns76_1 := NB125_124.out
                  have hms76_1 := NB124_125.out
                  have hs77 : w71.cell? ⟨gb124, 5, none⟩ = some (.int .i64 x125005_1) := (blk_cell BK124.out 5).trans rfl
                  have hfs77 := blk_frozen BK124.out 5
                  have hns77_1 := NB125_124.out
                  have hms77_1 := NB124_125.out
                  have hs78 : w71.cell? ⟨gb124, 6, none⟩ = some (.int .i64 x125006_1) := (blk_cell BK124.out 6).trans rfl
                  have hfs78 := blk_frozen BK124.out 6
                  have hns78_1 := NB125_124.out
                  have hms78_1 := NB124_125.out
                  have hs79 : w71.cell? ⟨gb124, 7, none⟩ = some (.int .i64 x125007_1) := (blk_cell BK124.out 7).trans rfl
                  have hfs79 := blk_frozen BK124.out 7
                  have hns79_1 := NB125_124.out
                  have hms79_1 := NB124_125.out
                  have hs80 : w71.cell? ⟨gb124, 8, none⟩ = some (.int .i64 x125008_1) := (blk_cell BK124.out 8).trans rfl
                  have hfs80 := blk_frozen BK124.out 8
                  have hns80_1 := NB125_124.out
                  have hms80_1 := NB124_125.out
                  have hs81 : w71.cell? ⟨gb124, 9, none⟩ = some (.int .i64 x125009_1) := (blk_cell BK124.out 9).trans rfl
                  have hfs81 := blk_frozen BK124.out 9
                  have hns81_1 := NB125_124.out
                  have hms81_1 := NB124_125.out
                  with_reducible refine skip_ (w1 := ?_) ?_ ?_ ?_ ?_
                  rotate_left
                  · rfl
                  · rfl
                  ·
                   first | (exact store10_ rfl rfl rfl (by repeat' (first | (with_reducible exact Aside0.out (by assumption)) | refine blk_far ?_ (Aside0.out (by assumption)) _))) | (go_simp; rfl)
                  refine hK.out _ _ ?_
                  clear hK K
                  refine last_ (i := 7) (N := none) #[Tt,Tt,Tt,Tt,Tt,Tt,Tt,Tt] rfl rfl (one_of HT_.out (by kernel_rfl)) (by decide) (fun K hK => ?_)
                  have hs82 : w71.cell? ⟨gb125, 0, none⟩ = some (.int .i64 t131) := (blk_cell BK125.out 0).trans rfl
                  have hfs82 := blk_frozen BK125.out 0
                  have hns82_0 := NB124_125.out
                  have hms82_0 := NB125_124.out
                  have hs83 : w71.cell? ⟨gb125, 1, none⟩ = some (.int .i64 x126001_1) := (blk_cell BK125.out 1).trans rfl
                  have hfs83 := blk_frozen BK125.out 1
                  have hns83_0 := NB124_125.out
                  have hms83_0 := NB125_124.out
                  have hs84 : w71.cell? ⟨gb125, 2, none⟩ = some (.int .i64 x126002_1) := (blk_cell BK125.out 2).trans rfl
                  have hfs84 := blk_frozen BK125.out 2
                  have hns84_0 := NB124_125.out
                  have hms84_0 := NB125_124.out
                  have hs85 : w71.cell? ⟨gb125, 3, none⟩ = some (.int .i64 x126003_1) := (blk_cell BK125.out 3).trans rfl
                  have hfs85 := blk_frozen BK125.out 3
                  have hns85_0 := NB124_125.out
                  have hms85_0 := NB125_124.out
                  have hs86 : w71.cell? ⟨gb125, 4, none⟩ = some (.int .i64 x126004_1) := (blk_cell BK125.out 4).trans rfl
                  have hfs86 := blk_frozen BK125.out 4
                  have hns86_0 := NB124_125.out
                  have hms86_0 := NB125_124.out
                  have hs87 : w71.cell? ⟨gb125, 5, none⟩ = some (.int .i64 x126005_1) := (blk_cell BK125.out 5).trans rfl
                  have hfs87 := blk_frozen BK125.out 5
                  have hns87_0 := NB124_125.out
                  have hms87_0 := NB125_124.out
                  have hs88 : w71.cell? ⟨gb125, 6, none⟩ = some (.int .i64 x126006_1) := (blk_cell BK125.out 6).trans rfl
                  have hfs88 := blk_frozen BK125.out 6
                  have hns88_0 := NB124_125.out
                  have hms88_0 := NB125_124.out
                  have hs89 : w71.cell? ⟨gb125, 7, none⟩ = some (.int .i64 x126007_1) := (blk_cell BK125.out 7).trans rfl
                  have hfs89 := blk_frozen BK125.out 7
                  have hns89_0 := NB124_125.out
                  have hms89_0 := NB125_124.out
                  have hs90 : w71.cell? ⟨gb125, 8, none⟩ = some (.int .i64 x126008_1) := (blk_cell BK125.out 8).trans rfl
                  have hfs90 := blk_frozen BK125.out 8
                  have hns90_0 := NB124_125.out
                  have hms90_0 := NB125_124.out
                  have hs91 : w71.cell? ⟨gb125, 9, none⟩ = some (.int .i64 x126009_1) := (blk_cell BK125.out 9).trans rfl
                  have hfs91 := blk_frozen BK125.out 9
                  have hns91_0 := NB124_125.out
                  have hms91_0 := NB125_124.out
                  with_reducible refine skip_ (w1 := ?_) ?_ ?_ ?_ ?_
                  rotate_left
                  · rfl
                  · rfl
                  ·
                   first | (exact store10_ rfl rfl rfl (by repeat' (first | (with_reducible exact Aside0.out (by assumption)) | refine blk_far ?_ (Aside0.out (by assumption)) _))) | (go_simp; rfl)
                  refine hK.out _ _ ?_
                  clear hK K
                  refine done_ (done_of HT_.out (by kernel_rfl)) ?_
                  try go_wp2
                  have n0_ : Aside0 (((((((((((((((((((((w71.setCell ⟨gb124, 0, none⟩ (.int .i64 t132)).setCell ⟨gb124, 1, none⟩ (.int .i64 t133)).setCell ⟨gb124, 2, none⟩ (.int .i64 t134)).setCell ⟨gb124, 3, none⟩ (.int .i64 t135)).setCell ⟨gb124, 4, none⟩ (.int .i64 t136)).setCell ⟨gb124, 5, none⟩ (.int .i64 t137)).setCell ⟨gb124, 6, none⟩ (.int .i64 t138)).setCell ⟨gb124, 7, none⟩ (.int .i64 t139)).setCell ⟨gb124, 8, none⟩ (.int .i64 t140)).setCell ⟨gb124, 9, none⟩ (.int .i64 t141)).setCell ⟨gb125, 0, none⟩ (.int .i64 t142)).setCell ⟨gb125, 1, none⟩ (.int .i64 t143)).setCell ⟨gb125, 2, none⟩ (.int .i64 t144)).setCell ⟨gb125, 3, none⟩ (.int .i64 t145)).setCell ⟨gb125, 4, none⟩ (.int .i64 t146)).setCell ⟨gb125, 5, none⟩ (.int .i64 t147)).setCell ⟨gb125, 6, none⟩ (.int .i64 t148)).setCell ⟨gb125, 7, none⟩ (.int .i64 t149)).setCell ⟨gb125, 8, none⟩ (.int .i64 t150)).setCell ⟨gb125, 9, none⟩ (.int .i64 t151)).heap[gb124]? = some (.cells #[.int .i64 t132, .int .i64 t133, .int .i64 t134, .int .i64 t135, .int .i64 t136, .int .i64 t137, .int .i64 t138, .int .i64 t139, .int .i64 t140, .int .i64 t141] 26 (0, 0))) := ⟨by (with_reducible repeat (first | refine blk_drewN ?_ _ | refine blk_drew ?_ | refine blk_alloc ?_ _)); refine blk_far ?_ NB124_125.out _; (with_reducible repeat (first | refine blk_drewN ?_ _ | refine blk_drew ?_ | refine blk_alloc ?_ _)); refine blk_far ?_ NB124_125.out _; (with_reducible repeat (first | refine blk_drewN ?_ _ | refine blk_drew ?_ | refine blk_alloc ?_ _)); refine blk_far ?_ NB124_125.out _; (with_reducible repeat (first | refine blk_drewN ?_ _ | refine blk_drew ?_ | refine blk_alloc ?_ _)); refine blk_far ?_ NB124_125.out _; (with_reducible repeat (first | refine blk_drewN ?_ _ | refine blk_drew ?_ | refine blk_alloc ?_ _)); refine blk_far ?_ NB124_125.out _; (with_reducible repeat (first | refine blk_drewN ?_ _ | refine blk_drew ?_ | refine blk_alloc ?_ _)); refine blk_far ?_ NB124_125.out _; (with_reducible repeat (first | refine blk_drewN ?_ _ | refine blk_drew ?_ | refine blk_alloc ?_ _)); refine blk_far ?_ NB124_125.out _; (with_reducible repeat (first | refine blk_drewN ?_ _ | refine blk_drew ?_ | refine blk_alloc ?_ _)); refine blk_far ?_ NB124_125.out _; (with_reducible repeat (first | refine blk_drewN ?_ _ | refine blk_drew ?_ | refine blk_alloc ?_ _)); refine blk_far ?_ NB124_125.out _; (with_reducible repeat (first | refine blk_drewN ?_ _ | refine blk_drew ?_ | refine blk_alloc ?_ _)); refine blk_far ?_ NB124_125.out _; (with_reducible repeat (first | refine blk_drewN ?_ _ | refine blk_drew ?_ | refine blk_alloc ?_ _)); refine blk_put (cs := #[.int .i64 t132, .int .i64 t133, .int .i64 t134, .int .i64 t135, .int .i64 t136, .int .i64 t137, .int .i64 t138, .int .i64 t139, .int .i64 t140, .int .i64 x125009_1]) ?_ 9 _ rfl; (with_reducible repeat (first | refine blk_drewN ?_ _ | refine blk_drew ?_ | refine blk_alloc ?_ _)); refine blk_put (cs := #[.int .i64 t132, .int .i64 t133, .int .i64 t134, .int .i64 t135, .int .i64 t136, .int .i64 t137, .int .i64 t138, .int .i64 t139, .int .i64 x125008_1, .int .i64 x125009_1]) ?_ 8 _ rfl; (with_reducible repeat (first | refine blk_drewN ?_ _ | refine blk_drew ?_ | refine blk_alloc ?_ _)); refine blk_put (cs := #[.int .i64 t132, .int .i64 t133, .int .i64 t134, .int .i64 t135, .int .i64 t136, .int .i64 t137, .int .i64 t138, .int .i64 x125007_1, .int .i64 x125008_1, .int .i64 x125009_1]) ?_ 7 _ rfl; (with_reducible repeat (first | refine blk_drewN ?_ _ | refine blk_drew ?_ | refine blk_alloc ?_ _)); refine blk_put (cs := #[.int .i64 t132, .int .i64 t133, .int .i64 t134, .int .i64 t135, .int .i64 t136, .int .i64 t137, .int .i64 x125006_1, .int .i64 x125007_1, .int .i64 x125008_1, .int .i64 x125009_1]) ?_ 6 _ rfl; (with_reducible repeat (first | refine blk_drewN ?_ _ | refine blk_drew ?_ | refine blk_alloc ?_ _)); refine blk_put (cs := #[.int .i64 t132, .int .i64 t133, .int .i64 t134, .int .i64 t135, .int .i64 t136, .int .i64 x125005_1, .int .i64 x125006_1, .int .i64 x125007_1, .int .i64 x125008_1, .int .i64 x125009_1]) ?_ 5 _ rfl; (with_reducible repeat (first | refine blk_drewN ?_ _ | refine blk_drew ?_ | refine blk_alloc ?_ _)); refine blk_put (cs := #[.int .i64 t132, .int .i64 t133, .int .i64 t134, .int .i64 t135, .int .i64 x125004_1, .int .i64 x125005_1, .int .i64 x125006_1, .int .i64 x125007_1, .int .i64 x125008_1, .int .i64 x125009_1]) ?_ 4 _ rfl; (with_reducible repeat (first | refine blk_drewN ?_ _ | refine blk_drew ?_ | refine blk_alloc ?_ _)); refine blk_put (cs := #[.int .i64 t132, .int .i64 t133, .int .i64 t134, .int .i64 x125003_1, .int .i64 x125004_1, .int .i64 x125005_1, .int .i64 x125006_1, .int .i64 x125007_1, .int .i64 x125008_1, .int .i64 x125009_1]) ?_ 3 _ rfl; (with_reducible repeat (first | refine blk_drewN ?_ _ | refine blk_drew ?_ | refine blk_alloc ?_ _)); refine blk_put (cs := #[.int .i64 t132, .int .i64 t133, .int .i64 x125002_1, .int .i64 x125003_1, .int .i64 x125004_1, .int .i64 x125005_1, .int .i64 x125006_1, .int .i64 x125007_1, .int .i64 x125008_1, .int .i64 x125009_1]) ?_ 2 _ rfl; (with_reducible repeat (first | refine blk_drewN ?_ _ | refine blk_drew ?_ | refine blk_alloc ?_ _)); refine blk_put (cs := #[.int .i64 t132, .int .i64 x125001_1, .int .i64 x125002_1, .int .i64 x125003_1, .int .i64 x125004_1, .int .i64 x125005_1, .int .i64 x125006_1, .int .i64 x125007_1, .int .i64 x125008_1, .int .i64 x125009_1]) ?_ 1 _ rfl; (with_reducible repeat (first | refine blk_drewN ?_ _ | refine blk_drew ?_ | refine blk_alloc ?_ _)); refine blk_put (cs := #[.int .i64 t130, .int .i64 x125001_1, .int .i64 x125002_1, .int .i64 x125003_1, .int .i64 x125004_1, .int .i64 x125005_1, .int .i64 x125006_1, .int .i64 x125007_1, .int .i64 x125008_1, .int .i64 x125009_1]) ?_ 0 _ rfl; (with_reducible repeat (first | refine blk_drewN ?_ _ | refine blk_drew ?_ | refine blk_alloc ?_ _)); exact BK124.out⟩
                  have n1_ : Aside0 (((((((((((((((((((((w71.setCell ⟨gb124, 0, none⟩ (.int .i64 t132)).setCell ⟨gb124, 1, none⟩ (.int .i64 t133)).setCell ⟨gb124, 2, none⟩ (.int .i64 t134)).setCell ⟨gb124, 3, none⟩ (.int .i64 t135)).setCell ⟨gb124, 4, none⟩ (.int .i64 t136)).setCell ⟨gb124, 5, none⟩ (.int .i64 t137)).setCell ⟨gb124, 6, none⟩ (.int .i64 t138)).setCell ⟨gb124, 7, none⟩ (.int .i64 t139)).setCell ⟨gb124, 8, none⟩ (.int .i64 t140)).setCell ⟨gb124, 9, none⟩ (.int .i64 t141)).setCell ⟨gb125, 0, none⟩ (.int .i64 t142)).setCell ⟨gb125, 1, none⟩ (.int .i64 t143)).setCell ⟨gb125, 2, none⟩ (.int .i64 t144)).setCell ⟨gb125, 3, none⟩ (.int .i64 t145)).setCell ⟨gb125, 4, none⟩ (.int .i64 t146)).setCell ⟨gb125, 5, none⟩ (.int .i64 t147)).setCell ⟨gb125, 6, none⟩ (.int .i64 t148)).setCell ⟨gb125, 7, none⟩ (.int .i64 t149)).setCell ⟨gb125, 8, none⟩ (.int .i64 t150)).setCell ⟨gb125, 9, none⟩ (.int .i64 t151)).heap[gb125]? = some (.cells #[.int .i64 t142, .int .i64 t143, .int .i64 t144, .int .i64 t145, .int .i64 t146, .int .i64 t147, .int .i64 t148, .int .i64 t149, .int .i64 t150, .int .i64 t151] 26 (0, 0))) := ⟨by (with_reducible repeat (first | refine blk_drewN ?_ _ | refine blk_drew ?_ | refine blk_alloc ?_ _)); refine blk_put (cs := #[.int .i64 t142, .int .i64 t143, .int .i64 t144, .int .i64 t145, .int .i64 t146, .int .i64 t147, .int .i64 t148, .int .i64 t149, .int .i64 t150, .int .i64 x126009_1]) ?_ 9 _ rfl; (with_reducible repeat (first | refine blk_drewN ?_ _ | refine blk_drew ?_ | refine blk_alloc ?_ _)); refine blk_put (cs := #[.int .i64 t142, .int .i64 t143, .int .i64 t144, .int .i64 t145, .int .i64 t146, .int .i64 t147, .int .i64 t148, .int .i64 t149, .int .i64 x126008_1, .int .i64 x126009_1]) ?_ 8 _ rfl; (with_reducible repeat (first | refine blk_drewN ?_ _ | refine blk_drew ?_ | refine blk_alloc ?_ _)); refine blk_put (cs := #[.int .i64 t142, .int .i64 t143, .int .i64 t144, .int .i64 t145, .int .i64 t146, .int .i64 t147, .int .i64 t148, .int .i64 x126007_1, .int .i64 x126008_1, .int .i64 x126009_1]) ?_ 7 _ rfl; (with_reducible repeat (first | refine blk_drewN ?_ _ | refine blk_drew ?_ | refine blk_alloc ?_ _)); refine blk_put (cs := #[.int .i64 t142, .int .i64 t143, .int .i64 t144, .int .i64 t145, .int .i64 t146, .int .i64 t147, .int .i64 x126006_1, .int .i64 x126007_1, .int .i64 x126008_1, .int .i64 x126009_1]) ?_ 6 _ rfl; (with_reducible repeat (first | refine blk_drewN ?_ _ | refine blk_drew ?_ | refine blk_alloc ?_ _)); refine blk_put (cs := #[.int .i64 t142, .int .i64 t143, .int .i64 t144, .int .i64 t145, .int .i64 t146, .int .i64 x126005_1, .int .i64 x126006_1, .int .i64 x126007_1, .int .i64 x126008_1, .int .i64 x126009_1]) ?_ 5 _ rfl; (with_reducible repeat (first | refine blk_drewN ?_ _ | refine blk_drew ?_ | refine blk_alloc ?_ _)); refine blk_put (cs := #[.int .i64 t142, .int .i64 t143, .int .i64 t144, .int .i64 t145, .int .i64 x126004_1, .int .i64 x126005_1, .int .i64 x126006_1, .int .i64 x126007_1, .int .i64 x126008_1, .int .i64 x126009_1]) ?_ 4 _ rfl; (with_reducible repeat (first | refine blk_drewN ?_ _ | refine blk_drew ?_ | refine blk_alloc ?_ _)); refine blk_put (cs := #[.int .i64 t142, .int .i64 t143, .int .i64 t144, .int .i64 x126003_1, .int .i64 x126004_1, .int .i64 x126005_1, .int .i64 x126006_1, .int .i64 x126007_1, .int .i64 x126008_1, .int .i64 x126009_1]) ?_ 3 _ rfl; (with_reducible repeat (first | refine blk_drewN ?_ _ | refine blk_drew ?_ | refine blk_alloc ?_ _)); refine blk_put (cs := #[.int .i64 t142, .int .i64 t143, .int .i64 x126002_1, .int .i64 x126003_1, .int .i64 x126004_1, .int .i64 x126005_1, .int .i64 x126006_1, .int .i64 x126007_1, .int .i64 x126008_1, .int .i64 x126009_1]) ?_ 2 _ rfl; (with_reducible repeat (first | refine blk_drewN ?_ _ | refine blk_drew ?_ | refine blk_alloc ?_ _)); refine blk_put (cs := #[.int .i64 t142, .int .i64 x126001_1, .int .i64 x126002_1, .int .i64 x126003_1, .int .i64 x126004_1, .int .i64 x126005_1, .int .i64 x126006_1, .int .i64 x126007_1, .int .i64 x126008_1, .int .i64 x126009_1]) ?_ 1 _ rfl; (with_reducible repeat (first | refine blk_drewN ?_ _ | refine blk_drew ?_ | refine blk_alloc ?_ _)); refine blk_put (cs := #[.int .i64 t131, .int .i64 x126001_1, .int .i64 x126002_1, .int .i64 x126003_1, .int .i64 x126004_1, .int .i64 x126005_1, .int .i64 x126006_1, .int .i64 x126007_1, .int .i64 x126008_1, .int .i64 x126009_1]) ?_ 0 _ rfl; (with_reducible repeat (first | refine blk_drewN ?_ _ | refine blk_drew ?_ | refine blk_alloc ?_ _)); refine blk_far ?_ NB125_124.out _; (with_reducible repeat (first | refine blk_drewN ?_ _ | refine blk_drew ?_ | refine blk_alloc ?_ _)); refine blk_far ?_ NB125_124.out _; (with_reducible repeat (first | refine blk_drewN ?_ _ | refine blk_drew ?_ | refine blk_alloc ?_ _)); refine blk_far ?_ NB125_124.out _; (with_reducible repeat (first | refine blk_drewN ?_ _ | refine blk_drew ?_ | refine blk_alloc ?_ _)); refine blk_far ?_ NB125_124.out _; (with_reducible repeat (first | refine blk_drewN ?_ _ | refine blk_drew ?_ | refine blk_alloc ?_ _)); refine blk_far ?_ NB125_124.out _; (with_reducible repeat (first | refine blk_drewN ?_ _ | refine blk_drew ?_ | refine blk_alloc ?_ _)); refine blk_far ?_ NB125_124.out _; (with_reducible repeat (first | refine blk_drewN ?_ _ | refine blk_drew ?_ | refine blk_alloc ?_ _)); refine blk_far ?_ NB125_124.out _; (with_reducible repeat (first | refine blk_drewN ?_ _ | refine blk_drew ?_ | refine blk_alloc ?_ _)); refine blk_far ?_ NB125_124.out _; (with_reducible repeat (first | refine blk_drewN ?_ _ | refine blk_drew ?_ | refine blk_alloc ?_ _)); refine blk_far ?_ NB125_124.out _; (with_reducible repeat (first | refine blk_drewN ?_ _ | refine blk_drew ?_ | refine blk_alloc ?_ _)); refine blk_far ?_ NB125_124.out _; (with_reducible repeat (first | refine blk_drewN ?_ _ | refine blk_drew ?_ | refine blk_alloc ?_ _)); exact BK125.out⟩
                  have n2_ : Aside0 (Below w.heap.size w ((((((((((((((((((((w71.setCell ⟨gb124, 0, none⟩ (.int .i64 t132)).setCell ⟨gb124, 1, none⟩ (.int .i64 t133)).setCell ⟨gb124, 2, none⟩ (.int .i64 t134)).setCell ⟨gb124, 3, none⟩ (.int .i64 t135)).setCell ⟨gb124, 4, none⟩ (.int .i64 t136)).setCell ⟨gb124, 5, none⟩ (.int .i64 t137)).setCell ⟨gb124, 6, none⟩ (.int .i64 t138)).setCell ⟨gb124, 7, none⟩ (.int .i64 t139)).setCell ⟨gb124, 8, none⟩ (.int .i64 t140)).setCell ⟨gb124, 9, none⟩ (.int .i64 t141)).setCell ⟨gb125, 0, none⟩ (.int .i64 t142)).setCell ⟨gb125, 1, none⟩ (.int .i64 t143)).setCell ⟨gb125, 2, none⟩ (.int .i64 t144)).setCell ⟨gb125, 3, none⟩ (.int .i64 t145)).setCell ⟨gb125, 4, none⟩ (.int .i64 t146)).setCell ⟨gb125, 5, none⟩ (.int .i64 t147)).setCell ⟨gb125, 6, none⟩ (.int .i64 t148)).setCell ⟨gb125, 7, none⟩ (.int .i64 t149)).setCell ⟨gb125, 8, none⟩ (.int .i64 t150)).setCell ⟨gb125, 9, none⟩ (.int .i64 t151))) := ⟨by repeat (first | (with_reducible first | exact HB.out | apply below_alloc | apply pw_below_drewN | apply below_drew1 | refine below_set ?_ GE124.out | refine below_set ?_ GE125.out) | exact HB.out)⟩
                  (try clear BK124)
                  (try clear BK125)
                  (try clear HB)
                  generalize ((((((((((((((((((((w71.setCell ⟨gb124, 0, none⟩ (.int .i64 t132)).setCell ⟨gb124, 1, none⟩ (.int .i64 t133)).setCell ⟨gb124, 2, none⟩ (.int .i64 t134)).setCell ⟨gb124, 3, none⟩ (.int .i64 t135)).setCell ⟨gb124, 4, none⟩ (.int .i64 t136)).setCell ⟨gb124, 5, none⟩ (.int .i64 t137)).setCell ⟨gb124, 6, none⟩ (.int .i64 t138)).setCell ⟨gb124, 7, none⟩ (.int .i64 t139)).setCell ⟨gb124, 8, none⟩ (.int .i64 t140)).setCell ⟨gb124, 9, none⟩ (.int .i64 t141)).setCell ⟨gb125, 0, none⟩ (.int .i64 t142)).setCell ⟨gb125, 1, none⟩ (.int .i64 t143)).setCell ⟨gb125, 2, none⟩ (.int .i64 t144)).setCell ⟨gb125, 3, none⟩ (.int .i64 t145)).setCell ⟨gb125, 4, none⟩ (.int .i64 t146)).setCell ⟨gb125, 5, none⟩ (.int .i64 t147)).setCell ⟨gb125, 6, none⟩ (.int .i64 t148)).setCell ⟨gb125, 7, none⟩ (.int .i64 t149)).setCell ⟨gb125, 8, none⟩ (.int .i64 t150)).setCell ⟨gb125, 9, none⟩ (.int .i64 t151)) = w92 at n0_ n1_ n2_ ⊢
                  have BK124 := n0_
                  have BK125 := n1_
                  have HB := n2_
                  clear n0_ n1_ n2_
                  have n0_ := Aside0.mk (blk_drew BK124.out)
                  have n1_ := Aside0.mk (blk_drew BK125.out)
                  have n2_ := Aside0.mk (below_drew1 HB.out)
                  clear BK124
                  clear BK125
                  clear HB
                  have BK124 := n0_
                  have BK125 := n1_
                  have HB := n2_
                  clear n0_ n1_ n2_
                  refine start_ (n := 24) (S := fun w' => w'.cell? ⟨gb124, 0, none⟩ = some (.int .i64 t132) ∧ w'.cell? ⟨gb124, 1, none⟩ = some (.int .i64 t133) ∧ w'.cell? ⟨gb124, 2, none⟩ = some (.int .i64 t134) ∧ w'.cell? ⟨gb124, 3, none⟩ = some (.int .i64 t135) ∧ w'.cell? ⟨gb124, 4, none⟩ = some (.int .i64 t136) ∧ w'.cell? ⟨gb124, 5, none⟩ = some (.int .i64 t137) ∧ w'.cell? ⟨gb124, 6, none⟩ = some (.int .i64 t138) ∧ w'.cell? ⟨gb124, 7, none⟩ = some (.int .i64 t139) ∧ w'.cell? ⟨gb124, 8, none⟩ = some (.int .i64 t140) ∧ w'.cell? ⟨gb124, 9, none⟩ = some (.int .i64 t141) ∧ w'.cell? ⟨gb125, 0, none⟩ = some (.int .i64 t142) ∧ w'.cell? ⟨gb125, 1, none⟩ = some (.int .i64 t143) ∧ w'.cell? ⟨gb125, 2, none⟩ = some (.int .i64 t144) ∧ w'.cell? ⟨gb125, 3, none⟩ = some (.int .i64 t145) ∧ w'.cell? ⟨gb125, 4, none⟩ = some (.int .i64 t146) ∧ w'.cell? ⟨gb125, 5, none⟩ = some (.int .i64 t147) ∧ w'.cell? ⟨gb125, 6, none⟩ = some (.int .i64 t148) ∧ w'.cell? ⟨gb125, 7, none⟩ = some (.int .i64 t149) ∧ w'.cell? ⟨gb125, 8, none⟩ = some (.int .i64 t150) ∧ w'.cell? ⟨gb125, 9, none⟩ = some (.int .i64 t151)) (ds := []) #[Ff,Ff,Ff,Ff,Ff,Ff,Ff,Ff,Ff,Ff,Ff,Ff,Ff,Ff,Ff,Ff,Ff,Ff,Ff,Ff,Ff,Ff,Ff,Ff] (by kernel_rfl) rfl rfl ⟨(blk_cell BK124.out 0).trans rfl, (blk_cell BK124.out 1).trans rfl, (blk_cell BK124.out 2).trans rfl, (blk_cell BK124.out 3).trans rfl, (blk_cell BK124.out 4).trans rfl, (blk_cell BK124.out 5).trans rfl, (blk_cell BK124.out 6).trans rfl, (blk_cell BK124.out 7).trans rfl, (blk_cell BK124.out 8).trans rfl, (blk_cell BK124.out 9).trans rfl, (blk_cell BK125.out 0).trans rfl, (blk_cell BK125.out 1).trans rfl, (blk_cell BK125.out 2).trans rfl, (blk_cell BK125.out 3).trans rfl, (blk_cell BK125.out 4).trans rfl, (blk_cell BK125.out 5).trans rfl, (blk_cell BK125.out 6).trans rfl, (blk_cell BK125.out 7).trans rfl, (blk_cell BK125.out 8).trans rfl, (blk_cell BK125.out 9).trans rfl⟩ (fun hHeld => ?_); refine with_tabW ladderbacklaw08_TimerDelays.tab18 ladderbacklaw08_TimerDelays.bits18 (fun HT_ HW_ => ?_)
                  generalize w92.drew = w93 at BK124 BK125 HB hHeld ⊢
                  refine pure_ (i := 0) (N := some 80) (v := ?_) (a' := ?_) #[Tt,Ff,Ff,Ff,Ff,Ff,Ff,Ff,Ff,Ff,Ff,Ff,Ff,Ff,Ff,Ff,Ff,Ff,Ff,Ff,Ff,Ff,Ff,Ff] rfl rfl (any_of HT_.out (by kernel_rfl)) (fun _ _ _ h => h) (Or.inl ⟨by rfl, ?_⟩) ?_ ?_
                  rotate_left
                  ·
                   intro w'
                   go_simp
                   with_reducible rfl
                  rotate_left
                  ·
                   simp only [Act.put, List.setIfInBounds_toArray, List.set_cons_zero, List.set_cons_succ, i64_w, i32_w]
                   rfl
                  refine pure_ (i := 1) (N := some 81) (v := ?_) (a' := ?_) #[Tt,Tt,Ff,Ff,Ff,Ff,Ff,Ff,Ff,Ff,Ff,Ff,Ff,Ff,Ff,Ff,Ff,Ff,Ff,Ff,Ff,Ff,Ff,Ff] rfl rfl (any_of HT_.out (by kernel_rfl)) (fun _ _ _ h => h) (Or.inl ⟨by rfl, ?_⟩) ?_ ?_
                  rotate_left
                  ·
                   intro w'
                   go_simp
                   with_reducible rfl
                  rotate_left
                  ·
                   simp only [Act.put, List.setIfInBounds_toArray, List.set_cons_zero, List.set_cons_succ, i64_w, i32_w]
                   rfl
                  refine pure_ (i := 3) (N := some 83) (v := ?_) (a' := ?_) #[Tt,Tt,Ff,Tt,Ff,Ff,Ff,Ff,Ff,Ff,Ff,Ff,Ff,Ff,Ff,Ff,Ff,Ff,Ff,Ff,Ff,Ff,Ff,Ff] rfl rfl (any_of HT_.out (by kernel_rfl)) (fun _ _ _ h => h) (Or.inl ⟨by rfl, ?_⟩) ?_ ?_
                  rotate_left
                  ·
                   intro w'
                   go_simp
                   with_reducible rfl
                  rotate_left
                  ·
                   simp only [Act.put, List.setIfInBounds_toArray, List.set_cons_zero, List.set_cons_succ, i64_w, i32_w]
                   rfl
                  refine pure_ (i := 4) (N := some 84) (v := ?_) (a' := ?_) #[Tt,Tt,Ff,Tt,Tt,Ff,Ff,Ff,Ff,Ff,Ff,Ff,Ff,Ff,Ff,Ff,Ff,Ff,Ff,Ff,Ff,Ff,Ff,Ff] rfl rfl (any_of HT_.out (by kernel_rfl)) (fun _ _ _ h => h) (Or.inl ⟨by rfl, ?_⟩) ?_ ?_
                  rotate_left
                  ·
                   intro w'
                   go_simp
                   with_reducible rfl
                  rotate_left
                  ·
                   simp only [Act.put, List.setIfInBounds_toArray, List.set_cons_zero, List.set_cons_succ, i64_w, i32_w]
                   rfl
                  refine pure_ (i := 5) (N := some 85) (v := undef) (a' := ?_) #[Tt,Tt,Ff,Tt,Tt,Tt,Ff,Ff,Ff,Ff,Ff,Ff,Ff,Ff,Ff,Ff,Ff,Ff,Ff,Ff,Ff,Ff,Ff,Ff] rfl rfl (any_of HT_.out (by kernel_rfl)) (fun _ _ _ h => h) (Or.inr ⟨by rfl, rfl⟩) ?_ ?_
                  rotate_left
                  ·
                   simp only [Act.put, List.setIfInBounds_toArray, List.set_cons_zero, List.set_cons_succ, i64_w, i32_w]
                   rfl
                  refine pure_ (i := 6) (N := some 86) (v := ?_) (a' := ?_) #[Tt,Tt,Ff,Tt,Tt,Tt,Tt,Ff,Ff,Ff,Ff,Ff,Ff,Ff,Ff,Ff,Ff,Ff,Ff,Ff,Ff,Ff,Ff,Ff] rfl rfl (any_of HT_.out (by kernel_rfl)) (fun _ _ _ h => h) (Or.inl ⟨by rfl, ?_⟩) ?_ ?_
                  rotate_left
                  ·
                   intro w'
                   go_simp
                   with_reducible rfl
                  rotate_left
                  ·
                   simp only [Act.put, List.setIfInBounds_toArray, List.set_cons_zero, List.set_cons_succ, i64_w, i32_w]
                   rfl
                  refine take_ (i := 2) (N := some 82) (v := ?_) (a' := ?_) #[Tt,Tt,Tt,Tt,Tt,Tt,Tt,Ff,Ff,Ff,Ff,Ff,Ff,Ff,Ff,Ff,Ff,Ff,Ff,Ff,Ff,Ff,Ff,Ff] rfl rfl (take_ofW HT_.out HW_.out (by kernel_rfl)) (fun _ _ _ h => h) (Or.inl ⟨by rfl, ?_⟩) hHeld ?_ ?_
                  rotate_left
                  ·
                   rintro w' ⟨s0, s1, s2, s3, s4, s5, s6, s7, s8, s9, s10, s11, s12, s13, s14, s15, s16, s17, s18, s19⟩
                   go_simp
                   with_reducible rfl
                  rotate_left
                  ·
                   simp only [Act.put, List.setIfInBounds_toArray, List.set_cons_zero, List.set_cons_succ, i64_w, i32_w]
                   rfl
                  refine one_ (i := 7) (N := some 87) #[Tt,Tt,Tt,Tt,Tt,Tt,Tt,Tt,Ff,Ff,Ff,Ff,Ff,Ff,Ff,Ff,Ff,Ff,Ff,Ff,Ff,Ff,Ff,Ff] rfl rfl (one_of HT_.out (by kernel_rfl)) (by decide) (fun K hK => ?_)
                  refine goes_ Try.func12 (by kernel_rfl) rfl #[.bool false] (by rfl) rfl rfl (by (try simp only [List.map_toArray, List.map_cons, List.map_nil]); first | done | rfl | (simp only [List.length_drop, List.length_take]; rfl)) ?_
                  with_reducible refine (ladderbacklaw08_on.calls false t154 _ A60.out).mono ?_
                  rintro e w' ⟨rfl, ⟨nd, rfl⟩⟩
                  refine ⟨_, rfl, ?_⟩
                  refine hK.out _ _ ⟨(blk_cell BK124.out 0).trans rfl, (blk_cell BK124.out 1).trans rfl, (blk_cell BK124.out 2).trans rfl, (blk_cell BK124.out 3).trans rfl, (blk_cell BK124.out 4).trans rfl, (blk_cell BK124.out 5).trans rfl, (blk_cell BK124.out 6).trans rfl, (blk_cell BK124.out 7).trans rfl, (blk_cell BK124.out 8).trans rfl, (blk_cell BK124.out 9).trans rfl, (blk_cell BK125.out 0).trans rfl, (blk_cell BK125.out 1).trans rfl, (blk_cell BK125.out 2).trans rfl, (blk_cell BK125.out 3).trans rfl, (blk_cell BK125.out 4).trans rfl, (blk_cell BK125.out 5).trans rfl, (blk_cell BK125.out 6).trans rfl, (blk_cell BK125.out 7).trans rfl, (blk_cell BK125.out 8).trans rfl, (blk_cell BK125.out 9).trans rfl⟩ (fun hHeld => ?_)
                  clear hK K
                  refine norm_ (a' := ?_) ?_ ?_
                  rotate_left
                  ·
                   show Act.put _ (some 87) _ = _
                   simp only [Act.put, List.setIfInBounds_toArray, List.set_cons_zero, List.set_cons_succ, i64_w, i32_w]
                   rfl
                  refine pure_ (i := 8) (N := some 88) (v := ?_) (a' := ?_) #[Tt,Tt,Tt,Tt,Tt,Tt,Tt,Tt,Tt,Ff,Ff,Ff,Ff,Ff,Ff,Ff,Ff,Ff,Ff,Ff,Ff,Ff,Ff,Ff] rfl rfl (any_of HT_.out (by kernel_rfl)) (fun _ _ _ h => h) (Or.inl ⟨by rfl, ?_⟩) ?_ ?_
                  rotate_left
                  ·
                   intro w'
                   go_simp
                   with_reducible rfl
                  rotate_left
                  ·
                   simp only [Act.put, List.setIfInBounds_toArray, List.set_cons_zero, List.set_cons_succ, i64_w, i32_w]
                   rfl
                  refine pure_ (i := 9) (N := some 89) (v := ?_) (a' := ?_) #[Tt,Tt,Tt,Tt,Tt,Tt,Tt,Tt,Tt,Tt,Ff,Ff,Ff,Ff,Ff,Ff,Ff,Ff,Ff,Ff,Ff,Ff,Ff,Ff] rfl rfl (any_of HT_.out (by kernel_rfl)) (fun _ _ _ h => h) (Or.inl ⟨by rfl, ?_⟩) ?_ ?_
                  rotate_left
                  ·
                   intro w'
                   go_simp
                   with_reducible rfl
                  rotate_left
                  ·
                   simp only [Act.put, List.setIfInBounds_toArray, List.set_cons_zero, List.set_cons_succ, i64_w, i32_w]
                   rfl
                  refine pure_ (i := 10) (N := some 90) (v := ?_) (a' := ?_) #[Tt,Tt,Tt,Tt,Tt,Tt,Tt,Tt,Tt,Tt,Tt,Ff,Ff,Ff,Ff,Ff,Ff,Ff,Ff,Ff,Ff,Ff,Ff,Ff] rfl rfl (any_of HT_.out (by kernel_rfl)) (fun _ _ _ h => h) (Or.inl ⟨by rfl, ?_⟩) ?_ ?_
                  rotate_left
                  ·
                   intro w'
                   go_simp
                   with_reducible rfl
                  rotate_left
                  ·
                   simp only [Act.put, List.setIfInBounds_toArray, List.set_cons_zero, List.set_cons_succ, i64_w, i32_w]
                   rfl
                  refine pure_ (i := 11) (N := some 91) (v := ?_) (a' := ?_) #[Tt,Tt,Tt,Tt,Tt,Tt,Tt,Tt,Tt,Tt,Tt,Tt,Ff,Ff,Ff,Ff,Ff,Ff,Ff,Ff,Ff,Ff,Ff,Ff] rfl rfl (any_of HT_.out (by kernel_rfl)) (fun _ _ _ h => h) (Or.inl ⟨by rfl, ?_⟩) ?_ ?_
                  rotate_left
                  ·
                   intro w'
                   go_simp
                   with_reducible rfl
                  rotate_left
                  ·
                   simp only [Act.put, List.setIfInBounds_toArray, List.set_cons_zero, List.set_cons_succ, i64_w, i32_w]
                   rfl
                  refine pure_ (i := 13) (N := some 93) (v := ?_) (a' := ?_) #[Tt,Tt,Tt,Tt,Tt,Tt,Tt,Tt,Tt,Tt,Tt,Tt,Ff,Tt,Ff,Ff,Ff,Ff,Ff,Ff,Ff,Ff,Ff,Ff] rfl rfl (any_of HT_.out (by kernel_rfl)) (fun _ _ _ h => h) (Or.inl ⟨by rfl, ?_⟩) ?_ ?_
                  rotate_left
                  ·
                   intro w'
                   go_simp
                   with_reducible rfl
                  rotate_left
                  ·
                   simp only [Act.put, List.setIfInBounds_toArray, List.set_cons_zero, List.set_cons_succ, i64_w, i32_w]
                   rfl
                  refine pure_ (i := 14) (N := some 94) (v := ?_) (a' := ?_) #[Tt,Tt,Tt,Tt,Tt,Tt,Tt,Tt,Tt,Tt,Tt,Tt,Ff,Tt,Tt,Ff,Ff,Ff,Ff,Ff,Ff,Ff,Ff,Ff] rfl rfl (any_of HT_.out (by kernel_rfl)) (fun _ _ _ h => h) (Or.inl ⟨by rfl, ?_⟩) ?_ ?_
                  rotate_left
                  ·
                   intro w'
                   go_simp
                   with_reducible rfl
                  rotate_left
                  ·
                   simp only [Act.put, List.setIfInBounds_toArray, List.set_cons_zero, List.set_cons_succ, i64_w, i32_w]
                   rfl
                  refine pure_ (i := 15) (N := some 95) (v := ?_) (a' := ?_) #[Tt,Tt,Tt,Tt,Tt,Tt,Tt,Tt,Tt,Tt,Tt,Tt,Ff,Tt,Tt,Tt,Ff,Ff,Ff,Ff,Ff,Ff,Ff,Ff] rfl rfl (any_of HT_.out (by kernel_rfl)) (fun _ _ _ h => h) (Or.inl ⟨by rfl, ?_⟩) ?_ ?_
                  rotate_left
                  ·
                   intro w'
                   go_simp
                   with_reducible rfl
                  rotate_left
                  ·
                   simp only [Act.put, List.setIfInBounds_toArray, List.set_cons_zero, List.set_cons_succ, i64_w, i32_w]
                   rfl
                  refine pure_ (i := 16) (N := some 96) (v := ?_) (a' := ?_) #[Tt,Tt,Tt,Tt,Tt,Tt,Tt,Tt,Tt,Tt,Tt,Tt,Ff,Tt,Tt,Tt,Tt,Ff,Ff,Ff,Ff,Ff,Ff,Ff] rfl rfl (any_of HT_.out (by kernel_rfl)) (fun _ _ _ h => h) (Or.inl ⟨by rfl, ?_⟩) ?_ ?_
                  rotate_left
                  ·
                   intro w'
                   go_simp
                   with_reducible rfl
                  rotate_left
                  ·
                   simp only [Act.put, List.setIfInBounds_toArray, List.set_cons_zero, List.set_cons_succ, i64_w, i32_w]
                   rfl
                  refine pure_ (i := 17) (N := some 97) (v := ?_) (a' := ?_) #[Tt,Tt,Tt,Tt,Tt,Tt,Tt,Tt,Tt,Tt,Tt,Tt,Ff,Tt,Tt,Tt,Tt,Tt,Ff,Ff,Ff,Ff,Ff,Ff] rfl rfl (any_of HT_.out (by kernel_rfl)) (fun _ _ _ h => h) (Or.inl ⟨by rfl, ?_⟩) ?_ ?_
                  rotate_left
                  ·
                   intro w'
                   go_simp
                   with_reducible rfl
                  rotate_left
                  ·
                   simp only [Act.put, List.setIfInBounds_toArray, List.set_cons_zero, List.set_cons_succ, i64_w, i32_w]
                   rfl
                  refine pure_ (i := 18) (N := some 98) (v := ?_) (a' := ?_) #[Tt,Tt,Tt,Tt,Tt,Tt,Tt,Tt,Tt,Tt,Tt,Tt,Ff,Tt,Tt,Tt,Tt,Tt,Tt,Ff,Ff,Ff,Ff,Ff] rfl rfl (any_of HT_.out (by kernel_rfl)) (fun _ _ _ h => h) (Or.inl ⟨by rfl, ?_⟩) ?_ ?_
                  rotate_left
                  ·
                   intro w'
                   go_simp
                   with_reducible rfl
                  rotate_left
                  ·
                   simp only [Act.put, List.setIfInBounds_toArray, List.set_cons_zero, List.set_cons_succ, i64_w, i32_w]
                   rfl
                  refine pure_ (i := 19) (N := some 99) (v := ?_) (a' := ?_) #[Tt,Tt,Tt,Tt,Tt,Tt,Tt,Tt,Tt,Tt,Tt,Tt,Ff,Tt,Tt,Tt,Tt,Tt,Tt,Tt,Ff,Ff,Ff,Ff] rfl rfl (any_of HT_.out (by kernel_rfl)) (fun _ _ _ h => h) (Or.inl ⟨by rfl, ?_⟩) ?_ ?_
                  rotate_left
                  ·
                   intro w'
                   go_simp
                   with_reducible rfl
                  rotate_left
                  ·
                   simp only [Act.put, List.setIfInBounds_toArray, List.set_cons_zero, List.set_cons_succ, i64_w, i32_w]
                   rfl
                  refine pure_ (i := 20) (N := some 100) (v := ?_) (a' := ?_) #[Tt,Tt,Tt,Tt,Tt,Tt,Tt,Tt,Tt,Tt,Tt,Tt,Ff,Tt,Tt,Tt,Tt,Tt,Tt,Tt,Tt,Ff,Ff,Ff] rfl rfl (any_of HT_.out (by kernel_rfl)) (fun _ _ _ h => h) (Or.inl ⟨by rfl, ?_⟩) ?_ ?_
                  rotate_left
                  ·
                   intro w'
                   go_simp
                   with_reducible rfl
                  rotate_left
                  ·
                   simp only [Act.put, List.setIfInBounds_toArray, List.set_cons_zero, List.set_cons_succ, i64_w, i32_w]
                   rfl
                  refine take_ (i := 12) (N := some 92) (v := ?_) (a' := ?_) #[Tt,Tt,Tt,Tt,Tt,Tt,Tt,Tt,Tt,Tt,Tt,Tt,Tt,Tt,Tt,Tt,Tt,Tt,Tt,Tt,Tt,Ff,Ff,Ff] rfl rfl (take_ofW HT_.out HW_.out (by kernel_rfl)) (fun _ _ _ h => h) (Or.inl ⟨by rfl, ?_⟩) hHeld ?_ ?_
                  rotate_left
                  ·
                   rintro w' ⟨s0, s1, s2, s3, s4, s5, s6, s7, s8, s9, s10, s11, s12, s13, s14, s15, s16, s17, s18, s19⟩
                   go_simp
                   with_reducible rfl
                  rotate_left
                  ·
                   simp only [Act.put, List.setIfInBounds_toArray, List.set_cons_zero, List.set_cons_succ, i64_w, i32_w]
                   rfl
                  refine one_ (i := 21) (N := some 101) #[Tt,Tt,Tt,Tt,Tt,Tt,Tt,Tt,Tt,Tt,Tt,Tt,Tt,Tt,Tt,Tt,Tt,Tt,Tt,Tt,Tt,Tt,Ff,Ff] rfl rfl (one_of HT_.out (by kernel_rfl)) (by decide) (fun K hK => ?_)
                  refine goes_ Try.func12 (by kernel_rfl) rfl #[.bool (!(decide ((wrap64 ((wrap64 (x7_1 + (wrap64 ((rd_T33 l1 x11_1).f0)))) - x8_14)) ≥ (wrap64 (a0)))))] (by rfl) rfl rfl (by (try simp only [List.map_toArray, List.map_cons, List.map_nil]); first | done | rfl | (simp only [List.length_drop, List.length_take]; rfl)) ?_
                  with_reducible refine (ladderbacklaw08_on.calls (!(decide ((wrap64 ((wrap64 (x7_1 + (wrap64 ((rd_T33 l1 x11_1).f0)))) - x8_14)) ≥ (wrap64 (a0))))) t155 _ A63.out).mono ?_
                  rintro e w' ⟨rfl, ⟨nd, rfl⟩⟩
                  refine ⟨_, rfl, ?_⟩
                  refine hK.out _ _ ⟨(blk_cell BK124.out 0).trans rfl, (blk_cell BK124.out 1).trans rfl, (blk_cell BK124.out 2).trans rfl, (blk_cell BK124.out 3).trans rfl, (blk_cell BK124.out 4).trans rfl, (blk_cell BK124.out 5).trans rfl, (blk_cell BK124.out 6).trans rfl, (blk_cell BK124.out 7).trans rfl, (blk_cell BK124.out 8).trans rfl, (blk_cell BK124.out 9).trans rfl, (blk_cell BK125.out 0).trans rfl, (blk_cell BK125.out 1).trans rfl, (blk_cell BK125.out 2).trans rfl, (blk_cell BK125.out 3).trans rfl, (blk_cell BK125.out 4).trans rfl, (blk_cell BK125.out 5).trans rfl, (blk_cell BK125.out 6).trans rfl, (blk_cell BK125.out 7).trans rfl, (blk_cell BK125.out 8).trans rfl, (blk_cell BK125.out 9).trans rfl⟩ (fun hHeld => ?_)
                  clear hK K
                  refine norm_ (a' := ?_) ?_ ?_
                  rotate_left
                  ·
                   show Act.put _ (some 101) _ = _
                   simp only [Act.put, List.setIfInBounds_toArray, List.set_cons_zero, List.set_cons_succ, i64_w, i32_w]
                   rfl
                  refine pure_ (i := 22) (N := some 102) (v := ?_) (a' := ?_) #[Tt,Tt,Tt,Tt,Tt,Tt,Tt,Tt,Tt,Tt,Tt,Tt,Tt,Tt,Tt,Tt,Tt,Tt,Tt,Tt,Tt,Tt,Tt,Ff] rfl rfl (any_of HT_.out (by kernel_rfl)) (fun _ _ _ h => h) (Or.inl ⟨by rfl, ?_⟩) ?_ ?_
                  rotate_left
                  ·
                   intro w'
                   go_simp
                   with_reducible rfl
                  rotate_left
                  ·
                   simp only [Act.put, List.setIfInBounds_toArray, List.set_cons_zero, List.set_cons_succ, i64_w, i32_w]
                   rfl
                  refine pure_ (i := 23) (N := some 103) (v := ?_) (a' := ?_) #[Tt,Tt,Tt,Tt,Tt,Tt,Tt,Tt,Tt,Tt,Tt,Tt,Tt,Tt,Tt,Tt,Tt,Tt,Tt,Tt,Tt,Tt,Tt,Tt] rfl rfl (any_of HT_.out (by kernel_rfl)) (fun _ _ _ h => h) (Or.inl ⟨by rfl, ?_⟩) ?_ ?_
                  rotate_left
                  ·
                   intro w'
                   go_simp
                   with_reducible rfl
                  rotate_left
                  ·
                   simp only [Act.put, List.setIfInBounds_toArray, List.set_cons_zero, List.set_cons_succ, i64_w, i32_w]
                   rfl
                  refine done_ (done_of HT_.out (by kernel_rfl)) ?_
                  try go_wp2
                  go_roundg kj18
                  case measure => have := HK1.out; have := HJ12.out; have := HJ14.out; have := HJ18.out; omega
                  case rel => exact ⟨((wrap64 (x7_1 + (wrap64 ((rd_T33 l1 x11_1).f0))))), (x8_14), (false), (true), (wrap64 (x11_1 + 1)), (t132), (t133), (t134), (t135), (t136), (t137), (t138), (t139), (t140), (t141), (t142), (t143), (t144), (t145), (t146), (t147), (t148), (t149), (t150), (t151), (by first | rfl | (simp; done) | (simp [*]; done)), (by first | rfl | (simp; done) | (simp [*]; done)), (by first | rfl | (simp; done) | (simp [*]; done)), (by first | rfl | (simp; done) | (simp [*]; done)), (by first | rfl | (simp; done) | (simp [*]; done)), H', ⟨by have := HK1.out; have := HJ12.out; have := HJ14.out; have := HJ18.out; omega⟩, ⟨by (with_reducible repeat (first | refine blk_drewN ?_ _ | refine blk_drew ?_ | refine blk_alloc ?_ _)); exact BK124.out⟩, ⟨by (with_reducible repeat (first | refine blk_drewN ?_ _ | refine blk_drew ?_ | refine blk_alloc ?_ _)); exact BK125.out⟩, ⟨by repeat (first | (with_reducible first | exact HB.out | apply below_alloc | apply pw_below_drewN | apply below_drew1 | refine below_set ?_ GE124.out | refine below_set ?_ GE125.out) | exact HB.out)⟩⟩
                 ·
                  rw [if_neg c64] at H
                  have c64b0 : (t144 == t155) = false := beq_eq_false_iff_ne.mpr c64
                  have c64b1 : (t144 != t155) = true := bne_iff_ne.mpr c64
                  exact absurd (Option.some.inj H) (by rw [HRT.out]; decide)
                ·
                 replace c62 := Bool.eq_false_iff.mpr c62
                 subst c62
                 have H1 : ((ladderbacklaw08_on.f false).bind fun t156 => (if t144 = t156 then (ladderbacklaw08_TimerDelays.l0 kj18 a0 l1 (wrap64 (x7_1 + (wrap64 ((rd_T33 l1 x11_1).f0)))) x8_14 false false (wrap64 (x11_1 + 1)) t132 t133 t134 t135 t136 t137 t138 t139 t140 t141 t142 t143 t144 t145 t146 t147 t148 t149 t150 t151) else (some false))) = some r := by rw [if_neg (show ¬ (false = true) by decide)] at H; exact H
                 clear H
                 have H := H1
                 clear H1
                 replace H := Option.bind_eq_some_iff.mp H
                 obtain ⟨t156, A940, H⟩ := H
                 replace H : (if t144 = t156 then (ladderbacklaw08_TimerDelays.l0 kj18 a0 l1 (wrap64 (x7_1 + (wrap64 ((rd_T33 l1 x11_1).f0)))) x8_14 false false (wrap64 (x11_1 + 1)) t132 t133 t134 t135 t136 t137 t138 t139 t140 t141 t142 t143 t144 t145 t146 t147 t148 t149 t150 t151) else (some false)) = some r := H
                 have A94 := Aside0.mk A940
                 clear A940
                 by_cases c95 : t144 = t156
                 ·
                  rw [if_pos c95] at H
                  have c95b0 : (t144 == t156) = true := beq_iff_eq.mpr c95
                  have c95b1 : (t144 != t156) = false := bne_eq_false_iff_eq.mpr c95
                  clear c95
                  have H' := Aside0.mk H
                  clear H
                  try go_wp2_with (first | ((with_reducible refine gate_callee (f := 12) rfl ?_); refine goesL_ (some 61) rfl rfl Try.func12 (by kernel_rfl) rfl #[.bool false] rfl (by (try simp only [List.map_toArray, List.map_cons, List.map_nil]); first | done | rfl | (simp only [List.length_drop, List.length_take]; rfl)) ?_; (with_reducible refine (ladderbacklaw08_on.calls false t130 _ A21.out).mono ?_); rintro e w' ⟨rfl, ⟨nd, rfl⟩⟩; refine ⟨_, rfl, ?_⟩; (try (rw [drewN_self wc]; generalize hq_ : World.drewN wc _ = wc; have n0_ : Aside0 (wc.heap[gb124]? = some (.cells #[.int .i64 x125000_1, .int .i64 x125001_1, .int .i64 x125002_1, .int .i64 x125003_1, .int .i64 x125004_1, .int .i64 x125005_1, .int .i64 x125006_1, .int .i64 x125007_1, .int .i64 x125008_1, .int .i64 x125009_1] 26 (0, 0))) := ⟨by rw [← hq_]; exact (by (with_reducible repeat (first | refine blk_drewN ?_ _ | refine blk_drew ?_ | refine blk_alloc ?_ _)); exact BK124.out)⟩; have n1_ : Aside0 (wc.heap[gb125]? = some (.cells #[.int .i64 x126000_1, .int .i64 x126001_1, .int .i64 x126002_1, .int .i64 x126003_1, .int .i64 x126004_1, .int .i64 x126005_1, .int .i64 x126006_1, .int .i64 x126007_1, .int .i64 x126008_1, .int .i64 x126009_1] 26 (0, 0))) := ⟨by rw [← hq_]; exact (by (with_reducible repeat (first | refine blk_drewN ?_ _ | refine blk_drew ?_ | refine blk_alloc ?_ _)); exact BK125.out)⟩; have n2_ : Aside0 (Below w.heap.size w wc) := ⟨by rw [← hq_]; exact (by repeat (first | (with_reducible first | exact HB.out | apply below_alloc | apply pw_below_drewN | apply below_drew1 | refine below_set ?_ GE124.out | refine below_set ?_ GE125.out) | exact HB.out))⟩; clear BK124 BK125 HB hq_; have BK124 := n0_; have BK125 := n1_; have HB := n2_; clear n0_ n1_ n2_)); have hnb96 := NB124_125.out; have hnc96 := NB125_124.out; have hcz97_0 : wc.cell? ⟨gb124, 0, none⟩ = some (.int .i64 x125000_1) := (blk_cell BK124.out 0).trans rfl; have hcz97_1 : wc.cell? ⟨gb124, 1, none⟩ = some (.int .i64 x125001_1) := (blk_cell BK124.out 1).trans rfl; have hcz97_2 : wc.cell? ⟨gb124, 2, none⟩ = some (.int .i64 x125002_1) := (blk_cell BK124.out 2).trans rfl; have hcz97_3 : wc.cell? ⟨gb124, 3, none⟩ = some (.int .i64 x125003_1) := (blk_cell BK124.out 3).trans rfl; have hcz97_4 : wc.cell? ⟨gb124, 4, none⟩ = some (.int .i64 x125004_1) := (blk_cell BK124.out 4).trans rfl; have hcz97_5 : wc.cell? ⟨gb124, 5, none⟩ = some (.int .i64 x125005_1) := (blk_cell BK124.out 5).trans rfl; have hcz97_6 : wc.cell? ⟨gb124, 6, none⟩ = some (.int .i64 x125006_1) := (blk_cell BK124.out 6).trans rfl; have hcz97_7 : wc.cell? ⟨gb124, 7, none⟩ = some (.int .i64 x125007_1) := (blk_cell BK124.out 7).trans rfl; have hcz97_8 : wc.cell? ⟨gb124, 8, none⟩ = some (.int .i64 x125008_1) := (blk_cell BK124.out 8).trans rfl; have hcz97_9 : wc.cell? ⟨gb124, 9, none⟩ = some (.int .i64 x125009_1) := (blk_cell BK124.out 9).trans rfl; have hfz97_0 := blk_frozen BK124.out 0; have hfz97_1 := blk_frozen BK124.out 1; have hfz97_2 := blk_frozen BK124.out 2; have hfz97_3 := blk_frozen BK124.out 3; have hfz97_4 := blk_frozen BK124.out 4; have hfz97_5 := blk_frozen BK124.out 5; have hfz97_6 := blk_frozen BK124.out 6; have hfz97_7 := blk_frozen BK124.out 7; have hfz97_8 := blk_frozen BK124.out 8; have hfz97_9 := blk_frozen BK124.out 9) | ((with_reducible refine gate_callee (f := 12) rfl ?_); refine goesL_ (some 65) rfl rfl Try.func12 (by kernel_rfl) rfl #[.bool false] rfl (by (try simp only [List.map_toArray, List.map_cons, List.map_nil]); first | done | rfl | (simp only [List.length_drop, List.length_take]; rfl)) ?_; (with_reducible refine (ladderbacklaw08_on.calls false t131 _ A22.out).mono ?_); rintro e w' ⟨rfl, ⟨nd, rfl⟩⟩; refine ⟨_, rfl, ?_⟩; have hcz98_0 : wc.cell? ⟨gb125, 0, none⟩ = some (.int .i64 x126000_1) := (blk_cell BK125.out 0).trans rfl; have hcz98_1 : wc.cell? ⟨gb125, 1, none⟩ = some (.int .i64 x126001_1) := (blk_cell BK125.out 1).trans rfl; have hcz98_2 : wc.cell? ⟨gb125, 2, none⟩ = some (.int .i64 x126002_1) := (blk_cell BK125.out 2).trans rfl; have hcz98_3 : wc.cell? ⟨gb125, 3, none⟩ = some (.int .i64 x126003_1) := (blk_cell BK125.out 3).trans rfl; have hcz98_4 : wc.cell? ⟨gb125, 4, none⟩ = some (.int .i64 x126004_1) := (blk_cell BK125.out 4).trans rfl; have hcz98_5 : wc.cell? ⟨gb125, 5, none⟩ = some (.int .i64 x126005_1) := (blk_cell BK125.out 5).trans rfl; have hcz98_6 : wc.cell? ⟨gb125, 6, none⟩ = some (.int .i64 x126006_1) := (blk_cell BK125.out 6).trans rfl; have hcz98_7 : wc.cell? ⟨gb125, 7, none⟩ = some (.int .i64 x126007_1) := (blk_cell BK125.out 7).trans rfl; have hcz98_8 : wc.cell? ⟨gb125, 8, none⟩ = some (.int .i64 x126008_1) := (blk_cell BK125.out 8).trans rfl; have hcz98_9 : wc.cell? ⟨gb125, 9, none⟩ = some (.int .i64 x126009_1) := (blk_cell BK125.out 9).trans rfl; have hfz98_0 := blk_frozen BK125.out 0; have hfz98_1 := blk_frozen BK125.out 1; have hfz98_2 := blk_frozen BK125.out 2; have hfz98_3 := blk_frozen BK125.out 3; have hfz98_4 := blk_frozen BK125.out 4; have hfz98_5 := blk_frozen BK125.out 5; have hfz98_6 := blk_frozen BK125.out 6; have hfz98_7 := blk_frozen BK125.out 7; have hfz98_8 := blk_frozen BK125.out 8; have hfz98_9 := blk_frozen BK125.out 9))
                  have n0_ : Aside0 (((wc.setCell ⟨gb124, 0, none⟩ (.int .i64 t130)).setCell ⟨gb125, 0, none⟩ (.int .i64 t131)).heap[gb124]? = some (.cells #[.int .i64 t130, .int .i64 x125001_1, .int .i64 x125002_1, .int .i64 x125003_1, .int .i64 x125004_1, .int .i64 x125005_1, .int .i64 x125006_1, .int .i64 x125007_1, .int .i64 x125008_1, .int .i64 x125009_1] 26 (0, 0))) := ⟨by (with_reducible repeat (first | refine blk_drewN ?_ _ | refine blk_drew ?_ | refine blk_alloc ?_ _)); refine blk_far ?_ NB124_125.out _; (with_reducible repeat (first | refine blk_drewN ?_ _ | refine blk_drew ?_ | refine blk_alloc ?_ _)); refine blk_put (cs := #[.int .i64 x125000_1, .int .i64 x125001_1, .int .i64 x125002_1, .int .i64 x125003_1, .int .i64 x125004_1, .int .i64 x125005_1, .int .i64 x125006_1, .int .i64 x125007_1, .int .i64 x125008_1, .int .i64 x125009_1]) ?_ 0 _ rfl; (with_reducible repeat (first | refine blk_drewN ?_ _ | refine blk_drew ?_ | refine blk_alloc ?_ _)); exact BK124.out⟩
                  have n1_ : Aside0 (((wc.setCell ⟨gb124, 0, none⟩ (.int .i64 t130)).setCell ⟨gb125, 0, none⟩ (.int .i64 t131)).heap[gb125]? = some (.cells #[.int .i64 t131, .int .i64 x126001_1, .int .i64 x126002_1, .int .i64 x126003_1, .int .i64 x126004_1, .int .i64 x126005_1, .int .i64 x126006_1, .int .i64 x126007_1, .int .i64 x126008_1, .int .i64 x126009_1] 26 (0, 0))) := ⟨by (with_reducible repeat (first | refine blk_drewN ?_ _ | refine blk_drew ?_ | refine blk_alloc ?_ _)); refine blk_put (cs := #[.int .i64 x126000_1, .int .i64 x126001_1, .int .i64 x126002_1, .int .i64 x126003_1, .int .i64 x126004_1, .int .i64 x126005_1, .int .i64 x126006_1, .int .i64 x126007_1, .int .i64 x126008_1, .int .i64 x126009_1]) ?_ 0 _ rfl; (with_reducible repeat (first | refine blk_drewN ?_ _ | refine blk_drew ?_ | refine blk_alloc ?_ _)); refine blk_far ?_ NB125_124.out _; (with_reducible repeat (first | refine blk_drewN ?_ _ | refine blk_drew ?_ | refine blk_alloc ?_ _)); exact BK125.out⟩
                  have n2_ : Aside0 (Below w.heap.size w ((wc.setCell ⟨gb124, 0, none⟩ (.int .i64 t130)).setCell ⟨gb125, 0, none⟩ (.int .i64 t131))) := ⟨by repeat (first | (with_reducible first | exact HB.out | apply below_alloc | apply pw_below_drewN | apply below_drew1 | refine below_set ?_ GE124.out | refine below_set ?_ GE125.out) | exact HB.out)⟩
                  (try clear BK124)
                  (try clear BK125)
                  (try clear HB)
                  generalize ((wc.setCell ⟨gb124, 0, none⟩ (.int .i64 t130)).setCell ⟨gb125, 0, none⟩ (.int .i64 t131)) = w99 at n0_ n1_ n2_ ⊢
                  have BK124 := n0_
                  have BK125 := n1_
                  have HB := n2_
                  clear n0_ n1_ n2_
                  (try (rw [drewN_self w99]; generalize hq_ : World.drewN w99 _ = w99; have n0_ : Aside0 (w99.heap[gb124]? = some (.cells #[.int .i64 t130, .int .i64 x125001_1, .int .i64 x125002_1, .int .i64 x125003_1, .int .i64 x125004_1, .int .i64 x125005_1, .int .i64 x125006_1, .int .i64 x125007_1, .int .i64 x125008_1, .int .i64 x125009_1] 26 (0, 0))) := ⟨by rw [← hq_]; exact (by (with_reducible repeat (first | refine blk_drewN ?_ _ | refine blk_drew ?_ | refine blk_alloc ?_ _)); exact BK124.out)⟩; have n1_ : Aside0 (w99.heap[gb125]? = some (.cells #[.int .i64 t131, .int .i64 x126001_1, .int .i64 x126002_1, .int .i64 x126003_1, .int .i64 x126004_1, .int .i64 x126005_1, .int .i64 x126006_1, .int .i64 x126007_1, .int .i64 x126008_1, .int .i64 x126009_1] 26 (0, 0))) := ⟨by rw [← hq_]; exact (by (with_reducible repeat (first | refine blk_drewN ?_ _ | refine blk_drew ?_ | refine blk_alloc ?_ _)); exact BK125.out)⟩; have n2_ : Aside0 (Below w.heap.size w w99) := ⟨by rw [← hq_]; exact (by repeat (first | (with_reducible first | exact HB.out | apply below_alloc | apply pw_below_drewN | apply below_drew1 | refine below_set ?_ GE124.out | refine below_set ?_ GE125.out) | exact HB.out))⟩; clear BK124 BK125 HB hq_; have BK124 := n0_; have BK125 := n1_; have HB := n2_; clear n0_ n1_ n2_))
                  have n0_ := Aside0.mk (blk_drew BK124.out)
                  have n1_ := Aside0.mk (blk_drew BK125.out)
                  have n2_ := Aside0.mk (below_drew1 HB.out)
                  clear BK124
                  clear BK125
                  clear HB
                  have BK124 := n0_
                  have BK125 := n1_
                  have HB := n2_
                  clear n0_ n1_ n2_
                  refine start_ (n := 8) (S := fun w' => w'.cell? ⟨gb124, 0, none⟩ = some (.int .i64 t130) ∧ w'.cell? ⟨gb124, 1, none⟩ = some (.int .i64 x125001_1) ∧ w'.cell? ⟨gb124, 2, none⟩ = some (.int .i64 x125002_1) ∧ w'.cell? ⟨gb124, 3, none⟩ = some (.int .i64 x125003_1) ∧ w'.cell? ⟨gb124, 4, none⟩ = some (.int .i64 x125004_1) ∧ w'.cell? ⟨gb124, 5, none⟩ = some (.int .i64 x125005_1) ∧ w'.cell? ⟨gb124, 6, none⟩ = some (.int .i64 x125006_1) ∧ w'.cell? ⟨gb124, 7, none⟩ = some (.int .i64 x125007_1) ∧ w'.cell? ⟨gb124, 8, none⟩ = some (.int .i64 x125008_1) ∧ w'.cell? ⟨gb124, 9, none⟩ = some (.int .i64 x125009_1) ∧ w'.cell? ⟨gb125, 0, none⟩ = some (.int .i64 t131) ∧ w'.cell? ⟨gb125, 1, none⟩ = some (.int .i64 x126001_1) ∧ w'.cell? ⟨gb125, 2, none⟩ = some (.int .i64 x126002_1) ∧ w'.cell? ⟨gb125, 3, none⟩ = some (.int .i64 x126003_1) ∧ w'.cell? ⟨gb125, 4, none⟩ = some (.int .i64 x126004_1) ∧ w'.cell? ⟨gb125, 5, none⟩ = some (.int .i64 x126005_1) ∧ w'.cell? ⟨gb125, 6, none⟩ = some (.int .i64 x126006_1) ∧ w'.cell? ⟨gb125, 7, none⟩ = some (.int .i64 x126007_1) ∧ w'.cell? ⟨gb125, 8, none⟩ = some (.int .i64 x126008_1) ∧ w'.cell? ⟨gb125, 9, none⟩ = some (.int .i64 x126009_1)) (ds := [6, 7]) #[Ff,Ff,Ff,Ff,Ff,Ff,Ff,Ff] (by kernel_rfl) rfl rfl ⟨(blk_cell BK124.out 0).trans rfl, (blk_cell BK124.out 1).trans rfl, (blk_cell BK124.out 2).trans rfl, (blk_cell BK124.out 3).trans rfl, (blk_cell BK124.out 4).trans rfl, (blk_cell BK124.out 5).trans rfl, (blk_cell BK124.out 6).trans rfl, (blk_cell BK124.out 7).trans rfl, (blk_cell BK124.out 8).trans rfl, (blk_cell BK124.out 9).trans rfl, (blk_cell BK125.out 0).trans rfl, (blk_cell BK125.out 1).trans rfl, (blk_cell BK125.out 2).trans rfl, (blk_cell BK125.out 3).trans rfl, (blk_cell BK125.out 4).trans rfl, (blk_cell BK125.out 5).trans rfl, (blk_cell BK125.out 6).trans rfl, (blk_cell BK125.out 7).trans rfl, (blk_cell BK125.out 8).trans rfl, (blk_cell BK125.out 9).trans rfl⟩ (fun hHeld => ?_); refine with_tabW ladderbacklaw08_TimerDelays.tab16 ladderbacklaw08_TimerDelays.bits16 (fun HT_ HW_ => ?_)
                  generalize w99.drew = w100 at BK124 BK125 HB hHeld ⊢
                  refine pure_ (i := 1) (N := some 69) (v := ?_) (a' := ?_) #[Ff,Tt,Ff,Ff,Ff,Ff,Ff,Ff] rfl rfl (any_of HT_.out (by kernel_rfl)) (fun _ _ _ h => h) (Or.inl ⟨by rfl, ?_⟩) ?_ ?_
                  rotate_left
                  ·
                   intro w'
                   go_simp
                   with_reducible rfl
                  rotate_left
                  ·
                   simp only [Act.put, List.setIfInBounds_toArray, List.set_cons_zero, List.set_cons_succ, i64_w, i32_w]
                   rfl
                  refine pure_ (i := 4) (N := some 72) (v := ?_) (a' := ?_) #[Ff,Tt,Ff,Ff,Tt,Ff,Ff,Ff] rfl rfl (any_of HT_.out (by kernel_rfl)) (fun _ _ _ h => h) (Or.inl ⟨by rfl, ?_⟩) ?_ ?_
                  rotate_left
                  ·
                   intro w'
                   go_simp
                   with_reducible rfl
                  rotate_left
                  ·
                   simp only [Act.put, List.setIfInBounds_toArray, List.set_cons_zero, List.set_cons_succ, i64_w, i32_w]
                   rfl
                  refine take_ (i := 0) (N := some 68) (v := ?_) (a' := ?_) #[Tt,Tt,Ff,Ff,Tt,Ff,Ff,Ff] rfl rfl (take_ofW HT_.out HW_.out (by kernel_rfl)) (fun _ _ _ h => h) (Or.inl ⟨by rfl, ?_⟩) hHeld ?_ ?_
                  rotate_left
                  ·
                   rintro w' ⟨s0, s1, s2, s3, s4, s5, s6, s7, s8, s9, s10, s11, s12, s13, s14, s15, s16, s17, s18, s19⟩
                   go_simp
                   with_reducible rfl
                  rotate_left
                  ·
                   simp only [Act.put, List.setIfInBounds_toArray, List.set_cons_zero, List.set_cons_succ, i64_w, i32_w]
                   rfl
                  refine take_ (i := 3) (N := some 71) (v := ?_) (a' := ?_) #[Tt,Tt,Ff,Tt,Tt,Ff,Ff,Ff] rfl rfl (take_ofW HT_.out HW_.out (by kernel_rfl)) (fun _ _ _ h => h) (Or.inl ⟨by rfl, ?_⟩) hHeld ?_ ?_
                  rotate_left
                  ·
                   rintro w' ⟨s0, s1, s2, s3, s4, s5, s6, s7, s8, s9, s10, s11, s12, s13, s14, s15, s16, s17, s18, s19⟩
                   go_simp
                   with_reducible rfl
                  rotate_left
                  ·
                   simp only [Act.put, List.setIfInBounds_toArray, List.set_cons_zero, List.set_cons_succ, i64_w, i32_w]
                   rfl
                  refine one_ (i := 2) (N := some 70) #[Tt,Tt,Tt,Tt,Tt,Ff,Ff,Ff] rfl rfl (one_of HT_.out (by kernel_rfl)) (by decide) (fun K hK => ?_)
                  refine goes_ Try.func13 (by kernel_rfl) rfl #[.int .i64 1, .agg #[.int .i64 t130, .int .i64 x125001_1, .int .i64 x125002_1, .int .i64 x125003_1, .int .i64 x125004_1, .int .i64 x125005_1, .int .i64 x125006_1, .int .i64 x125007_1, .int .i64 x125008_1, .int .i64 x125009_1], .int .i64 (wrap64 (x7_1 + (wrap64 ((rd_T33 l1 x11_1).f0))))] (by rfl) rfl rfl (by (try simp only [List.map_toArray, List.map_cons, List.map_nil]); first | done | rfl | (simp only [List.length_drop, List.length_take]; rfl)) ?_
                  with_reducible refine (timer_Step.calls 1 t130 x125001_1 x125002_1 x125003_1 x125004_1 x125005_1 x125006_1 x125007_1 x125008_1 x125009_1 (wrap64 (x7_1 + (wrap64 ((rd_T33 l1 x11_1).f0)))) t132 t133 t134 t135 t136 t137 t138 t139 t140 t141 _ A23.out).mono ?_
                  rintro e w101 ⟨rfl, hb⟩
                  refine ⟨_, rfl, ?_⟩
                  have n0_ := Aside0.mk (blk_below (g := gb124) (o := .cells #[.int .i64 t130, .int .i64 x125001_1, .int .i64 x125002_1, .int .i64 x125003_1, .int .i64 x125004_1, .int .i64 x125005_1, .int .i64 x125006_1, .int .i64 x125007_1, .int .i64 x125008_1, .int .i64 x125009_1] 26 (0, 0)) (by (with_reducible repeat (first | refine blk_drewN ?_ _ | refine blk_drew ?_ | refine blk_alloc ?_ _)); exact BK124.out) hb)
                  have n1_ := Aside0.mk (blk_below (g := gb125) (o := .cells #[.int .i64 t131, .int .i64 x126001_1, .int .i64 x126002_1, .int .i64 x126003_1, .int .i64 x126004_1, .int .i64 x126005_1, .int .i64 x126006_1, .int .i64 x126007_1, .int .i64 x126008_1, .int .i64 x126009_1] 26 (0, 0)) (by (with_reducible repeat (first | refine blk_drewN ?_ _ | refine blk_drew ?_ | refine blk_alloc ?_ _)); exact BK125.out) hb)
                  have n2_ := Aside0.mk (below_step (by repeat (first | (with_reducible first | exact HB.out | apply below_alloc | apply pw_below_drewN | apply below_drew1 | refine below_set ?_ GE124.out | refine below_set ?_ GE125.out) | exact HB.out)) hb)
                  clear BK124
                  clear BK125
                  clear HB
                  have BK124 := n0_
                  have BK125 := n1_
                  have HB := n2_
                  clear n0_ n1_ n2_
                  (try clear hb)
                  (try clear hb2)
                  (try clear hk)
                  (try clear hi)
                  refine hK.out _ _ ⟨(blk_cell BK124.out 0).trans rfl, (blk_cell BK124.out 1).trans rfl, (blk_cell BK124.out 2).trans rfl, (blk_cell BK124.out 3).trans rfl, (blk_cell BK124.out 4).trans rfl, (blk_cell BK124.out 5).trans rfl, (blk_cell BK124.out 6).trans rfl, (blk_cell BK124.out 7).trans rfl, (blk_cell BK124.out 8).trans rfl, (blk_cell BK124.out 9).trans rfl, (blk_cell BK125.out 0).trans rfl, (blk_cell BK125.out 1).trans rfl, (blk_cell BK125.out 2).trans rfl, (blk_cell BK125.out 3).trans rfl, (blk_cell BK125.out 4).trans rfl, (blk_cell BK125.out 5).trans rfl, (blk_cell BK125.out 6).trans rfl, (blk_cell BK125.out 7).trans rfl, (blk_cell BK125.out 8).trans rfl, (blk_cell BK125.out 9).trans rfl⟩ (fun hHeld => ?_)
                  clear hK K
                  refine norm_ (a' := ?_) ?_ ?_
                  rotate_left
                  ·
                   show Act.put _ (some 70) _ = _
                   simp only [Act.put, List.setIfInBounds_toArray, List.set_cons_zero, List.set_cons_succ, i64_w, i32_w]
                   rfl
                  refine one_ (i := 5) (N := some 73) #[Tt,Tt,Tt,Tt,Tt,Tt,Ff,Ff] rfl rfl (one_of HT_.out (by kernel_rfl)) (by decide) (fun K hK => ?_)
                  refine goes_ Try.func13 (by kernel_rfl) rfl #[.int .i64 2, .agg #[.int .i64 t131, .int .i64 x126001_1, .int .i64 x126002_1, .int .i64 x126003_1, .int .i64 x126004_1, .int .i64 x126005_1, .int .i64 x126006_1, .int .i64 x126007_1, .int .i64 x126008_1, .int .i64 x126009_1], .int .i64 (wrap64 (x7_1 + (wrap64 ((rd_T33 l1 x11_1).f0))))] (by rfl) rfl rfl (by (try simp only [List.map_toArray, List.map_cons, List.map_nil]); first | done | rfl | (simp only [List.length_drop, List.length_take]; rfl)) ?_
                  with_reducible refine (timer_Step.calls 2 t131 x126001_1 x126002_1 x126003_1 x126004_1 x126005_1 x126006_1 x126007_1 x126008_1 x126009_1 (wrap64 (x7_1 + (wrap64 ((rd_T33 l1 x11_1).f0)))) t142 t143 t144 t145 t146 t147 t148 t149 t150 t151 _ A24.out).mono ?_
                  rintro e w102 ⟨rfl, hb⟩
                  refine ⟨_, rfl, ?_⟩
                  have n0_ := Aside0.mk (blk_below (g := gb124) (o := .cells #[.int .i64 t130, .int .i64 x125001_1, .int .i64 x125002_1, .int .i64 x125003_1, .int .i64 x125004_1, .int .i64 x125005_1, .int .i64 x125006_1, .int .i64 x125007_1, .int .i64 x125008_1, .int .i64 x125009_1] 26 (0, 0)) (by (with_reducible repeat (first | refine blk_drewN ?_ _ | refine blk_drew ?_ | refine blk_alloc ?_ _)); exact BK124.out) hb)
                  have n1_ := Aside0.mk (blk_below (g := gb125) (o := .cells #[.int .i64 t131, .int .i64 x126001_1, .int .i64 x126002_1, .int .i64 x126003_1, .int .i64 x126004_1, .int .i64 x126005_1, .int .i64 x126006_1, .int .i64 x126007_1, .int .i64 x126008_1, .int .i64 x126009_1] 26 (0, 0)) (by (with_reducible repeat (first | refine blk_drewN ?_ _ | refine blk_drew ?_ | refine blk_alloc ?_ _)); exact BK125.out) hb)
                  have n2_ := Aside0.mk (below_step (by repeat (first | (with_reducible first | exact HB.out | apply below_alloc | apply pw_below_drewN | apply below_drew1 | refine below_set ?_ GE124.out | refine below_set ?_ GE125.out) | exact HB.out)) hb)
                  clear BK124
                  clear BK125
                  clear HB
                  have BK124 := n0_
                  have BK125 := n1_
                  have HB := n2_
                  clear n0_ n1_ n2_
                  (try clear hb)
                  (try clear hb2)
                  (try clear hk)
                  (try clear hi)
                  refine hK.out _ _ ⟨(blk_cell BK124.out 0).trans rfl, (blk_cell BK124.out 1).trans rfl, (blk_cell BK124.out 2).trans rfl, (blk_cell BK124.out 3).trans rfl, (blk_cell BK124.out 4).trans rfl, (blk_cell BK124.out 5).trans rfl, (blk_cell BK124.out 6).trans rfl, (blk_cell BK124.out 7).trans rfl, (blk_cell BK124.out 8).trans rfl, (blk_cell BK124.out 9).trans rfl, (blk_cell BK125.out 0).trans rfl, (blk_cell BK125.out 1).trans rfl, (blk_cell BK125.out 2).trans rfl, (blk_cell BK125.out 3).trans rfl, (blk_cell BK125.out 4).trans rfl, (blk_cell BK125.out 5).trans rfl, (blk_cell BK125.out 6).trans rfl, (blk_cell BK125.out 7).trans rfl, (blk_cell BK125.out 8).trans rfl, (blk_cell BK125.out 9).trans rfl⟩ (fun hHeld => ?_)
                  clear hK K
                  refine norm_ (a' := ?_) ?_ ?_
                  rotate_left
                  ·
                   show Act.put _ (some 73) _ = _
                   simp only [Act.put, List.setIfInBounds_toArray, List.set_cons_zero, List.set_cons_succ, i64_w, i32_w]
                   rfl
                  refine last_ (i := 6) (N := none) #[Tt,Tt,Tt,Tt,Tt,Tt,Tt,Ff] rfl rfl (one_of HT_.out (by kernel_rfl)) (by decide) (fun K hK => ?_)
                  have hs103 : w102.cell? ⟨gb124, 0, none⟩ = some (.int .i64 t130) := (blk_cell BK124.out 0).trans rfl
                  have hfs103 := blk_frozen BK124.out 0
                  have hns103_1 := NB125_124.out
                  have hms103_1 := NB124_125.out
                  have hs104 : w102.cell? ⟨gb124, 1, none⟩ = some (.int .i64 x125001_1) := (blk_cell BK124.out 1).trans rfl
                  have hfs104 := blk_frozen BK124.out 1
                  have hns104_1 := NB125_124.out
                  have hms104_1 := NB124_125.out
                  have hs105 : w102.cell? ⟨gb124, 2, none⟩ = some (.int .i64 x125002_1) := (blk_cell BK124.out 2).trans rfl
                  have hfs105 := blk_frozen BK124.out 2
                  have hns105_1 := NB125_124.out
                  have hms105_1 := NB124_125.out
                  have hs106 : w102.cell? ⟨gb124, 3, none⟩ = some (.int .i64 x125003_1) := (blk_cell BK124.out 3).trans rfl
                  have hfs106 := blk_frozen BK124.out 3
                  have hns106_1 := NB125_124.out
                  have hms106_1 := NB124_125.out
                  have hs107 : w102.cell? ⟨gb124, 4, none⟩ = some (.int .i64 x125004_1) := (blk_cell BK124.out 4).trans rfl
                  have hfs107 := blk_frozen BK124.out 4
                  have hns107_1 := NB125_124.out
                  have hms107_1 := NB124_125.out
                  have hs108 : w102.cell? ⟨gb124, 5, none⟩ = some (.int .i64 x125005_1) := (blk_cell BK124.out 5).trans rfl
                  have hfs108 := blk_frozen BK124.out 5
                  have hns108_1 := NB125_124.out
                  have hms108_1 := NB124_125.out
                  have hs109 : w102.cell? ⟨gb124, 6, none⟩ = some (.int .i64 x125006_1) := (blk_cell BK124.out 6).trans rfl
                  have hfs109 := blk_frozen BK124.out 6
                  have hns109_1 := NB125_124.out
                  have hms109_1 := NB124_125.out
                  have hs110 : w102.cell? ⟨gb124, 7, none⟩ = some (.int .i64 x125007_1) := (blk_cell BK124.out 7).trans rfl
                  have hfs110 := blk_frozen BK124.out 7
                  have hns110_1 := NB125_124.out
                  have hms110_1 := NB124_125.out
                  have hs111 : w102.cell? ⟨gb124, 8, none⟩ = some (.int .i64 x125008_1) := (blk_cell BK124.out 8).trans rfl
                  have hfs111 := blk_frozen BK124.out 8
                  have hns111_1 := NB125_124.out
                  have hms111_1 := NB124_125.out
                  have hs112 : w102.cell? ⟨gb124, 9, none⟩ = some (.int .i64 x125009_1) := (blk_cell BK124.out 9).trans rfl
                  have hfs112 := blk_frozen BK124.out 9
                  have hns112_1 := NB125_124.out
                  have hms112_1 := NB124_125.out
                  with_reducible refine skip_ (w1 := ?_) ?_ ?_ ?_ ?_
                  rotate_left
                  · rfl
                  · rfl
                  ·
                   first | (exact store10_ rfl rfl rfl (by repeat' (first | (with_reducible exact Aside0.out (by assumption)) | refine blk_far ?_ (Aside0.out (by assumption)) _))) | (go_simp; rfl)
                  refine hK.out _ _ ?_
                  clear hK K
                  refine last_ (i := 7) (N := none) #[Tt,Tt,Tt,Tt,Tt,Tt,Tt,Tt] rfl rfl (one_of HT_.out (by kernel_rfl)) (by decide) (fun K hK => ?_)
                  have hs113 : w102.cell? ⟨gb125, 0, none⟩ = some (.int .i64 t131) := (blk_cell BK125.out 0).trans rfl
                  have hfs113 := blk_frozen BK125.out 0
                  have hns113_0 := NB124_125.out
                  have hms113_0 := NB125_124.out
                  have hs114 : w102.cell? ⟨gb125, 1, none⟩ = some (.int .i64 x126001_1) := (blk_cell BK125.out 1).trans rfl
                  have hfs114 := blk_frozen BK125.out 1
                  have hns114_0 := NB124_125.out
                  have hms114_0 := NB125_124.out
                  have hs115 : w102.cell? ⟨gb125, 2, none⟩ = some (.int .i64 x126002_1) := (blk_cell BK125.out 2).trans rfl
                  have hfs115 := blk_frozen BK125.out 2
                  have hns115_0 := NB124_125.out
                  have hms115_0 := NB125_124.out
                  have hs116 : w102.cell? ⟨gb125, 3, none⟩ = some (.int .i64 x126003_1) := (blk_cell BK125.out 3).trans rfl
                  have hfs116 := blk_frozen BK125.out 3
                  have hns116_0 := NB124_125.out
                  have hms116_0 := NB125_124.out
                  have hs117 : w102.cell? ⟨gb125, 4, none⟩ = some (.int .i64 x126004_1) := (blk_cell BK125.out 4).trans rfl
                  have hfs117 := blk_frozen BK125.out 4
                  have hns117_0 := NB124_125.out
                  have hms117_0 := NB125_124.out
                  have hs118 : w102.cell? ⟨gb125, 5, none⟩ = some (.int .i64 x126005_1) := (blk_cell BK125.out 5).trans rfl
                  have hfs118 := blk_frozen BK125.out 5
                  have hns118_0 := NB124_125.out
                  have hms118_0 := NB125_124.out
                  have hs119 : w102.cell? ⟨gb125, 6, none⟩ = some (.int .i64 x126006_1) := (blk_cell BK125.out 6).trans rfl
                  have hfs119 := blk_frozen BK125.out 6
                  have hns119_0 := NB124_125.out
                  have hms119_0 := NB125_124.out
                  have hs120 : w102.cell? ⟨gb125, 7, none⟩ = some (.int .i64 x126007_1) := (blk_cell BK125.out 7).trans rfl
                  have hfs120 := blk_frozen BK125.out 7
                  have hns120_0 := NB124_125.out
                  have hms120_0 := NB125_124.out
                  have hs121 : w102.cell? ⟨gb125, 8, none⟩ = some (.int .i64 x126008_1) := (blk_cell BK125.out 8).trans rfl
                  have hfs121 := blk_frozen BK125.out 8
                  have hns121_0 := NB124_125.out
                  have hms121_0 := NB125_124.out
                  have hs122 : w102.cell? ⟨gb125, 9, none⟩ = some (.int .i64 x126009_1) := (blk_cell BK125.out 9).trans rfl
                  have hfs122 := blk_frozen BK125.out 9
                  have hns122_0 := NB124_125.out
                  have hms122_0 := NB125_124.out
                  with_reducible refine skip_ (w1 := ?_) ?_ ?_ ?_ ?_
                  rotate_left
                  · rfl
                  · rfl
                  ·
                   first | (exact store10_ rfl rfl rfl (by repeat' (first | (with_reducible exact Aside0.out (by assumption)) | refine blk_far ?_ (Aside0.out (by assumption)) _))) | (go_simp; rfl)
                  refine hK.out _ _ ?_
                  clear hK K
                  refine done_ (done_of HT_.out (by kernel_rfl)) ?_
                  try go_wp2
                  have n0_ : Aside0 (((((((((((((((((((((w102.setCell ⟨gb124, 0, none⟩ (.int .i64 t132)).setCell ⟨gb124, 1, none⟩ (.int .i64 t133)).setCell ⟨gb124, 2, none⟩ (.int .i64 t134)).setCell ⟨gb124, 3, none⟩ (.int .i64 t135)).setCell ⟨gb124, 4, none⟩ (.int .i64 t136)).setCell ⟨gb124, 5, none⟩ (.int .i64 t137)).setCell ⟨gb124, 6, none⟩ (.int .i64 t138)).setCell ⟨gb124, 7, none⟩ (.int .i64 t139)).setCell ⟨gb124, 8, none⟩ (.int .i64 t140)).setCell ⟨gb124, 9, none⟩ (.int .i64 t141)).setCell ⟨gb125, 0, none⟩ (.int .i64 t142)).setCell ⟨gb125, 1, none⟩ (.int .i64 t143)).setCell ⟨gb125, 2, none⟩ (.int .i64 t144)).setCell ⟨gb125, 3, none⟩ (.int .i64 t145)).setCell ⟨gb125, 4, none⟩ (.int .i64 t146)).setCell ⟨gb125, 5, none⟩ (.int .i64 t147)).setCell ⟨gb125, 6, none⟩ (.int .i64 t148)).setCell ⟨gb125, 7, none⟩ (.int .i64 t149)).setCell ⟨gb125, 8, none⟩ (.int .i64 t150)).setCell ⟨gb125, 9, none⟩ (.int .i64 t151)).heap[gb124]? = some (.cells #[.int .i64 t132, .int .i64 t133, .int .i64 t134, .int .i64 t135, .int .i64 t136, .int .i64 t137, .int .i64 t138, .int .i64 t139, .int .i64 t140, .int .i64 t141] 26 (0, 0))) := ⟨by (with_reducible repeat (first | refine blk_drewN ?_ _ | refine blk_drew ?_ | refine blk_alloc ?_ _)); refine blk_far ?_ NB124_125.out _; (with_reducible repeat (first | refine blk_drewN ?_ _ | refine blk_drew ?_ | refine blk_alloc ?_ _)); refine blk_far ?_ NB124_125.out _; (with_reducible repeat (first | refine blk_drewN ?_ _ | refine blk_drew ?_ | refine blk_alloc ?_ _)); refine blk_far ?_ NB124_125.out _; (with_reducible repeat (first | refine blk_drewN ?_ _ | refine blk_drew ?_ | refine blk_alloc ?_ _)); refine blk_far ?_ NB124_125.out _; (with_reducible repeat (first | refine blk_drewN ?_ _ | refine blk_drew ?_ | refine blk_alloc ?_ _)); refine blk_far ?_ NB124_125.out _; (with_reducible repeat (first | refine blk_drewN ?_ _ | refine blk_drew ?_ | refine blk_alloc ?_ _)); refine blk_far ?_ NB124_125.out _; (with_reducible repeat (first | refine blk_drewN ?_ _ | refine blk_drew ?_ | refine blk_alloc ?_ _)); refine blk_far ?_ NB124_125.out _; (with_reducible repeat (first | refine blk_drewN ?_ _ | refine blk_drew ?_ | refine blk_alloc ?_ _)); refine blk_far ?_ NB124_125.out _; (with_reducible repeat (first | refine blk_drewN ?_ _ | refine blk_drew ?_ | refine blk_alloc ?_ _)); refine blk_far ?_ NB124_125.out _; (with_reducible repeat (first | refine blk_drewN ?_ _ | refine blk_drew ?_ | refine blk_alloc ?_ _)); refine blk_far ?_ NB124_125.out _; (with_reducible repeat (first | refine blk_drewN ?_ _ | refine blk_drew ?_ | refine blk_alloc ?_ _)); refine blk_put (cs := #[.int .i64 t132, .int .i64 t133, .int .i64 t134, .int .i64 t135, .int .i64 t136, .int .i64 t137, .int .i64 t138, .int .i64 t139, .int .i64 t140, .int .i64 x125009_1]) ?_ 9 _ rfl; (with_reducible repeat (first | refine blk_drewN ?_ _ | refine blk_drew ?_ | refine blk_alloc ?_ _)); refine blk_put (cs := #[.int .i64 t132, .int .i64 t133, .int .i64 t134, .int .i64 t135, .int .i64 t136, .int .i64 t137, .int .i64 t138, .int .i64 t139, .int .i64 x125008_1, .int .i64 x125009_1]) ?_ 8 _ rfl; (with_reducible repeat (first | refine blk_drewN ?_ _ | refine blk_drew ?_ | refine blk_alloc ?_ _)); refine blk_put (cs := #[.int .i64 t132, .int .i64 t133, .int .i64 t134, .int .i64 t135, .int .i64 t136, .int .i64 t137, .int .i64 t138, .int .i64 x125007_1, .int .i64 x125008_1, .int .i64 x125009_1]) ?_ 7 _ rfl; (with_reducible repeat (first | refine blk_drewN ?_ _ | refine blk_drew ?_ | refine blk_alloc ?_ _)); refine blk_put (cs := #[.int .i64 t132, .int .i64 t133, .int .i64 t134, .int .i64 t135, .int .i64 t136, .int .i64 t137, .int .i64 x125006_1, .int .i64 x125007_1, .int .i64 x125008_1, .int .i64 x125009_1]) ?_ 6 _ rfl; (with_reducible repeat (first | refine blk_drewN ?_ _ | refine blk_drew ?_ | refine blk_alloc ?_ _)); refine blk_put (cs := #[.int .i64 t132, .int .i64 t133, .int .i64 t134, .int .i64 t135, .int .i64 t136, .int .i64 x125005_1, .int .i64 x125006_1, .int .i64 x125007_1, .int .i64 x125008_1, .int .i64 x125009_1]) ?_ 5 _ rfl; (with_reducible repeat (first | refine blk_drewN ?_ _ | refine blk_drew ?_ | refine blk_alloc ?_ _)); refine blk_put (cs := #[.int .i64 t132, .int .i64 t133, .int .i64 t134, .int .i64 t135, .int .i64 x125004_1, .int .i64 x125005_1, .int .i64 x125006_1, .int .i64 x125007_1, .int .i64 x125008_1, .int .i64 x125009_1]) ?_ 4 _ rfl; (with_reducible repeat (first | refine blk_drewN ?_ _ | refine blk_drew ?_ | refine blk_alloc ?_ _)); refine blk_put (cs := #[.int .i64 t132, .int .i64 t133, .int .i64 t134, .int .i64 x125003_1, .int .i64 x125004_1, .int .i64 x125005_1, .int .i64 x125006_1, .int .i64 x125007_1, .int .i64 x125008_1, .int .i64 x125009_1]) ?_ 3 _ rfl; (with_reducible repeat (first | refine blk_drewN ?_ _ | refine blk_drew ?_ | refine blk_alloc ?_ _)); refine blk_put (cs := #[.int .i64 t132, .int .i64 t133, .int .i64 x125002_1, .int .i64 x125003_1, .int .i64 x125004_1, .int .i64 x125005_1, .int .i64 x125006_1, .int .i64 x125007_1, .int .i64 x125008_1, .int .i64 x125009_1]) ?_ 2 _ rfl; (with_reducible repeat (first | refine blk_drewN ?_ _ | refine blk_drew ?_ | refine blk_alloc ?_ _)); refine blk_put (cs := #[.int .i64 t132, .int .i64 x125001_1, .int .i64 x125002_1, .int .i64 x125003_1, .int .i64 x125004_1, .int .i64 x125005_1, .int .i64 x125006_1, .int .i64 x125007_1, .int .i64 x125008_1, .int .i64 x125009_1]) ?_ 1 _ rfl; (with_reducible repeat (first | refine blk_drewN ?_ _ | refine blk_drew ?_ | refine blk_alloc ?_ _)); refine blk_put (cs := #[.int .i64 t130, .int .i64 x125001_1, .int .i64 x125002_1, .int .i64 x125003_1, .int .i64 x125004_1, .int .i64 x125005_1, .int .i64 x125006_1, .int .i64 x125007_1, .int .i64 x125008_1, .int .i64 x125009_1]) ?_ 0 _ rfl; (with_reducible repeat (first | refine blk_drewN ?_ _ | refine blk_drew ?_ | refine blk_alloc ?_ _)); exact BK124.out⟩
                  have n1_ : Aside0 (((((((((((((((((((((w102.setCell ⟨gb124, 0, none⟩ (.int .i64 t132)).setCell ⟨gb124, 1, none⟩ (.int .i64 t133)).setCell ⟨gb124, 2, none⟩ (.int .i64 t134)).setCell ⟨gb124, 3, none⟩ (.int .i64 t135)).setCell ⟨gb124, 4, none⟩ (.int .i64 t136)).setCell ⟨gb124, 5, none⟩ (.int .i64 t137)).setCell ⟨gb124, 6, none⟩ (.int .i64 t138)).setCell ⟨gb124, 7, none⟩ (.int .i64 t139)).setCell ⟨gb124, 8, none⟩ (.int .i64 t140)).setCell ⟨gb124, 9, none⟩ (.int .i64 t141)).setCell ⟨gb125, 0, none⟩ (.int .i64 t142)).setCell ⟨gb125, 1, none⟩ (.int .i64 t143)).setCell ⟨gb125, 2, none⟩ (.int .i64 t144)).setCell ⟨gb125, 3, none⟩ (.int .i64 t145)).setCell ⟨gb125, 4, none⟩ (.int .i64 t146)).setCell ⟨gb125, 5, none⟩ (.int .i64 t147)).setCell ⟨gb125, 6, none⟩ (.int .i64 t148)).setCell ⟨gb125, 7, none⟩ (.int .i64 t149)).setCell ⟨gb125, 8, none⟩ (.int .i64 t150)).setCell ⟨gb125, 9, none⟩ (.int .i64 t151)).heap[gb125]? = some (.cells #[.int .i64 t142, .int .i64 t143, .int .i64 t144, .int .i64 t145, .int .i64 t146, .int .i64 t147, .int .i64 t148, .int .i64 t149, .int .i64 t150, .int .i64 t151] 26 (0, 0))) := ⟨by (with_reducible repeat (first | refine blk_drewN ?_ _ | refine blk_drew ?_ | refine blk_alloc ?_ _)); refine blk_put (cs := #[.int .i64 t142, .int .i64 t143, .int .i64 t144, .int .i64 t145, .int .i64 t146, .int .i64 t147, .int .i64 t148, .int .i64 t149, .int .i64 t150, .int .i64 x126009_1]) ?_ 9 _ rfl; (with_reducible repeat (first | refine blk_drewN ?_ _ | refine blk_drew ?_ | refine blk_alloc ?_ _)); refine blk_put (cs := #[.int .i64 t142, .int .i64 t143, .int .i64 t144, .int .i64 t145, .int .i64 t146, .int .i64 t147, .int .i64 t148, .int .i64 t149, .int .i64 x126008_1, .int .i64 x126009_1]) ?_ 8 _ rfl; (with_reducible repeat (first | refine blk_drewN ?_ _ | refine blk_drew ?_ | refine blk_alloc ?_ _)); refine blk_put (cs := #[.int .i64 t142, .int .i64 t143, .int .i64 t144, .int .i64 t145, .int .i64 t146, .int .i64 t147, .int .i64 t148, .int .i64 x126007_1, .int .i64 x126008_1, .int .i64 x126009_1]) ?_ 7 _ rfl; (with_reducible repeat (first | refine blk_drewN ?_ _ | refine blk_drew ?_ | refine blk_alloc ?_ _)); refine blk_put (cs := #[.int .i64 t142, .int .i64 t143, .int .i64 t144, .int .i64 t145, .int .i64 t146, .int .i64 t147, .int .i64 x126006_1, .int .i64 x126007_1, .int .i64 x126008_1, .int .i64 x126009_1]) ?_ 6 _ rfl; (with_reducible repeat (first | refine blk_drewN ?_ _ | refine blk_drew ?_ | refine blk_alloc ?_ _)); refine blk_put (cs := #[.int .i64 t142, .int .i64 t143, .int .i64 t144, .int .i64 t145, .int .i64 t146, .int .i64 x126005_1, .int .i64 x126006_1, .int .i64 x126007_1, .int .i64 x126008_1, .int .i64 x126009_1]) ?_ 5 _ rfl; (with_reducible repeat (first | refine blk_drewN ?_ _ | refine blk_drew ?_ | refine blk_alloc ?_ _)); refine blk_put (cs := #[.int .i64 t142, .int .i64 t143, .int .i64 t144, .int .i64 t145, .int .i64 x126004_1, .int .i64 x126005_1, .int .i64 x126006_1, .int .i64 x126007_1, .int .i64 x126008_1, .int .i64 x126009_1]) ?_ 4 _ rfl; (with_reducible repeat (first | refine blk_drewN ?_ _ | refine blk_drew ?_ | refine blk_alloc ?_ _)); refine blk_put (cs := #[.int .i64 t142, .int .i64 t143, .int .i64 t144, .int .i64 x126003_1, .int .i64 x126004_1, .int .i64 x126005_1, .int .i64 x126006_1, .int .i64 x126007_1, .int .i64 x126008_1, .int .i64 x126009_1]) ?_ 3 _ rfl; (with_reducible repeat (first | refine blk_drewN ?_ _ | refine blk_drew ?_ | refine blk_alloc ?_ _)); refine blk_put (cs := #[.int .i64 t142, .int .i64 t143, .int .i64 x126002_1, .int .i64 x126003_1, .int .i64 x126004_1, .int .i64 x126005_1, .int .i64 x126006_1, .int .i64 x126007_1, .int .i64 x126008_1, .int .i64 x126009_1]) ?_ 2 _ rfl; (with_reducible repeat (first | refine blk_drewN ?_ _ | refine blk_drew ?_ | refine blk_alloc ?_ _)); refine blk_put (cs := #[.int .i64 t142, .int .i64 x126001_1, .int .i64 x126002_1, .int .i64 x126003_1, .int .i64 x126004_1, .int .i64 x126005_1, .int .i64 x126006_1, .int .i64 x126007_1, .int .i64 x126008_1, .int .i64 x126009_1]) ?_ 1 _ rfl; (with_reducible repeat (first | refine blk_drewN ?_ _ | refine blk_drew ?_ | refine blk_alloc ?_ _)); refine blk_put (cs := #[.int .i64 t131, .int .i64 x126001_1, .int .i64 x126002_1, .int .i64 x126003_1, .int .i64 x126004_1, .int .i64 x126005_1, .int .i64 x126006_1, .int .i64 x126007_1, .int .i64 x126008_1, .int .i64 x126009_1]) ?_ 0 _ rfl; (with_reducible repeat (first | refine blk_drewN ?_ _ | refine blk_drew ?_ | refine blk_alloc ?_ _)); refine blk_far ?_ NB125_124.out _; (with_reducible repeat (first | refine blk_drewN ?_ _ | refine blk_drew ?_ | refine blk_alloc ?_ _)); refine blk_far ?_ NB125_124.out _; (with_reducible repeat (first | refine blk_drewN ?_ _ | refine blk_drew ?_ | refine blk_alloc ?_ _)); refine blk_far ?_ NB125_124.out _; (with_reducible repeat (first | refine blk_drewN ?_ _ | refine blk_drew ?_ | refine blk_alloc ?_ _)); refine blk_far ?_ NB125_124.out _; (with_reducible repeat (first | refine blk_drewN ?_ _ | refine blk_drew ?_ | refine blk_alloc ?_ _)); refine blk_far ?_ NB125_124.out _; (with_reducible repeat (first | refine blk_drewN ?_ _ | refine blk_drew ?_ | refine blk_alloc ?_ _)); refine blk_far ?_ NB125_124.out _; (with_reducible repeat (first | refine blk_drewN ?_ _ | refine blk_drew ?_ | refine blk_alloc ?_ _)); refine blk_far ?_ NB125_124.out _; (with_reducible repeat (first | refine blk_drewN ?_ _ | refine blk_drew ?_ | refine blk_alloc ?_ _)); refine blk_far ?_ NB125_124.out _; (with_reducible repeat (first | refine blk_drewN ?_ _ | refine blk_drew ?_ | refine blk_alloc ?_ _)); refine blk_far ?_ NB125_124.out _; (with_reducible repeat (first | refine blk_drewN ?_ _ | refine blk_drew ?_ | refine blk_alloc ?_ _)); refine blk_far ?_ NB125_124.out _; (with_reducible repeat (first | refine blk_drewN ?_ _ | refine blk_drew ?_ | refine blk_alloc ?_ _)); exact BK125.out⟩
                  have n2_ : Aside0 (Below w.heap.size w ((((((((((((((((((((w102.setCell ⟨gb124, 0, none⟩ (.int .i64 t132)).setCell ⟨gb124, 1, none⟩ (.int .i64 t133)).setCell ⟨gb124, 2, none⟩ (.int .i64 t134)).setCell ⟨gb124, 3, none⟩ (.int .i64 t135)).setCell ⟨gb124, 4, none⟩ (.int .i64 t136)).setCell ⟨gb124, 5, none⟩ (.int .i64 t137)).setCell ⟨gb124, 6, none⟩ (.int .i64 t138)).setCell ⟨gb124, 7, none⟩ (.int .i64 t139)).setCell ⟨gb124, 8, none⟩ (.int .i64 t140)).setCell ⟨gb124, 9, none⟩ (.int .i64 t141)).setCell ⟨gb125, 0, none⟩ (.int .i64 t142)).setCell ⟨gb125, 1, none⟩ (.int .i64 t143)).setCell ⟨gb125, 2, none⟩ (.int .i64 t144)).setCell ⟨gb125, 3, none⟩ (.int .i64 t145)).setCell ⟨gb125, 4, none⟩ (.int .i64 t146)).setCell ⟨gb125, 5, none⟩ (.int .i64 t147)).setCell ⟨gb125, 6, none⟩ (.int .i64 t148)).setCell ⟨gb125, 7, none⟩ (.int .i64 t149)).setCell ⟨gb125, 8, none⟩ (.int .i64 t150)).setCell ⟨gb125, 9, none⟩ (.int .i64 t151))) := ⟨by repeat (first | (with_reducible first | exact HB.out | apply below_alloc | apply pw_below_drewN | apply below_drew1 | refine below_set ?_ GE124.out | refine below_set ?_ GE125.out) | exact HB.out)⟩
                  (try clear BK124)
                  (try clear BK125)
                  (try clear HB)
                  generalize ((((((((((((((((((((w102.setCell ⟨gb124, 0, none⟩ (.int .i64 t132)).setCell ⟨gb124, 1, none⟩ (.int .i64 t133)).setCell ⟨gb124, 2, none⟩ (.int .i64 t134)).setCell ⟨gb124, 3, none⟩ (.int .i64 t135)).setCell ⟨gb124, 4, none⟩ (.int .i64 t136)).setCell ⟨gb124, 5, none⟩ (.int .i64 t137)).setCell ⟨gb124, 6, none⟩ (.int .i64 t138)).setCell ⟨gb124, 7, none⟩ (.int .i64 t139)).setCell ⟨gb124, 8, none⟩ (.int .i64 t140)).setCell ⟨gb124, 9, none⟩ (.int .i64 t141)).setCell ⟨gb125, 0, none⟩ (.int .i64 t142)).setCell ⟨gb125, 1, none⟩ (.int .i64 t143)).setCell ⟨gb125, 2, none⟩ (.int .i64 t144)).setCell ⟨gb125, 3, none⟩ (.int .i64 t145)).setCell ⟨gb125, 4, none⟩ (.int .i64 t146)).setCell ⟨gb125, 5, none⟩ (.int .i64 t147)).setCell ⟨gb125, 6, none⟩ (.int .i64 t148)).setCell ⟨gb125, 7, none⟩ (.int .i64 t149)).setCell ⟨gb125, 8, none⟩ (.int .i64 t150)).setCell ⟨gb125, 9, none⟩ (.int .i64 t151)) = w123 at n0_ n1_ n2_ ⊢
                  have BK124 := n0_
                  have BK125 := n1_
                  have HB := n2_
                  clear n0_ n1_ n2_
                  have n0_ := Aside0.mk (blk_drew BK124.out)
                  have n1_ := Aside0.mk (blk_drew BK125.out)
                  have n2_ := Aside0.mk (below_drew1 HB.out)
                  clear BK124
                  clear BK125
                  clear HB
                  have BK124 := n0_
                  have BK125 := n1_
                  have HB := n2_
                  clear n0_ n1_ n2_
                  refine start_ (n := 24) (S := fun w' => w'.cell? ⟨gb124, 0, none⟩ = some (.int .i64 t132) ∧ w'.cell? ⟨gb124, 1, none⟩ = some (.int .i64 t133) ∧ w'.cell? ⟨gb124, 2, none⟩ = some (.int .i64 t134) ∧ w'.cell? ⟨gb124, 3, none⟩ = some (.int .i64 t135) ∧ w'.cell? ⟨gb124, 4, none⟩ = some (.int .i64 t136) ∧ w'.cell? ⟨gb124, 5, none⟩ = some (.int .i64 t137) ∧ w'.cell? ⟨gb124, 6, none⟩ = some (.int .i64 t138) ∧ w'.cell? ⟨gb124, 7, none⟩ = some (.int .i64 t139) ∧ w'.cell? ⟨gb124, 8, none⟩ = some (.int .i64 t140) ∧ w'.cell? ⟨gb124, 9, none⟩ = some (.int .i64 t141) ∧ w'.cell? ⟨gb125, 0, none⟩ = some (.int .i64 t142) ∧ w'.cell? ⟨gb125, 1, none⟩ = some (.int .i64 t143) ∧ w'.cell? ⟨gb125, 2, none⟩ = some (.int .i64 t144) ∧ w'.cell? ⟨gb125, 3, none⟩ = some (.int .i64 t145) ∧ w'.cell? ⟨gb125, 4, none⟩ = some (.int .i64 t146) ∧ w'.cell? ⟨gb125, 5, none⟩ = some (.int .i64 t147) ∧ w'.cell? ⟨gb125, 6, none⟩ = some (.int .i64 t148) ∧ w'.cell? ⟨gb125, 7, none⟩ = some (.int .i64 t149) ∧ w'.cell? ⟨gb125, 8, none⟩ = some (.int .i64 t150) ∧ w'.cell? ⟨gb125, 9, none⟩ = some (.int .i64 t151)) (ds := []) #[Ff,Ff,Ff,Ff,Ff,Ff,Ff,Ff,Ff,Ff,Ff,Ff,Ff,Ff,Ff,Ff,Ff,Ff,Ff,Ff,Ff,Ff,Ff,Ff] (by kernel_rfl) rfl rfl ⟨(blk_cell BK124.out 0).trans rfl, (blk_cell BK124.out 1).trans rfl, (blk_cell BK124.out 2).trans rfl, (blk_cell BK124.out 3).trans rfl, (blk_cell BK124.out 4).trans rfl, (blk_cell BK124.out 5).trans rfl, (blk_cell BK124.out 6).trans rfl, (blk_cell BK124.out 7).trans rfl, (blk_cell BK124.out 8).trans rfl, (blk_cell BK124.out 9).trans rfl, (blk_cell BK125.out 0).trans rfl, (blk_cell BK125.out 1).trans rfl, (blk_cell BK125.out 2).trans rfl, (blk_cell BK125.out 3).trans rfl, (blk_cell BK125.out 4).trans rfl, (blk_cell BK125.out 5).trans rfl, (blk_cell BK125.out 6).trans rfl, (blk_cell BK125.out 7).trans rfl, (blk_cell BK125.out 8).trans rfl, (blk_cell BK125.out 9).trans rfl⟩ (fun hHeld => ?_); refine with_tabW ladderbacklaw08_TimerDelays.tab18 ladderbacklaw08_TimerDelays.bits18 (fun HT_ HW_ => ?_)
                  generalize w123.drew = w124 at BK124 BK125 HB hHeld ⊢
                  refine pure_ (i := 0) (N := some 80) (v := ?_) (a' := ?_) #[Tt,Ff,Ff,Ff,Ff,Ff,Ff,Ff,Ff,Ff,Ff,Ff,Ff,Ff,Ff,Ff,Ff,Ff,Ff,Ff,Ff,Ff,Ff,Ff] rfl rfl (any_of HT_.out (by kernel_rfl)) (fun _ _ _ h => h) (Or.inl ⟨by rfl, ?_⟩) ?_ ?_
                  rotate_left
                  ·
                   intro w'
                   go_simp
                   with_reducible rfl
                  rotate_left
                  ·
                   simp only [Act.put, List.setIfInBounds_toArray, List.set_cons_zero, List.set_cons_succ, i64_w, i32_w]
                   rfl
                  refine pure_ (i := 1) (N := some 81) (v := ?_) (a' := ?_) #[Tt,Tt,Ff,Ff,Ff,Ff,Ff,Ff,Ff,Ff,Ff,Ff,Ff,Ff,Ff,Ff,Ff,Ff,Ff,Ff,Ff,Ff,Ff,Ff] rfl rfl (any_of HT_.out (by kernel_rfl)) (fun _ _ _ h => h) (Or.inl ⟨by rfl, ?_⟩) ?_ ?_
                  rotate_left
                  ·
                   intro w'
                   go_simp
                   with_reducible rfl
                  rotate_left
                  ·
                   simp only [Act.put, List.setIfInBounds_toArray, List.set_cons_zero, List.set_cons_succ, i64_w, i32_w]
                   rfl
                  refine pure_ (i := 3) (N := some 83) (v := ?_) (a' := ?_) #[Tt,Tt,Ff,Tt,Ff,Ff,Ff,Ff,Ff,Ff,Ff,Ff,Ff,Ff,Ff,Ff,Ff,Ff,Ff,Ff,Ff,Ff,Ff,Ff] rfl rfl (any_of HT_.out (by kernel_rfl)) (fun _ _ _ h => h) (Or.inl ⟨by rfl, ?_⟩) ?_ ?_
                  rotate_left
                  ·
                   intro w'
                   go_simp
                   with_reducible rfl
                  rotate_left
                  ·
                   simp only [Act.put, List.setIfInBounds_toArray, List.set_cons_zero, List.set_cons_succ, i64_w, i32_w]
                   rfl
                  refine pure_ (i := 4) (N := some 84) (v := ?_) (a' := ?_) #[Tt,Tt,Ff,Tt,Tt,Ff,Ff,Ff,Ff,Ff,Ff,Ff,Ff,Ff,Ff,Ff,Ff,Ff,Ff,Ff,Ff,Ff,Ff,Ff] rfl rfl (any_of HT_.out (by kernel_rfl)) (fun _ _ _ h => h) (Or.inl ⟨by rfl, ?_⟩) ?_ ?_
                  rotate_left
                  ·
                   intro w'
                   go_simp
                   with_reducible rfl
                  rotate_left
                  ·
                   simp only [Act.put, List.setIfInBounds_toArray, List.set_cons_zero, List.set_cons_succ, i64_w, i32_w]
                   rfl
                  refine pure_ (i := 5) (N := some 85) (v := undef) (a' := ?_) #[Tt,Tt,Ff,Tt,Tt,Tt,Ff,Ff,Ff,Ff,Ff,Ff,Ff,Ff,Ff,Ff,Ff,Ff,Ff,Ff,Ff,Ff,Ff,Ff] rfl rfl (any_of HT_.out (by kernel_rfl)) (fun _ _ _ h => h) (Or.inr ⟨by rfl, rfl⟩) ?_ ?_
                  rotate_left
                  ·
                   simp only [Act.put, List.setIfInBounds_toArray, List.set_cons_zero, List.set_cons_succ, i64_w, i32_w]
                   rfl
                  refine pure_ (i := 6) (N := some 86) (v := ?_) (a' := ?_) #[Tt,Tt,Ff,Tt,Tt,Tt,Tt,Ff,Ff,Ff,Ff,Ff,Ff,Ff,Ff,Ff,Ff,Ff,Ff,Ff,Ff,Ff,Ff,Ff] rfl rfl (any_of HT_.out (by kernel_rfl)) (fun _ _ _ h => h) (Or.inl ⟨by rfl, ?_⟩) ?_ ?_
                  rotate_left
                  ·
                   intro w'
                   go_simp
                   with_reducible rfl
                  rotate_left
                  ·
                   simp only [Act.put, List.setIfInBounds_toArray, List.set_cons_zero, List.set_cons_succ, i64_w, i32_w]
                   rfl
                  refine take_ (i := 2) (N := some 82) (v := ?_) (a' := ?_) #[Tt,Tt,Tt,Tt,Tt,Tt,Tt,Ff,Ff,Ff,Ff,Ff,Ff,Ff,Ff,Ff,Ff,Ff,Ff,Ff,Ff,Ff,Ff,Ff] rfl rfl (take_ofW HT_.out HW_.out (by kernel_rfl)) (fun _ _ _ h => h) (Or.inl ⟨by rfl, ?_⟩) hHeld ?_ ?_
                  rotate_left
                  ·
                   rintro w' ⟨s0, s1, s2, s3, s4, s5, s6, s7, s8, s9, s10, s11, s12, s13, s14, s15, s16, s17, s18, s19⟩
                   go_simp
                   with_reducible rfl
                  rotate_left
                  ·
                   simp only [Act.put, List.setIfInBounds_toArray, List.set_cons_zero, List.set_cons_succ, i64_w, i32_w]
                   rfl
                  refine one_ (i := 7) (N := some 87) #[Tt,Tt,Tt,Tt,Tt,Tt,Tt,Tt,Ff,Ff,Ff,Ff,Ff,Ff,Ff,Ff,Ff,Ff,Ff,Ff,Ff,Ff,Ff,Ff] rfl rfl (one_of HT_.out (by kernel_rfl)) (by decide) (fun K hK => ?_)
                  refine goes_ Try.func12 (by kernel_rfl) rfl #[.bool false] (by rfl) rfl rfl (by (try simp only [List.map_toArray, List.map_cons, List.map_nil]); first | done | rfl | (simp only [List.length_drop, List.length_take]; rfl)) ?_
                  with_reducible refine (ladderbacklaw08_on.calls false t154 _ A60.out).mono ?_
                  rintro e w' ⟨rfl, ⟨nd, rfl⟩⟩
                  refine ⟨_, rfl, ?_⟩
                  refine hK.out _ _ ⟨(blk_cell BK124.out 0).trans rfl, (blk_cell BK124.out 1).trans rfl, (blk_cell BK124.out 2).trans rfl, (blk_cell BK124.out 3).trans rfl, (blk_cell BK124.out 4).trans rfl, (blk_cell BK124.out 5).trans rfl, (blk_cell BK124.out 6).trans rfl, (blk_cell BK124.out 7).trans rfl, (blk_cell BK124.out 8).trans rfl, (blk_cell BK124.out 9).trans rfl, (blk_cell BK125.out 0).trans rfl, (blk_cell BK125.out 1).trans rfl, (blk_cell BK125.out 2).trans rfl, (blk_cell BK125.out 3).trans rfl, (blk_cell BK125.out 4).trans rfl, (blk_cell BK125.out 5).trans rfl, (blk_cell BK125.out 6).trans rfl, (blk_cell BK125.out 7).trans rfl, (blk_cell BK125.out 8).trans rfl, (blk_cell BK125.out 9).trans rfl⟩ (fun hHeld => ?_)
                  clear hK K
                  refine norm_ (a' := ?_) ?_ ?_
                  rotate_left
                  ·
                   show Act.put _ (some 87) _ = _
                   simp only [Act.put, List.setIfInBounds_toArray, List.set_cons_zero, List.set_cons_succ, i64_w, i32_w]
                   rfl
                  refine pure_ (i := 8) (N := some 88) (v := ?_) (a' := ?_) #[Tt,Tt,Tt,Tt,Tt,Tt,Tt,Tt,Tt,Ff,Ff,Ff,Ff,Ff,Ff,Ff,Ff,Ff,Ff,Ff,Ff,Ff,Ff,Ff] rfl rfl (any_of HT_.out (by kernel_rfl)) (fun _ _ _ h => h) (Or.inl ⟨by rfl, ?_⟩) ?_ ?_
                  rotate_left
                  ·
                   intro w'
                   go_simp
                   with_reducible rfl
                  rotate_left
                  ·
                   simp only [Act.put, List.setIfInBounds_toArray, List.set_cons_zero, List.set_cons_succ, i64_w, i32_w]
                   rfl
                  refine pure_ (i := 9) (N := some 89) (v := ?_) (a' := ?_) #[Tt,Tt,Tt,Tt,Tt,Tt,Tt,Tt,Tt,Tt,Ff,Ff,Ff,Ff,Ff,Ff,Ff,Ff,Ff,Ff,Ff,Ff,Ff,Ff] rfl rfl (any_of HT_.out (by kernel_rfl)) (fun _ _ _ h => h) (Or.inl ⟨by rfl, ?_⟩) ?_ ?_
                  rotate_left
                  ·
                   intro w'
                   go_simp
                   with_reducible rfl
                  rotate_left
                  ·
                   simp only [Act.put, List.setIfInBounds_toArray, List.set_cons_zero, List.set_cons_succ, i64_w, i32_w]
                   rfl
                  refine pure_ (i := 10) (N := some 90) (v := ?_) (a' := ?_) #[Tt,Tt,Tt,Tt,Tt,Tt,Tt,Tt,Tt,Tt,Tt,Ff,Ff,Ff,Ff,Ff,Ff,Ff,Ff,Ff,Ff,Ff,Ff,Ff] rfl rfl (any_of HT_.out (by kernel_rfl)) (fun _ _ _ h => h) (Or.inl ⟨by rfl, ?_⟩) ?_ ?_
                  rotate_left
                  ·
                   intro w'
                   go_simp
                   with_reducible rfl
                  rotate_left
                  ·
                   simp only [Act.put, List.setIfInBounds_toArray, List.set_cons_zero, List.set_cons_succ, i64_w, i32_w]
                   rfl
                  refine pure_ (i := 11) (N := some 91) (v := ?_) (a' := ?_) #[Tt,Tt,Tt,Tt,Tt,Tt,Tt,Tt,Tt,Tt,Tt,Tt,Ff,Ff,Ff,Ff,Ff,Ff,Ff,Ff,Ff,Ff,Ff,Ff] rfl rfl (any_of HT_.out (by kernel_rfl)) (fun _ _ _ h => h) (Or.inl ⟨by rfl, ?_⟩) ?_ ?_
                  rotate_left
                  ·
                   intro w'
                   go_simp
                   with_reducible rfl
                  rotate_left
                  ·
                   simp only [Act.put, List.setIfInBounds_toArray, List.set_cons_zero, List.set_cons_succ, i64_w, i32_w]
                   rfl
                  refine pure_ (i := 13) (N := some 93) (v := ?_) (a' := ?_) #[Tt,Tt,Tt,Tt,Tt,Tt,Tt,Tt,Tt,Tt,Tt,Tt,Ff,Tt,Ff,Ff,Ff,Ff,Ff,Ff,Ff,Ff,Ff,Ff] rfl rfl (any_of HT_.out (by kernel_rfl)) (fun _ _ _ h => h) (Or.inl ⟨by rfl, ?_⟩) ?_ ?_
                  rotate_left
                  ·
                   intro w'
                   go_simp
                   with_reducible rfl
                  rotate_left
                  ·
                   simp only [Act.put, List.setIfInBounds_toArray, List.set_cons_zero, List.set_cons_succ, i64_w, i32_w]
                   rfl
                  refine pure_ (i := 14) (N := some 94) (v := ?_) (a' := ?_) #[Tt,Tt,Tt,Tt,Tt,Tt,Tt,Tt,Tt,Tt,Tt,Tt,Ff,Tt,Tt,Ff,Ff,Ff,Ff,Ff,Ff,Ff,Ff,Ff] rfl rfl (any_of HT_.out (by kernel_rfl)) (fun _ _ _ h => h) (Or.inl ⟨by rfl, ?_⟩) ?_ ?_
                  rotate_left
                  ·
                   intro w'
                   go_simp
                   with_reducible rfl
                  rotate_left
                  ·
                   simp only [Act.put, List.setIfInBounds_toArray, List.set_cons_zero, List.set_cons_succ, i64_w, i32_w]
                   rfl
                  refine pure_ (i := 15) (N := some 95) (v := ?_) (a' := ?_) #[Tt,Tt,Tt,Tt,Tt,Tt,Tt,Tt,Tt,Tt,Tt,Tt,Ff,Tt,Tt,Tt,Ff,Ff,Ff,Ff,Ff,Ff,Ff,Ff] rfl rfl (any_of HT_.out (by kernel_rfl)) (fun _ _ _ h => h) (Or.inl ⟨by rfl, ?_⟩) ?_ ?_
                  rotate_left
                  ·
                   intro w'
                   go_simp
                   with_reducible rfl
                  rotate_left
                  ·
                   simp only [Act.put, List.setIfInBounds_toArray, List.set_cons_zero, List.set_cons_succ, i64_w, i32_w]
                   rfl
                  refine pure_ (i := 16) (N := some 96) (v := ?_) (a' := ?_) #[Tt,Tt,Tt,Tt,Tt,Tt,Tt,Tt,Tt,Tt,Tt,Tt,Ff,Tt,Tt,Tt,Tt,Ff,Ff,Ff,Ff,Ff,Ff,Ff] rfl rfl (any_of HT_.out (by kernel_rfl)) (fun _ _ _ h => h) (Or.inl ⟨by rfl, ?_⟩) ?_ ?_
                  rotate_left
                  ·
                   intro w'
                   go_simp
                   with_reducible rfl
                  rotate_left
                  ·
                   simp only [Act.put, List.setIfInBounds_toArray, List.set_cons_zero, List.set_cons_succ, i64_w, i32_w]
                   rfl
                  refine pure_ (i := 17) (N := some 97) (v := undef) (a' := ?_) #[Tt,Tt,Tt,Tt,Tt,Tt,Tt,Tt,Tt,Tt,Tt,Tt,Ff,Tt,Tt,Tt,Tt,Tt,Ff,Ff,Ff,Ff,Ff,Ff] rfl rfl (any_of HT_.out (by kernel_rfl)) (fun _ _ _ h => h) (Or.inr ⟨by rfl, rfl⟩) ?_ ?_
                  rotate_left
                  ·
                   simp only [Act.put, List.setIfInBounds_toArray, List.set_cons_zero, List.set_cons_succ, i64_w, i32_w]
                   rfl
                  refine pure_ (i := 18) (N := some 98) (v := undef) (a' := ?_) #[Tt,Tt,Tt,Tt,Tt,Tt,Tt,Tt,Tt,Tt,Tt,Tt,Ff,Tt,Tt,Tt,Tt,Tt,Tt,Ff,Ff,Ff,Ff,Ff] rfl rfl (any_of HT_.out (by kernel_rfl)) (fun _ _ _ h => h) (Or.inr ⟨by rfl, rfl⟩) ?_ ?_
                  rotate_left
                  ·
                   simp only [Act.put, List.setIfInBounds_toArray, List.set_cons_zero, List.set_cons_succ, i64_w, i32_w]
                   rfl
                  refine pure_ (i := 19) (N := some 99) (v := ?_) (a' := ?_) #[Tt,Tt,Tt,Tt,Tt,Tt,Tt,Tt,Tt,Tt,Tt,Tt,Ff,Tt,Tt,Tt,Tt,Tt,Tt,Tt,Ff,Ff,Ff,Ff] rfl rfl (any_of HT_.out (by kernel_rfl)) (fun _ _ _ h => h) (Or.inl ⟨by rfl, ?_⟩) ?_ ?_
                  rotate_left
                  ·
                   intro w'
                   go_simp
                   with_reducible rfl
                  rotate_left
                  ·
                   simp only [Act.put, List.setIfInBounds_toArray, List.set_cons_zero, List.set_cons_succ, i64_w, i32_w]
                   rfl
                  refine pure_ (i := 20) (N := some 100) (v := ?_) (a' := ?_) #[Tt,Tt,Tt,Tt,Tt,Tt,Tt,Tt,Tt,Tt,Tt,Tt,Ff,Tt,Tt,Tt,Tt,Tt,Tt,Tt,Tt,Ff,Ff,Ff] rfl rfl (any_of HT_.out (by kernel_rfl)) (fun _ _ _ h => h) (Or.inl ⟨by rfl, ?_⟩) ?_ ?_
                  rotate_left
                  ·
                   intro w'
                   go_simp
                   with_reducible rfl
                  rotate_left
                  ·
                   simp only [Act.put, List.setIfInBounds_toArray, List.set_cons_zero, List.set_cons_succ, i64_w, i32_w]
                   rfl
                  refine take_ (i := 12) (N := some 92) (v := ?_) (a' := ?_) #[Tt,Tt,Tt,Tt,Tt,Tt,Tt,Tt,Tt,Tt,Tt,Tt,Tt,Tt,Tt,Tt,Tt,Tt,Tt,Tt,Tt,Ff,Ff,Ff] rfl rfl (take_ofW HT_.out HW_.out (by kernel_rfl)) (fun _ _ _ h => h) (Or.inl ⟨by rfl, ?_⟩) hHeld ?_ ?_
                  rotate_left
                  ·
                   rintro w' ⟨s0, s1, s2, s3, s4, s5, s6, s7, s8, s9, s10, s11, s12, s13, s14, s15, s16, s17, s18, s19⟩
                   go_simp
                   with_reducible rfl
                  rotate_left
                  ·
                   simp only [Act.put, List.setIfInBounds_toArray, List.set_cons_zero, List.set_cons_succ, i64_w, i32_w]
                   rfl
                  refine one_ (i := 21) (N := some 101) #[Tt,Tt,Tt,Tt,Tt,Tt,Tt,Tt,Tt,Tt,Tt,Tt,Tt,Tt,Tt,Tt,Tt,Tt,Tt,Tt,Tt,Tt,Ff,Ff] rfl rfl (one_of HT_.out (by kernel_rfl)) (by decide) (fun K hK => ?_)
                  refine goes_ Try.func12 (by kernel_rfl) rfl #[.bool false] (by rfl) rfl rfl (by (try simp only [List.map_toArray, List.map_cons, List.map_nil]); first | done | rfl | (simp only [List.length_drop, List.length_take]; rfl)) ?_
                  with_reducible refine (ladderbacklaw08_on.calls false t156 _ A94.out).mono ?_
                  rintro e w' ⟨rfl, ⟨nd, rfl⟩⟩
                  refine ⟨_, rfl, ?_⟩
                  refine hK.out _ _ ⟨(blk_cell BK124.out 0).trans rfl, (blk_cell BK124.out 1).trans rfl, (blk_cell BK124.out 2).trans rfl, (blk_cell BK124.out 3).trans rfl, (blk_cell BK124.out 4).trans rfl, (blk_cell BK124.out 5).trans rfl, (blk_cell BK124.out 6).trans rfl, (blk_cell BK124.out 7).trans rfl, (blk_cell BK124.out 8).trans rfl, (blk_cell BK124.out 9).trans rfl, (blk_cell BK125.out 0).trans rfl, (blk_cell BK125.out 1).trans rfl, (blk_cell BK125.out 2).trans rfl, (blk_cell BK125.out 3).trans rfl, (blk_cell BK125.out 4).trans rfl, (blk_cell BK125.out 5).trans rfl, (blk_cell BK125.out 6).trans rfl, (blk_cell BK125.out 7).trans rfl, (blk_cell BK125.out 8).trans rfl, (blk_cell BK125.out 9).trans rfl⟩ (fun hHeld => ?_)
                  clear hK K
                  refine norm_ (a' := ?_) ?_ ?_
                  rotate_left
                  ·
                   show Act.put _ (some 101) _ = _
                   simp only [Act.put, List.setIfInBounds_toArray, List.set_cons_zero, List.set_cons_succ, i64_w, i32_w]
                   rfl
                  refine pure_ (i := 22) (N := some 102) (v := ?_) (a' := ?_) #[Tt,Tt,Tt,Tt,Tt,Tt,Tt,Tt,Tt,Tt,Tt,Tt,Tt,Tt,Tt,Tt,Tt,Tt,Tt,Tt,Tt,Tt,Tt,Ff] rfl rfl (any_of HT_.out (by kernel_rfl)) (fun _ _ _ h => h) (Or.inl ⟨by rfl, ?_⟩) ?_ ?_
                  rotate_left
                  ·
                   intro w'
                   go_simp
                   with_reducible rfl
                  rotate_left
                  ·
                   simp only [Act.put, List.setIfInBounds_toArray, List.set_cons_zero, List.set_cons_succ, i64_w, i32_w]
                   rfl
                  refine pure_ (i := 23) (N := some 103) (v := ?_) (a' := ?_) #[Tt,Tt,Tt,Tt,Tt,Tt,Tt,Tt,Tt,Tt,Tt,Tt,Tt,Tt,Tt,Tt,Tt,Tt,Tt,Tt,Tt,Tt,Tt,Tt] rfl rfl (any_of HT_.out (by kernel_rfl)) (fun _ _ _ h => h) (Or.inl ⟨by rfl, ?_⟩) ?_ ?_
                  rotate_left
                  ·
                   intro w'
                   go_simp
                   with_reducible rfl
                  rotate_left
                  ·
                   simp only [Act.put, List.setIfInBounds_toArray, List.set_cons_zero, List.set_cons_succ, i64_w, i32_w]
                   rfl
                  refine done_ (done_of HT_.out (by kernel_rfl)) ?_
                  try go_wp2
                  go_roundg kj18
                  case measure => have := HK1.out; have := HJ12.out; have := HJ14.out; have := HJ18.out; omega
                  case rel => exact ⟨((wrap64 (x7_1 + (wrap64 ((rd_T33 l1 x11_1).f0))))), (x8_14), (false), (false), (wrap64 (x11_1 + 1)), (t132), (t133), (t134), (t135), (t136), (t137), (t138), (t139), (t140), (t141), (t142), (t143), (t144), (t145), (t146), (t147), (t148), (t149), (t150), (t151), (by first | rfl | (simp; done) | (simp [*]; done)), (by first | rfl | (simp; done) | (simp [*]; done)), (by first | rfl | (simp; done) | (simp [*]; done)), (by first | rfl | (simp; done) | (simp [*]; done)), (by first | rfl | (simp; done) | (simp [*]; done)), H', ⟨by have := HK1.out; have := HJ12.out; have := HJ14.out; have := HJ18.out; omega⟩, ⟨by (with_reducible repeat (first | refine blk_drewN ?_ _ | refine blk_drew ?_ | refine blk_alloc ?_ _)); exact BK124.out⟩, ⟨by (with_reducible repeat (first | refine blk_drewN ?_ _ | refine blk_drew ?_ | refine blk_alloc ?_ _)); exact BK125.out⟩, ⟨by repeat (first | (with_reducible first | exact HB.out | apply below_alloc | apply pw_below_drewN | apply below_drew1 | refine below_set ?_ GE124.out | refine below_set ?_ GE125.out) | exact HB.out)⟩⟩
                 ·
                  rw [if_neg c95] at H
                  have c95b0 : (t144 == t156) = false := beq_eq_false_iff_ne.mpr c95
                  have c95b1 : (t144 != t156) = true := bne_iff_ne.mpr c95
                  exact absurd (Option.some.inj H) (by rw [HRT.out]; decide)
               ·
                rw [if_neg c61] at H
                have c61b0 : (t134 == t154) = false := beq_eq_false_iff_ne.mpr c61
                have c61b1 : (t134 != t154) = true := bne_iff_ne.mpr c61
                exact absurd (Option.some.inj H) (by rw [HRT.out]; decide)
           ·
            rw [if_neg c18] at H
            exact absurd H (by simp)
          ·
           rw [if_neg c17] at H
           exact absurd H (by simp)
     ·
      rw [if_neg c12] at H
      exact absurd H (by simp)
    ·
     rw [if_neg c11] at H
     have c11b0 : decide (x11_1 < (l1.length : Int)) = false := decide_eq_false c11
     clear c11
     replace H := Option.bind_eq_some_iff.mp H
     obtain ⟨t126, A1250, H⟩ := H
     replace H : (some t126) = some r := H
     have A125 := Aside0.mk A1250
     clear A1250
     obtain rfl := Option.some.inj H
     go_wp2_with (first | ((with_reducible refine gate_callee (f := 11) rfl ?_); refine goesL_ (some 104) rfl rfl Try.func11 (by kernel_rfl) rfl #[] rfl (by (try simp only [List.map_toArray, List.map_cons, List.map_nil]); first | done | rfl | (simp only [List.length_drop, List.length_take]; rfl)) ?_; (with_reducible refine (ladderbacklaw08_awake.calls  t126 _ A125.out).mono ?_); rintro e w126 ⟨rfl, hb⟩; refine ⟨_, rfl, ?_⟩; have n0_ := Aside0.mk (blk_below (g := gb124) (o := .cells #[.int .i64 x125000_1, .int .i64 x125001_1, .int .i64 x125002_1, .int .i64 x125003_1, .int .i64 x125004_1, .int .i64 x125005_1, .int .i64 x125006_1, .int .i64 x125007_1, .int .i64 x125008_1, .int .i64 x125009_1] 26 (0, 0)) (by (with_reducible repeat (first | refine blk_drewN ?_ _ | refine blk_drew ?_ | refine blk_alloc ?_ _)); exact BK124.out) hb); have n1_ := Aside0.mk (blk_below (g := gb125) (o := .cells #[.int .i64 x126000_1, .int .i64 x126001_1, .int .i64 x126002_1, .int .i64 x126003_1, .int .i64 x126004_1, .int .i64 x126005_1, .int .i64 x126006_1, .int .i64 x126007_1, .int .i64 x126008_1, .int .i64 x126009_1] 26 (0, 0)) (by (with_reducible repeat (first | refine blk_drewN ?_ _ | refine blk_drew ?_ | refine blk_alloc ?_ _)); exact BK125.out) hb); have n2_ := Aside0.mk (below_step (by repeat (first | (with_reducible first | exact HB.out | apply below_alloc | apply pw_below_drewN | apply below_drew1 | refine below_set ?_ GE124.out | refine below_set ?_ GE125.out) | exact HB.out)) hb); clear BK124; clear BK125; clear HB; have BK124 := n0_; have BK125 := n1_; have HB := n2_; clear n0_ n1_ n2_; (try clear hb); (try clear hb2); (try clear hk); (try clear hi)))
     go_ret
     exact ⟨by first | rfl | (simp [errW_none, errW_some] <;> rfl) | (simp [*, errW_none, errW_some] <;> rfl), by repeat (first | (with_reducible first | exact HB.out | apply below_alloc | apply pw_below_drewN | apply below_drew1 | refine below_set ?_ GE124.out | refine below_set ?_ GE125.out) | exact HB.out)⟩
/-- The pure statement of ladderbacklaw08_TimerDelays. -/
def ladderbacklaw08_TimerDelays.Pure : Prop := ∀ (y0 : Int), (Lit.int .u8 y0).wf = true → ∀ (y1 : List (S33)), (y1.length ≤ 9223372036854775807 ∧ ∀ y0_ ∈ y1, W33 y0_) → ∃ k, ladderbacklaw08_TimerDelays.f k y0 y1 = some true

end Go.Proofs.Ythldpihpjekleaa.QTimerDelays
