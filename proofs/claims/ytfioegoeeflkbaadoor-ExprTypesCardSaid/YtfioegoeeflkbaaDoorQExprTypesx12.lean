-- Printed by a program of this session's over the kit's printer (wip/patch_print.py).
import Derived.Test.YtfioegoeeflkbaaDoorQExprTypesx0
namespace Go.Proofs.YtfioegoeeflkbaaDoor.QExprTypes
open Go.RowKit Go.Proofs.YtfioegoeeflkbaaDoor Go.Proofs.YtfioegoeeflkbaaDoorW.PrintWords Go.Proofs.YtfioegoeeflkbaaDoorW.PrintLast Go.Proofs.YtfioegoeeflkbaaDoorW.PrintMore
attribute [local go_sem] setCell_drewN0 max2_int min2_int max_two min_two max_three min_three max_four min_four   -- for this text's walks alone
set_option linter.unusedVariables false
set_option linter.unusedSimpArgs false

/-! ### ladderbackref07_Goes: function 106 -/
mutual
def ladderbackref07_Goes.j0 : Nat → Int → Int → Bool → Option (Bool)
 | 0, _, _, _ => none
 | k + 1, x0, x1, x10 => if x10 = true then (some false) else (if x0 = 8 then (ladderbackref07_Goes.j1 k x1 x0 (x0 == 8)) else (if x0 = 9 then (ladderbackref07_Goes.j1 k x1 x0 (x0 == 9)) else (ladderbackref07_Goes.j1 k x1 x0 (x0 == 13))))
def ladderbackref07_Goes.j1 : Nat → Int → Int → Bool → Option (Bool)
 | 0, _, _, _ => none
 | k + 1, x1, x11, x12 => if x12 = true then (if x1 = 2 then (some true) else (if x1 = 3 then (some true) else (some (x1 == 6)))) else (if x11 = 10 then (ladderbackref07_Goes.j2 k x1 x11 (x11 == 10)) else (if x11 = 11 then (ladderbackref07_Goes.j2 k x1 x11 (x11 == 11)) else (ladderbackref07_Goes.j2 k x1 x11 (x11 == 12))))
def ladderbackref07_Goes.j2 : Nat → Int → Int → Bool → Option (Bool)
 | 0, _, _, _ => none
 | k + 1, x1, x11, x26 => if x26 = true then (if x1 = 2 then (some true) else (some (x1 == 3))) else (if x11 = 14 then (ladderbackref07_Goes.j3 k x1 x11 (x11 == 14)) else (if x11 = 15 then (ladderbackref07_Goes.j3 k x1 x11 (x11 == 15)) else (if x11 = 16 then (ladderbackref07_Goes.j3 k x1 x11 (x11 == 16)) else (ladderbackref07_Goes.j3 k x1 x11 (x11 == 17)))))
def ladderbackref07_Goes.j3 : Nat → Int → Int → Bool → Option (Bool)
 | 0, _, _, _ => none
 | k + 1, x1, x11, x36 => if x36 = true then (if x1 = 1 then (some true) else (if x1 = 4 then (some true) else (some (x1 == 5)))) else (if x11 = 18 then (ladderbackref07_Goes.j4 k x1 x11 (x11 == 18)) else (ladderbackref07_Goes.j4 k x1 x11 (x11 == 19)))
def ladderbackref07_Goes.j4 : Nat → Int → Int → Bool → Option (Bool)
 | 0, _, _, _ => none
 | k + 1, x1, x11, x51 => if x51 = true then (if x1 = 4 then (some true) else (some (x1 == 5))) else (if x11 = 20 then (ladderbackref07_Goes.j5 k x1 x11 (x11 == 20)) else (ladderbackref07_Goes.j5 k x1 x11 (x11 == 21)))
def ladderbackref07_Goes.j5 : Nat → Int → Int → Bool → Option (Bool)
 | 0, _, _, _ => none
 | k + 1, x1, x11, x60 => if x60 = true then (some true) else (if x11 = 22 then (some (x1 != 1)) else (if x11 = 23 then (some (x1 != 1)) else (if x11 = 24 then (some (x1 != 1)) else (if x11 = 25 then (some (x1 != 1)) else (some false)))))
end
def ladderbackref07_Goes.f (k : Nat) (a0 : Int) (a1 : Int) : Option (Bool) := if a1 < 1 then (ladderbackref07_Goes.j0 k a0 a1 true) else (ladderbackref07_Goes.j0 k a0 a1 (decide (a1 > 6)))
theorem ladderbackref07_Goes.mono_l : ∀ k, (∀ y0 y1 y2, LeO (ladderbackref07_Goes.j0 k y0 y1 y2) (ladderbackref07_Goes.j0 (k + 1) y0 y1 y2)) ∧ (∀ y0 y1 y2, LeO (ladderbackref07_Goes.j1 k y0 y1 y2) (ladderbackref07_Goes.j1 (k + 1) y0 y1 y2)) ∧ (∀ y0 y1 y2, LeO (ladderbackref07_Goes.j2 k y0 y1 y2) (ladderbackref07_Goes.j2 (k + 1) y0 y1 y2)) ∧ (∀ y0 y1 y2, LeO (ladderbackref07_Goes.j3 k y0 y1 y2) (ladderbackref07_Goes.j3 (k + 1) y0 y1 y2)) ∧ (∀ y0 y1 y2, LeO (ladderbackref07_Goes.j4 k y0 y1 y2) (ladderbackref07_Goes.j4 (k + 1) y0 y1 y2)) ∧ (∀ y0 y1 y2, LeO (ladderbackref07_Goes.j5 k y0 y1 y2) (ladderbackref07_Goes.j5 (k + 1) y0 y1 y2))
 | 0 => ⟨fun _ _ _ r h => by simp [ladderbackref07_Goes.j0] at h, fun _ _ _ r h => by simp [ladderbackref07_Goes.j1] at h, fun _ _ _ r h => by simp [ladderbackref07_Goes.j2] at h, fun _ _ _ r h => by simp [ladderbackref07_Goes.j3] at h, fun _ _ _ r h => by simp [ladderbackref07_Goes.j4] at h, fun _ _ _ r h => by simp [ladderbackref07_Goes.j5] at h⟩
 | k + 1 => by
  obtain ⟨ih0, ih1, ih2, ih3, ih4, ih5⟩ := ladderbackref07_Goes.mono_l k
  refine ⟨?_, ?_, ?_, ?_, ?_, ?_⟩
  ·
   intro y0 y1 y2
   unfold ladderbackref07_Goes.j0
   repeat' first
   | (with_reducible exact ih0 _ _ _)
   | (with_reducible exact ih1 _ _ _)
   | (with_reducible exact ih2 _ _ _)
   | (with_reducible exact ih3 _ _ _)
   | (with_reducible exact ih4 _ _ _)
   | (with_reducible exact ih5 _ _ _)
   | (with_reducible exact LeO.refl _)
   | (with_reducible exact LeO.none _)
   | (with_reducible refine LeO.ite ?_ ?_)
   | (with_reducible refine LeO.bind ?_ (fun _ => ?_))
   | exact ih0 _ _ _
   | exact ih1 _ _ _
   | exact ih2 _ _ _
   | exact ih3 _ _ _
   | exact ih4 _ _ _
   | exact ih5 _ _ _
   | exact LeO.none _
   | refine LeO.ite ?_ ?_
   | refine LeO.bind ?_ (fun _ => ?_)
  ·
   intro y0 y1 y2
   unfold ladderbackref07_Goes.j1
   repeat' first
   | (with_reducible exact ih0 _ _ _)
   | (with_reducible exact ih1 _ _ _)
   | (with_reducible exact ih2 _ _ _)
   | (with_reducible exact ih3 _ _ _)
   | (with_reducible exact ih4 _ _ _)
   | (with_reducible exact ih5 _ _ _)
   | (with_reducible exact LeO.refl _)
   | (with_reducible exact LeO.none _)
   | (with_reducible refine LeO.ite ?_ ?_)
   | (with_reducible refine LeO.bind ?_ (fun _ => ?_))
   | exact ih0 _ _ _
   | exact ih1 _ _ _
   | exact ih2 _ _ _
   | exact ih3 _ _ _
   | exact ih4 _ _ _
   | exact ih5 _ _ _
   | exact LeO.none _
   | refine LeO.ite ?_ ?_
   | refine LeO.bind ?_ (fun _ => ?_)
  ·
   intro y0 y1 y2
   unfold ladderbackref07_Goes.j2
   repeat' first
   | (with_reducible exact ih0 _ _ _)
   | (with_reducible exact ih1 _ _ _)
   | (with_reducible exact ih2 _ _ _)
   | (with_reducible exact ih3 _ _ _)
   | (with_reducible exact ih4 _ _ _)
   | (with_reducible exact ih5 _ _ _)
   | (with_reducible exact LeO.refl _)
   | (with_reducible exact LeO.none _)
   | (with_reducible refine LeO.ite ?_ ?_)
   | (with_reducible refine LeO.bind ?_ (fun _ => ?_))
   | exact ih0 _ _ _
   | exact ih1 _ _ _
   | exact ih2 _ _ _
   | exact ih3 _ _ _
   | exact ih4 _ _ _
   | exact ih5 _ _ _
   | exact LeO.none _
   | refine LeO.ite ?_ ?_
   | refine LeO.bind ?_ (fun _ => ?_)
  ·
   intro y0 y1 y2
   unfold ladderbackref07_Goes.j3
   repeat' first
   | (with_reducible exact ih0 _ _ _)
   | (with_reducible exact ih1 _ _ _)
   | (with_reducible exact ih2 _ _ _)
   | (with_reducible exact ih3 _ _ _)
   | (with_reducible exact ih4 _ _ _)
   | (with_reducible exact ih5 _ _ _)
   | (with_reducible exact LeO.refl _)
   | (with_reducible exact LeO.none _)
   | (with_reducible refine LeO.ite ?_ ?_)
   | (with_reducible refine LeO.bind ?_ (fun _ => ?_))
   | exact ih0 _ _ _
   | exact ih1 _ _ _
   | exact ih2 _ _ _
   | exact ih3 _ _ _
   | exact ih4 _ _ _
   | exact ih5 _ _ _
   | exact LeO.none _
   | refine LeO.ite ?_ ?_
   | refine LeO.bind ?_ (fun _ => ?_)
  ·
   intro y0 y1 y2
   unfold ladderbackref07_Goes.j4
   repeat' first
   | (with_reducible exact ih0 _ _ _)
   | (with_reducible exact ih1 _ _ _)
   | (with_reducible exact ih2 _ _ _)
   | (with_reducible exact ih3 _ _ _)
   | (with_reducible exact ih4 _ _ _)
   | (with_reducible exact ih5 _ _ _)
   | (with_reducible exact LeO.refl _)
   | (with_reducible exact LeO.none _)
   | (with_reducible refine LeO.ite ?_ ?_)
   | (with_reducible refine LeO.bind ?_ (fun _ => ?_))
   | exact ih0 _ _ _
   | exact ih1 _ _ _
   | exact ih2 _ _ _
   | exact ih3 _ _ _
   | exact ih4 _ _ _
   | exact ih5 _ _ _
   | exact LeO.none _
   | refine LeO.ite ?_ ?_
   | refine LeO.bind ?_ (fun _ => ?_)
  ·
   intro y0 y1 y2
   unfold ladderbackref07_Goes.j5
   repeat' first
   | (with_reducible exact ih0 _ _ _)
   | (with_reducible exact ih1 _ _ _)
   | (with_reducible exact ih2 _ _ _)
   | (with_reducible exact ih3 _ _ _)
   | (with_reducible exact ih4 _ _ _)
   | (with_reducible exact ih5 _ _ _)
   | (with_reducible exact LeO.refl _)
   | (with_reducible exact LeO.none _)
   | (with_reducible refine LeO.ite ?_ ?_)
   | (with_reducible refine LeO.bind ?_ (fun _ => ?_))
   | exact ih0 _ _ _
   | exact ih1 _ _ _
   | exact ih2 _ _ _
   | exact ih3 _ _ _
   | exact ih4 _ _ _
   | exact ih5 _ _ _
   | exact LeO.none _
   | refine LeO.ite ?_ ?_
   | refine LeO.bind ?_ (fun _ => ?_)
theorem ladderbackref07_Goes.mono : ∀ a0 a1 k, LeO (ladderbackref07_Goes.f k a0 a1) (ladderbackref07_Goes.f (k + 1) a0 a1) := by
 intro a0 a1 k
 obtain ⟨ih0, ih1, ih2, ih3, ih4, ih5⟩ := ladderbackref07_Goes.mono_l k
 unfold ladderbackref07_Goes.f
 repeat' first
   | (with_reducible exact ih0 _ _ _)
   | (with_reducible exact ih1 _ _ _)
   | (with_reducible exact ih2 _ _ _)
   | (with_reducible exact ih3 _ _ _)
   | (with_reducible exact ih4 _ _ _)
   | (with_reducible exact ih5 _ _ _)
   | (with_reducible exact LeO.refl _)
   | (with_reducible exact LeO.none _)
   | (with_reducible refine LeO.ite ?_ ?_)
   | (with_reducible refine LeO.bind ?_ (fun _ => ?_))
   | exact ih0 _ _ _
   | exact ih1 _ _ _
   | exact ih2 _ _ _
   | exact ih3 _ _ _
   | exact ih4 _ _ _
   | exact ih5 _ _ _
   | exact LeO.none _
   | refine LeO.ite ?_ ?_
   | refine LeO.bind ?_ (fun _ => ?_)
set_option maxHeartbeats 8000000 in
set_option maxRecDepth 100000 in
theorem ladderbackref07_Goes.calls (k : Nat) (a0 : Int) (a1 : Int) (r : Bool) (w : World) (h : ladderbackref07_Goes.f k a0 a1 = some r) :
  Calls Tryd.prog 106 #[.int .i64 a0, .int .i64 a1] w fun e w' => e = .returned (.bool r) ∧ Drawn0 w w' := by
 have H : (if a1 < 1 then (ladderbackref07_Goes.j0 k a0 a1 true) else (ladderbackref07_Goes.j0 k a0 a1 (decide (a1 > 6)))) = some r := h
 clear h
 have HC3 := Aside0.mk H
 clear H
 go_enter Tryd.func106, Tryd.ntmps106
 go_upto_region 1 with (fail)
 go_cut [10] (fun v10 wc => ∃ (kq : Nat) (x10_2 : Bool), v10 = .bool x10_2 ∧ Aside0 (ladderbackref07_Goes.j0 kq a0 a1 x10_2 = some r) ∧ Aside0 (kq ≤ k) ∧ Drawn0 w wc)
 case first =>
  have H := HC3.out
  clear HC3
  by_cases c4 : a1 < 1
  ·
   rw [if_pos c4] at H
   have c4b0 : decide (a1 < 1) = true := decide_eq_true c4
   clear c4
   (first | rw [c4b0] | (simp only [i64_w, i32_w]; rw [c4b0]) | rw [c4b1] | skip)
   have H' := Aside0.mk H
   clear H
   go_wp2
   go_meet
   case rel => exact ⟨_, (true), (by first | rfl | (simp; done) | (simp [*]; done)), H', ⟨by first | omega | exact Nat.le_refl _⟩, by repeat (first | exact Drawn0.refl _ | apply Drawn0.step)⟩
  ·
   rw [if_neg c4] at H
   have c4b0 : decide (a1 < 1) = false := decide_eq_false c4
   clear c4
   (first | rw [c4b0] | (simp only [i64_w, i32_w]; rw [c4b0]) | rw [c4b1] | skip)
   have H' := Aside0.mk H
   clear H
   go_wp2
   go_meet
   case rel => exact ⟨_, (decide (a1 > 6)), (by first | rfl | (simp; done) | (simp [*]; done)), H', ⟨by first | omega | exact Nat.le_refl _⟩, by repeat (first | exact Drawn0.refl _ | apply Drawn0.step)⟩
 case rest =>
  clear HC3
  obtain ⟨kq, x10_2, rfl, HA, HJ2, ⟨mc2, rfl⟩⟩ := hcut
  cases kq with
  | zero => exact absurd HA.out (by simp [ladderbackref07_Goes.j0])
  | succ kj2 =>
   have H := HA.out
   clear HA
   simp only [ladderbackref07_Goes.j0] at H
   by_cases c5 : x10_2 = true
   ·
    subst c5
    have H1 : (some false) = some r := by rw [if_pos rfl] at H; exact H
    clear H
    have H := H1
    clear H1
    obtain rfl := Option.some.inj H
    go_wp2
    go_ret
    exact ⟨by first | rfl | (simp; done) | (simp [*]; done), by repeat (first | exact Drawn0.refl _ | apply Drawn0.step)⟩
   ·
    replace c5 := Bool.eq_false_iff.mpr c5
    subst c5
    have H1 : (if a0 = 8 then (ladderbackref07_Goes.j1 kj2 a1 a0 (a0 == 8)) else (if a0 = 9 then (ladderbackref07_Goes.j1 kj2 a1 a0 (a0 == 9)) else (ladderbackref07_Goes.j1 kj2 a1 a0 (a0 == 13)))) = some r := by rw [if_neg (show ¬ (false = true) by decide)] at H; exact H
    clear H
    have H := H1
    clear H1
    have HC6 := Aside0.mk H
    clear H
    go_upto_if 12 with (fail)
    go_cut [12] (fun v12 wc => ∃ (kq : Nat) (x12_5 : Bool), v12 = .bool x12_5 ∧ Aside0 (ladderbackref07_Goes.j1 kq a1 a0 x12_5 = some r) ∧ Aside0 (kq ≤ kj2) ∧ Drawn0 w wc)
    case first =>
     have H := HC6.out
     clear HC6
     by_cases c7 : a0 = 8
     ·
      rw [if_pos c7] at H
      have c7b0 : (a0 == 8) = true := beq_iff_eq.mpr c7
      have c7b1 : (a0 != 8) = false := bne_eq_false_iff_eq.mpr c7
      clear c7
      (first | rw [c7b0] | (simp only [i64_w, i32_w]; rw [c7b0]) | rw [c7b1] | skip)
      have H' := Aside0.mk H
      clear H
      go_wp2
      go_meet
      case rel => exact ⟨_, ((a0 == 8)), (by first | rfl | (simp; done) | (simp [*]; done)), H', ⟨by have := HJ2.out; first | omega | exact Nat.le_refl _⟩, by repeat (first | exact Drawn0.refl _ | apply Drawn0.step)⟩
     ·
      rw [if_neg c7] at H
      have c7b0 : (a0 == 8) = false := beq_eq_false_iff_ne.mpr c7
      have c7b1 : (a0 != 8) = true := bne_iff_ne.mpr c7
      (first | rw [c7b0] | (simp only [i64_w, i32_w]; rw [c7b0]) | rw [c7b1] | skip)
      by_cases c8 : a0 = 9
      ·
       rw [if_pos c8] at H
       have c8b0 : (a0 == 9) = true := beq_iff_eq.mpr c8
       have c8b1 : (a0 != 9) = false := bne_eq_false_iff_eq.mpr c8
       clear c8
       have H' := Aside0.mk H
       clear H
       go_wp2
       go_meet
       case rel => exact ⟨_, ((a0 == 9)), (by first | rfl | (simp; done) | (simp [*]; done)), H', ⟨by have := HJ2.out; first | omega | exact Nat.le_refl _⟩, by repeat (first | exact Drawn0.refl _ | apply Drawn0.step)⟩
      ·
       rw [if_neg c8] at H
       have c8b0 : (a0 == 9) = false := beq_eq_false_iff_ne.mpr c8
       have c8b1 : (a0 != 9) = true := bne_iff_ne.mpr c8
       have H' := Aside0.mk H
       clear H
       go_wp2
       go_meet
       case rel => exact ⟨_, ((a0 == 13)), (by first | rfl | (simp; done) | (simp [*]; done)), H', ⟨by have := HJ2.out; first | omega | exact Nat.le_refl _⟩, by repeat (first | exact Drawn0.refl _ | apply Drawn0.step)⟩
    case rest =>
     clear HC6
     try clear c5
     obtain ⟨kq, x12_5, rfl, HA, HJ5, ⟨mc5, rfl⟩⟩ := hcut
     cases kq with
     | zero => exact absurd HA.out (by simp [ladderbackref07_Goes.j1])
     | succ kj5 =>
      have H := HA.out
      clear HA
      simp only [ladderbackref07_Goes.j1] at H
      by_cases c9 : x12_5 = true
      ·
       subst c9
       have H1 : (if a1 = 2 then (some true) else (if a1 = 3 then (some true) else (some (a1 == 6)))) = some r := by rw [if_pos rfl] at H; exact H
       clear H
       have H := H1
       clear H1
       by_cases c10 : a1 = 2
       ·
        rw [if_pos c10] at H
        have c10b0 : (a1 == 2) = true := beq_iff_eq.mpr c10
        have c10b1 : (a1 != 2) = false := bne_eq_false_iff_eq.mpr c10
        clear c10
        obtain rfl := Option.some.inj H
        go_wp2
        go_ret
        exact ⟨by first | rfl | (simp; done) | (simp [*]; done), by repeat (first | exact Drawn0.refl _ | apply Drawn0.step)⟩
       ·
        rw [if_neg c10] at H
        have c10b0 : (a1 == 2) = false := beq_eq_false_iff_ne.mpr c10
        have c10b1 : (a1 != 2) = true := bne_iff_ne.mpr c10
        by_cases c11 : a1 = 3
        ·
         rw [if_pos c11] at H
         have c11b0 : (a1 == 3) = true := beq_iff_eq.mpr c11
         have c11b1 : (a1 != 3) = false := bne_eq_false_iff_eq.mpr c11
         clear c11
         obtain rfl := Option.some.inj H
         go_wp2
         go_ret
         exact ⟨by first | rfl | (simp; done) | (simp [*]; done), by repeat (first | exact Drawn0.refl _ | apply Drawn0.step)⟩
        ·
         rw [if_neg c11] at H
         have c11b0 : (a1 == 3) = false := beq_eq_false_iff_ne.mpr c11
         have c11b1 : (a1 != 3) = true := bne_iff_ne.mpr c11
         obtain rfl := Option.some.inj H
         go_wp2
         go_ret
         exact ⟨by first | rfl | (simp; done) | (simp [*]; done), by repeat (first | exact Drawn0.refl _ | apply Drawn0.step)⟩
      ·
       replace c9 := Bool.eq_false_iff.mpr c9
       subst c9
       have H1 : (if a0 = 10 then (ladderbackref07_Goes.j2 kj5 a1 a0 (a0 == 10)) else (if a0 = 11 then (ladderbackref07_Goes.j2 kj5 a1 a0 (a0 == 11)) else (ladderbackref07_Goes.j2 kj5 a1 a0 (a0 == 12)))) = some r := by rw [if_neg (show ¬ (false = true) by decide)] at H; exact H
       clear H
       have H := H1
       clear H1
       have HC12 := Aside0.mk H
       clear H
       go_upto_if 26 with (fail)
       go_cut [26] (fun v26 wc => ∃ (kq : Nat) (x26_11 : Bool), v26 = .bool x26_11 ∧ Aside0 (ladderbackref07_Goes.j2 kq a1 a0 x26_11 = some r) ∧ Aside0 (kq ≤ kj5) ∧ Drawn0 w wc)
       case first =>
        have H := HC12.out
        clear HC12
        by_cases c13 : a0 = 10
        ·
         rw [if_pos c13] at H
         have c13b0 : (a0 == 10) = true := beq_iff_eq.mpr c13
         have c13b1 : (a0 != 10) = false := bne_eq_false_iff_eq.mpr c13
         clear c13
         (first | rw [c13b0] | (simp only [i64_w, i32_w]; rw [c13b0]) | rw [c13b1] | skip)
         have H' := Aside0.mk H
         clear H
         go_wp2
         go_meet
         case rel => exact ⟨_, ((a0 == 10)), (by first | rfl | (simp; done) | (simp [*]; done)), H', ⟨by have := HJ2.out; have := HJ5.out; first | omega | exact Nat.le_refl _⟩, by repeat (first | exact Drawn0.refl _ | apply Drawn0.step)⟩
        ·
         rw [if_neg c13] at H
         have c13b0 : (a0 == 10) = false := beq_eq_false_iff_ne.mpr c13
         have c13b1 : (a0 != 10) = true := bne_iff_ne.mpr c13
         (first | rw [c13b0] | (simp only [i64_w, i32_w]; rw [c13b0]) | rw [c13b1] | skip)
         by_cases c14 : a0 = 11
         ·
          rw [if_pos c14] at H
          have c14b0 : (a0 == 11) = true := beq_iff_eq.mpr c14
          have c14b1 : (a0 != 11) = false := bne_eq_false_iff_eq.mpr c14
          clear c14
          have H' := Aside0.mk H
          clear H
          go_wp2
          go_meet
          case rel => exact ⟨_, ((a0 == 11)), (by first | rfl | (simp; done) | (simp [*]; done)), H', ⟨by have := HJ2.out; have := HJ5.out; first | omega | exact Nat.le_refl _⟩, by repeat (first | exact Drawn0.refl _ | apply Drawn0.step)⟩
         ·
          rw [if_neg c14] at H
          have c14b0 : (a0 == 11) = false := beq_eq_false_iff_ne.mpr c14
          have c14b1 : (a0 != 11) = true := bne_iff_ne.mpr c14
          have H' := Aside0.mk H
          clear H
          go_wp2
          go_meet
          case rel => exact ⟨_, ((a0 == 12)), (by first | rfl | (simp; done) | (simp [*]; done)), H', ⟨by have := HJ2.out; have := HJ5.out; first | omega | exact Nat.le_refl _⟩, by repeat (first | exact Drawn0.refl _ | apply Drawn0.step)⟩
       case rest =>
        clear HC12
        try clear c9
        obtain ⟨kq, x26_11, rfl, HA, HJ11, ⟨mc11, rfl⟩⟩ := hcut
        cases kq with
        | zero => exact absurd HA.out (by simp [ladderbackref07_Goes.j2])
        | succ kj11 =>
         have H := HA.out
         clear HA
         simp only [ladderbackref07_Goes.j2] at H
         by_cases c15 : x26_11 = true
         ·
          subst c15
          have H1 : (if a1 = 2 then (some true) else (some (a1 == 3))) = some r := by rw [if_pos rfl] at H; exact H
          clear H
          have H := H1
          clear H1
          by_cases c16 : a1 = 2
          ·
           rw [if_pos c16] at H
           have c16b0 : (a1 == 2) = true := beq_iff_eq.mpr c16
           have c16b1 : (a1 != 2) = false := bne_eq_false_iff_eq.mpr c16
           clear c16
           obtain rfl := Option.some.inj H
           go_wp2
           go_ret
           exact ⟨by first | rfl | (simp; done) | (simp [*]; done), by repeat (first | exact Drawn0.refl _ | apply Drawn0.step)⟩
          ·
           rw [if_neg c16] at H
           have c16b0 : (a1 == 2) = false := beq_eq_false_iff_ne.mpr c16
           have c16b1 : (a1 != 2) = true := bne_iff_ne.mpr c16
           obtain rfl := Option.some.inj H
           go_wp2
           go_ret
           exact ⟨by first | rfl | (simp; done) | (simp [*]; done), by repeat (first | exact Drawn0.refl _ | apply Drawn0.step)⟩
         ·
          replace c15 := Bool.eq_false_iff.mpr c15
          subst c15
          have H1 : (if a0 = 14 then (ladderbackref07_Goes.j3 kj11 a1 a0 (a0 == 14)) else (if a0 = 15 then (ladderbackref07_Goes.j3 kj11 a1 a0 (a0 == 15)) else (if a0 = 16 then (ladderbackref07_Goes.j3 kj11 a1 a0 (a0 == 16)) else (ladderbackref07_Goes.j3 kj11 a1 a0 (a0 == 17))))) = some r := by rw [if_neg (show ¬ (false = true) by decide)] at H; exact H
          clear H
          have H := H1
          clear H1
          have HC17 := Aside0.mk H
          clear H
          go_upto_if 36 with (fail)
          go_cut [36] (fun v36 wc => ∃ (kq : Nat) (x36_16 : Bool), v36 = .bool x36_16 ∧ Aside0 (ladderbackref07_Goes.j3 kq a1 a0 x36_16 = some r) ∧ Aside0 (kq ≤ kj11) ∧ Drawn0 w wc)
          case first =>
           have H := HC17.out
           clear HC17
           by_cases c18 : a0 = 14
           ·
            rw [if_pos c18] at H
            have c18b0 : (a0 == 14) = true := beq_iff_eq.mpr c18
            have c18b1 : (a0 != 14) = false := bne_eq_false_iff_eq.mpr c18
            clear c18
            (first | rw [c18b0] | (simp only [i64_w, i32_w]; rw [c18b0]) | rw [c18b1] | skip)
            have H' := Aside0.mk H
            clear H
            go_wp2
            go_meet
            case rel => exact ⟨_, ((a0 == 14)), (by first | rfl | (simp; done) | (simp [*]; done)), H', ⟨by have := HJ2.out; have := HJ5.out; have := HJ11.out; first | omega | exact Nat.le_refl _⟩, by repeat (first | exact Drawn0.refl _ | apply Drawn0.step)⟩
           ·
            rw [if_neg c18] at H
            have c18b0 : (a0 == 14) = false := beq_eq_false_iff_ne.mpr c18
            have c18b1 : (a0 != 14) = true := bne_iff_ne.mpr c18
            (first | rw [c18b0] | (simp only [i64_w, i32_w]; rw [c18b0]) | rw [c18b1] | skip)
            by_cases c19 : a0 = 15
            ·
             rw [if_pos c19] at H
             have c19b0 : (a0 == 15) = true := beq_iff_eq.mpr c19
             have c19b1 : (a0 != 15) = false := bne_eq_false_iff_eq.mpr c19
             clear c19
             have H' := Aside0.mk H
             clear H
             go_wp2
             go_meet
             case rel => exact ⟨_, ((a0 == 15)), (by first | rfl | (simp; done) | (simp [*]; done)), H', ⟨by have := HJ2.out; have := HJ5.out; have := HJ11.out; first | omega | exact Nat.le_refl _⟩, by repeat (first | exact Drawn0.refl _ | apply Drawn0.step)⟩
            ·
             rw [if_neg c19] at H
             have c19b0 : (a0 == 15) = false := beq_eq_false_iff_ne.mpr c19
             have c19b1 : (a0 != 15) = true := bne_iff_ne.mpr c19
             by_cases c20 : a0 = 16
             ·
              rw [if_pos c20] at H
              have c20b0 : (a0 == 16) = true := beq_iff_eq.mpr c20
              have c20b1 : (a0 != 16) = false := bne_eq_false_iff_eq.mpr c20
              clear c20
              have H' := Aside0.mk H
              clear H
              go_wp2
              go_meet
              case rel => exact ⟨_, ((a0 == 16)), (by first | rfl | (simp; done) | (simp [*]; done)), H', ⟨by have := HJ2.out; have := HJ5.out; have := HJ11.out; first | omega | exact Nat.le_refl _⟩, by repeat (first | exact Drawn0.refl _ | apply Drawn0.step)⟩
             ·
              rw [if_neg c20] at H
              have c20b0 : (a0 == 16) = false := beq_eq_false_iff_ne.mpr c20
              have c20b1 : (a0 != 16) = true := bne_iff_ne.mpr c20
              have H' := Aside0.mk H
              clear H
              go_wp2
              go_meet
              case rel => exact ⟨_, ((a0 == 17)), (by first | rfl | (simp; done) | (simp [*]; done)), H', ⟨by have := HJ2.out; have := HJ5.out; have := HJ11.out; first | omega | exact Nat.le_refl _⟩, by repeat (first | exact Drawn0.refl _ | apply Drawn0.step)⟩
          case rest =>
           clear HC17
           try clear c15
           obtain ⟨kq, x36_16, rfl, HA, HJ16, ⟨mc16, rfl⟩⟩ := hcut
           cases kq with
           | zero => exact absurd HA.out (by simp [ladderbackref07_Goes.j3])
           | succ kj16 =>
            have H := HA.out
            clear HA
            simp only [ladderbackref07_Goes.j3] at H
            by_cases c21 : x36_16 = true
            ·
             subst c21
             have H1 : (if a1 = 1 then (some true) else (if a1 = 4 then (some true) else (some (a1 == 5)))) = some r := by rw [if_pos rfl] at H; exact H
             clear H
             have H := H1
             clear H1
             by_cases c22 : a1 = 1
             ·
              rw [if_pos c22] at H
              have c22b0 : (a1 == 1) = true := beq_iff_eq.mpr c22
              have c22b1 : (a1 != 1) = false := bne_eq_false_iff_eq.mpr c22
              clear c22
              obtain rfl := Option.some.inj H
              go_wp2
              go_ret
              exact ⟨by first | rfl | (simp; done) | (simp [*]; done), by repeat (first | exact Drawn0.refl _ | apply Drawn0.step)⟩
             ·
              rw [if_neg c22] at H
              have c22b0 : (a1 == 1) = false := beq_eq_false_iff_ne.mpr c22
              have c22b1 : (a1 != 1) = true := bne_iff_ne.mpr c22
              by_cases c23 : a1 = 4
              ·
               rw [if_pos c23] at H
               have c23b0 : (a1 == 4) = true := beq_iff_eq.mpr c23
               have c23b1 : (a1 != 4) = false := bne_eq_false_iff_eq.mpr c23
               clear c23
               obtain rfl := Option.some.inj H
               go_wp2
               go_ret
               exact ⟨by first | rfl | (simp; done) | (simp [*]; done), by repeat (first | exact Drawn0.refl _ | apply Drawn0.step)⟩
              ·
               rw [if_neg c23] at H
               have c23b0 : (a1 == 4) = false := beq_eq_false_iff_ne.mpr c23
               have c23b1 : (a1 != 4) = true := bne_iff_ne.mpr c23
               obtain rfl := Option.some.inj H
               go_wp2
               go_ret
               exact ⟨by first | rfl | (simp; done) | (simp [*]; done), by repeat (first | exact Drawn0.refl _ | apply Drawn0.step)⟩
            ·
             replace c21 := Bool.eq_false_iff.mpr c21
             subst c21
             have H1 : (if a0 = 18 then (ladderbackref07_Goes.j4 kj16 a1 a0 (a0 == 18)) else (ladderbackref07_Goes.j4 kj16 a1 a0 (a0 == 19))) = some r := by rw [if_neg (show ¬ (false = true) by decide)] at H; exact H
             clear H
             have H := H1
             clear H1
             have HC24 := Aside0.mk H
             clear H
             go_upto_if 51 with (fail)
             go_cut [51] (fun v51 wc => ∃ (kq : Nat) (x51_23 : Bool), v51 = .bool x51_23 ∧ Aside0 (ladderbackref07_Goes.j4 kq a1 a0 x51_23 = some r) ∧ Aside0 (kq ≤ kj16) ∧ Drawn0 w wc)
             case first =>
              have H := HC24.out
              clear HC24
              by_cases c25 : a0 = 18
              ·
               rw [if_pos c25] at H
               have c25b0 : (a0 == 18) = true := beq_iff_eq.mpr c25
               have c25b1 : (a0 != 18) = false := bne_eq_false_iff_eq.mpr c25
               clear c25
               (first | rw [c25b0] | (simp only [i64_w, i32_w]; rw [c25b0]) | rw [c25b1] | skip)
               have H' := Aside0.mk H
               clear H
               go_wp2
               go_meet
               case rel => exact ⟨_, ((a0 == 18)), (by first | rfl | (simp; done) | (simp [*]; done)), H', ⟨by have := HJ2.out; have := HJ5.out; have := HJ11.out; have := HJ16.out; first | omega | exact Nat.le_refl _⟩, by repeat (first | exact Drawn0.refl _ | apply Drawn0.step)⟩
              ·
               rw [if_neg c25] at H
               have c25b0 : (a0 == 18) = false := beq_eq_false_iff_ne.mpr c25
               have c25b1 : (a0 != 18) = true := bne_iff_ne.mpr c25
               (first | rw [c25b0] | (simp only [i64_w, i32_w]; rw [c25b0]) | rw [c25b1] | skip)
               have H' := Aside0.mk H
               clear H
               go_wp2
               go_meet
               case rel => exact ⟨_, ((a0 == 19)), (by first | rfl | (simp; done) | (simp [*]; done)), H', ⟨by have := HJ2.out; have := HJ5.out; have := HJ11.out; have := HJ16.out; first | omega | exact Nat.le_refl _⟩, by repeat (first | exact Drawn0.refl _ | apply Drawn0.step)⟩
             case rest =>
              clear HC24
              try clear c21
              obtain ⟨kq, x51_23, rfl, HA, HJ23, ⟨mc23, rfl⟩⟩ := hcut
              cases kq with
              | zero => exact absurd HA.out (by simp [ladderbackref07_Goes.j4])
              | succ kj23 =>
               have H := HA.out
               clear HA
               simp only [ladderbackref07_Goes.j4] at H
               by_cases c26 : x51_23 = true
               ·
                subst c26
                have H1 : (if a1 = 4 then (some true) else (some (a1 == 5))) = some r := by rw [if_pos rfl] at H; exact H
                clear H
                have H := H1
                clear H1
                by_cases c27 : a1 = 4
                ·
                 rw [if_pos c27] at H
                 have c27b0 : (a1 == 4) = true := beq_iff_eq.mpr c27
                 have c27b1 : (a1 != 4) = false := bne_eq_false_iff_eq.mpr c27
                 clear c27
                 obtain rfl := Option.some.inj H
                 go_wp2
                 go_ret
                 exact ⟨by first | rfl | (simp; done) | (simp [*]; done), by repeat (first | exact Drawn0.refl _ | apply Drawn0.step)⟩
                ·
                 rw [if_neg c27] at H
                 have c27b0 : (a1 == 4) = false := beq_eq_false_iff_ne.mpr c27
                 have c27b1 : (a1 != 4) = true := bne_iff_ne.mpr c27
                 obtain rfl := Option.some.inj H
                 go_wp2
                 go_ret
                 exact ⟨by first | rfl | (simp; done) | (simp [*]; done), by repeat (first | exact Drawn0.refl _ | apply Drawn0.step)⟩
               ·
                replace c26 := Bool.eq_false_iff.mpr c26
                subst c26
                have H1 : (if a0 = 20 then (ladderbackref07_Goes.j5 kj23 a1 a0 (a0 == 20)) else (ladderbackref07_Goes.j5 kj23 a1 a0 (a0 == 21))) = some r := by rw [if_neg (show ¬ (false = true) by decide)] at H; exact H
                clear H
                have H := H1
                clear H1
                have HC28 := Aside0.mk H
                clear H
                go_upto_if 60 with (fail)
                go_cut [60] (fun v60 wc => ∃ (kq : Nat) (x60_27 : Bool), v60 = .bool x60_27 ∧ Aside0 (ladderbackref07_Goes.j5 kq a1 a0 x60_27 = some r) ∧ Aside0 (kq ≤ kj23) ∧ Drawn0 w wc)
                case first =>
                 have H := HC28.out
                 clear HC28
                 by_cases c29 : a0 = 20
                 ·
                  rw [if_pos c29] at H
                  have c29b0 : (a0 == 20) = true := beq_iff_eq.mpr c29
                  have c29b1 : (a0 != 20) = false := bne_eq_false_iff_eq.mpr c29
                  clear c29
                  (first | rw [c29b0] | (simp only [i64_w, i32_w]; rw [c29b0]) | rw [c29b1] | skip)
                  have H' := Aside0.mk H
                  clear H
                  go_wp2
                  go_meet
                  case rel => exact ⟨_, ((a0 == 20)), (by first | rfl | (simp; done) | (simp [*]; done)), H', ⟨by have := HJ2.out; have := HJ5.out; have := HJ11.out; have := HJ16.out; have := HJ23.out; first | omega | exact Nat.le_refl _⟩, by repeat (first | exact Drawn0.refl _ | apply Drawn0.step)⟩
                 ·
                  rw [if_neg c29] at H
                  have c29b0 : (a0 == 20) = false := beq_eq_false_iff_ne.mpr c29
                  have c29b1 : (a0 != 20) = true := bne_iff_ne.mpr c29
                  (first | rw [c29b0] | (simp only [i64_w, i32_w]; rw [c29b0]) | rw [c29b1] | skip)
                  have H' := Aside0.mk H
                  clear H
                  go_wp2
                  go_meet
                  case rel => exact ⟨_, ((a0 == 21)), (by first | rfl | (simp; done) | (simp [*]; done)), H', ⟨by have := HJ2.out; have := HJ5.out; have := HJ11.out; have := HJ16.out; have := HJ23.out; first | omega | exact Nat.le_refl _⟩, by repeat (first | exact Drawn0.refl _ | apply Drawn0.step)⟩
                case rest =>
                 clear HC28
                 try clear c26
                 obtain ⟨kq, x60_27, rfl, HA, HJ27, ⟨mc27, rfl⟩⟩ := hcut
                 cases kq with
                 | zero => exact absurd HA.out (by simp [ladderbackref07_Goes.j5])
                 | succ kj27 =>
                  have H := HA.out
                  clear HA
                  simp only [ladderbackref07_Goes.j5] at H
                  by_cases c30 : x60_27 = true
                  ·
                   subst c30
                   have H1 : (some true) = some r := by rw [if_pos rfl] at H; exact H
                   clear H
                   have H := H1
                   clear H1
                   obtain rfl := Option.some.inj H
                   go_wp2
                   go_ret
                   exact ⟨by first | rfl | (simp; done) | (simp [*]; done), by repeat (first | exact Drawn0.refl _ | apply Drawn0.step)⟩
                  ·
                   replace c30 := Bool.eq_false_iff.mpr c30
                   subst c30
                   have H1 : (if a0 = 22 then (some (a1 != 1)) else (if a0 = 23 then (some (a1 != 1)) else (if a0 = 24 then (some (a1 != 1)) else (if a0 = 25 then (some (a1 != 1)) else (some false))))) = some r := by rw [if_neg (show ¬ (false = true) by decide)] at H; exact H
                   clear H
                   have H := H1
                   clear H1
                   by_cases c31 : a0 = 22
                   ·
                    rw [if_pos c31] at H
                    have c31b0 : (a0 == 22) = true := beq_iff_eq.mpr c31
                    have c31b1 : (a0 != 22) = false := bne_eq_false_iff_eq.mpr c31
                    clear c31
                    obtain rfl := Option.some.inj H
                    go_wp2
                    go_ret
                    exact ⟨by first | rfl | (simp; done) | (simp [*]; done), by repeat (first | exact Drawn0.refl _ | apply Drawn0.step)⟩
                   ·
                    rw [if_neg c31] at H
                    have c31b0 : (a0 == 22) = false := beq_eq_false_iff_ne.mpr c31
                    have c31b1 : (a0 != 22) = true := bne_iff_ne.mpr c31
                    by_cases c32 : a0 = 23
                    ·
                     rw [if_pos c32] at H
                     have c32b0 : (a0 == 23) = true := beq_iff_eq.mpr c32
                     have c32b1 : (a0 != 23) = false := bne_eq_false_iff_eq.mpr c32
                     clear c32
                     obtain rfl := Option.some.inj H
                     go_wp2
                     go_ret
                     exact ⟨by first | rfl | (simp; done) | (simp [*]; done), by repeat (first | exact Drawn0.refl _ | apply Drawn0.step)⟩
                    ·
                     rw [if_neg c32] at H
                     have c32b0 : (a0 == 23) = false := beq_eq_false_iff_ne.mpr c32
                     have c32b1 : (a0 != 23) = true := bne_iff_ne.mpr c32
                     by_cases c33 : a0 = 24
                     ·
                      rw [if_pos c33] at H
                      have c33b0 : (a0 == 24) = true := beq_iff_eq.mpr c33
                      have c33b1 : (a0 != 24) = false := bne_eq_false_iff_eq.mpr c33
                      clear c33
                      obtain rfl := Option.some.inj H
                      go_wp2
                      go_ret
                      exact ⟨by first | rfl | (simp; done) | (simp [*]; done), by repeat (first | exact Drawn0.refl _ | apply Drawn0.step)⟩
                     ·
                      rw [if_neg c33] at H
                      have c33b0 : (a0 == 24) = false := beq_eq_false_iff_ne.mpr c33
                      have c33b1 : (a0 != 24) = true := bne_iff_ne.mpr c33
                      by_cases c34 : a0 = 25
                      ·
                       rw [if_pos c34] at H
                       have c34b0 : (a0 == 25) = true := beq_iff_eq.mpr c34
                       have c34b1 : (a0 != 25) = false := bne_eq_false_iff_eq.mpr c34
                       clear c34
                       obtain rfl := Option.some.inj H
                       go_wp2
                       go_ret
                       exact ⟨by first | rfl | (simp; done) | (simp [*]; done), by repeat (first | exact Drawn0.refl _ | apply Drawn0.step)⟩
                      ·
                       rw [if_neg c34] at H
                       have c34b0 : (a0 == 25) = false := beq_eq_false_iff_ne.mpr c34
                       have c34b1 : (a0 != 25) = true := bne_iff_ne.mpr c34
                       obtain rfl := Option.some.inj H
                       go_wp2
                       go_ret
                       exact ⟨by first | rfl | (simp; done) | (simp [*]; done), by repeat (first | exact Drawn0.refl _ | apply Drawn0.step)⟩

end Go.Proofs.YtfioegoeeflkbaaDoor.QExprTypes
