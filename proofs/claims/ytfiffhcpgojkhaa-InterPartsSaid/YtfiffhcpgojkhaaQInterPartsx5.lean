-- Printed by a program of this session's over the kit's printer (wip/patch_print.py).
import Derived.Test.YtfiffhcpgojkhaaQInterPartsx0
namespace Go.Proofs.Ytfiffhcpgojkhaa.QInterParts
open Go.RowKit Go.Proofs.Ytfiffhcpgojkhaa Go.Proofs.YtfiffhcpgojkhaaW.PrintWords Go.Proofs.YtfiffhcpgojkhaaW.PrintLast Go.Proofs.YtfiffhcpgojkhaaW.PrintMore
attribute [local go_sem] setCell_drewN0 max2_int min2_int max_two min_two max_three min_three max_four min_four   -- for this text's walks alone
set_option linter.unusedVariables false
set_option linter.unusedSimpArgs false

/-! ### ladderbackref31_Reach: function 49 -/
theorem p5_0 {P : Prop} (h : P := by first | (with_reducible assumption) | assumption) : P := h
theorem p5_1 {P : Prop} (h : P := by first | rfl | (simp; done) | (simp [*]; done)) : P := h
theorem p5_2 {P : Prop} (h : P := by repeat (first | (with_reducible first | exact HB.out | apply below_alloc | apply pw_below_drewN | apply below_drew1) | exact HB.out)) : P := h
mutual
def ladderbackref31_Reach.j0 : Nat → List (List Int) → Int → Int → List Bool → Bool → Option (List Bool)
 | 0, _, _, _, _, _ => none
 | k + 1, x0, x1, x2, x7, x27 => if x27 = true then (some x7) else (if 0 ≤ x1 then (if x1 < (x7.length : Int) then (ladderbackref31_Reach.l0 k x0 x2 (x7.set (x1 : Int).toNat true) 0) else (none)) else (none))
def ladderbackref31_Reach.l0 : Nat → List (List Int) → Int → List Bool → Int → Option (List Bool)
 | 0, _, _, _, _ => none
 | k + 1, x0, x2, x7, x8 => if x8 < (x0.length : Int) then (ladderbackref31_Reach.l1 k x0 x2 x7 x8 0) else (some x7)
def ladderbackref31_Reach.l1 : Nat → List (List Int) → Int → List Bool → Int → Int → Option (List Bool)
 | 0, _, _, _, _, _ => none
 | k + 1, x0, x2, x7, x8, x9 => if x9 < (x0.length : Int) then (ladderbackref31_Reach.l2 k x0 x2 x7 x8 x9 0) else (ladderbackref31_Reach.l0 k x0 x2 x7 (wrap64 (x8 + 1)))
def ladderbackref31_Reach.l2 : Nat → List (List Int) → Int → List Bool → Int → Int → Int → Option (List Bool)
 | 0, _, _, _, _, _, _ => none
 | k + 1, x0, x2, x7, x8, x9, x10 => if 0 ≤ x9 then (if x9 < (x0.length : Int) then (if x10 < ((rd_L1 x0 x9).length : Int) then (if x9 < (x7.length : Int) then (ladderbackref31_Reach.j4 k x0 x2 x7 x8 x9 x10 (rdOf false x7 x9)) else (none)) else (ladderbackref31_Reach.j4 k x0 x2 x7 x8 x9 x10 false)) else (none)) else (none)
def ladderbackref31_Reach.j4 : Nat → List (List Int) → Int → List Bool → Int → Int → Int → Bool → Option (List Bool)
 | 0, _, _, _, _, _, _, _ => none
 | k + 1, x0, x2, x7, x8, x9, x10, x56 => if x56 = true then (if 0 ≤ x9 then (if x9 < (x0.length : Int) then (if 0 ≤ x10 then (if x10 < ((rd_L1 x0 x9).length : Int) then (if (rd (rd_L1 x0 x9) x10) ≥ 0 then (if (rd (rd_L1 x0 x9) x10) < (x0.length : Int) then (if (rd (rd_L1 x0 x9) x10) = x2 then (ladderbackref31_Reach.l2 k x0 x2 x7 x8 x9 (wrap64 (x10 + 1))) else (if 0 ≤ (rd (rd_L1 x0 x9) x10) then (if (rd (rd_L1 x0 x9) x10) < (x7.length : Int) then (ladderbackref31_Reach.l2 k x0 x2 (x7.set ((rd (rd_L1 x0 x9) x10) : Int).toNat true) x8 x9 (wrap64 (x10 + 1))) else (none)) else (none))) else (ladderbackref31_Reach.l2 k x0 x2 x7 x8 x9 (wrap64 (x10 + 1)))) else (ladderbackref31_Reach.l2 k x0 x2 x7 x8 x9 (wrap64 (x10 + 1)))) else (none)) else (none)) else (none)) else (none)) else (ladderbackref31_Reach.l1 k x0 x2 x7 x8 (wrap64 (x9 + 1)))
end
def ladderbackref31_Reach.f (k : Nat) (l0 : List (List Int)) (a1 : Int) (a2 : Int) : Option (List Bool) := if 0 ≤ (l0.length : Int) then (if ((l0.length : Int) : Int).toNat ≤ 281474976710656 then ((some (List.replicate ((l0.length : Int) : Int).toNat false : List Bool)).bind fun y217 => (if a1 < 0 then (ladderbackref31_Reach.j0 k l0 a1 a2 y217 true) else (if a1 ≥ (l0.length : Int) then (ladderbackref31_Reach.j0 k l0 a1 a2 y217 true) else (ladderbackref31_Reach.j0 k l0 a1 a2 y217 (a1 == a2))))) else (none)) else (none)
theorem ladderbackref31_Reach.mono_l : ∀ k, (∀ y0 y1 y2 y3 y4, LeO (ladderbackref31_Reach.j0 k y0 y1 y2 y3 y4) (ladderbackref31_Reach.j0 (k + 1) y0 y1 y2 y3 y4)) ∧ (∀ y0 y1 y2 y3, LeO (ladderbackref31_Reach.l0 k y0 y1 y2 y3) (ladderbackref31_Reach.l0 (k + 1) y0 y1 y2 y3)) ∧ (∀ y0 y1 y2 y3 y4, LeO (ladderbackref31_Reach.l1 k y0 y1 y2 y3 y4) (ladderbackref31_Reach.l1 (k + 1) y0 y1 y2 y3 y4)) ∧ (∀ y0 y1 y2 y3 y4 y5, LeO (ladderbackref31_Reach.l2 k y0 y1 y2 y3 y4 y5) (ladderbackref31_Reach.l2 (k + 1) y0 y1 y2 y3 y4 y5)) ∧ (∀ y0 y1 y2 y3 y4 y5 y6, LeO (ladderbackref31_Reach.j4 k y0 y1 y2 y3 y4 y5 y6) (ladderbackref31_Reach.j4 (k + 1) y0 y1 y2 y3 y4 y5 y6))
 | 0 => ⟨fun _ _ _ _ _ r h => by simp [ladderbackref31_Reach.j0] at h, fun _ _ _ _ r h => by simp [ladderbackref31_Reach.l0] at h, fun _ _ _ _ _ r h => by simp [ladderbackref31_Reach.l1] at h, fun _ _ _ _ _ _ r h => by simp [ladderbackref31_Reach.l2] at h, fun _ _ _ _ _ _ _ r h => by simp [ladderbackref31_Reach.j4] at h⟩
 | k + 1 => by
  obtain ⟨ih0, ih1, ih2, ih3, ih4⟩ := ladderbackref31_Reach.mono_l k
  refine ⟨?_, ?_, ?_, ?_, ?_⟩
  ·
   intro y0 y1 y2 y3 y4
   unfold ladderbackref31_Reach.j0
   repeat' first
   | (with_reducible exact ih0 _ _ _ _ _)
   | (with_reducible exact ih1 _ _ _ _)
   | (with_reducible exact ih2 _ _ _ _ _)
   | (with_reducible exact ih3 _ _ _ _ _ _)
   | (with_reducible exact ih4 _ _ _ _ _ _ _)
   | (with_reducible exact LeO.refl _)
   | (with_reducible exact LeO.none _)
   | (with_reducible refine LeO.ite ?_ ?_)
   | (with_reducible refine LeO.bind ?_ (fun _ => ?_))
   | exact ih0 _ _ _ _ _
   | exact ih1 _ _ _ _
   | exact ih2 _ _ _ _ _
   | exact ih3 _ _ _ _ _ _
   | exact ih4 _ _ _ _ _ _ _
   | exact LeO.none _
   | refine LeO.ite ?_ ?_
   | refine LeO.bind ?_ (fun _ => ?_)
  ·
   intro y0 y1 y2 y3
   unfold ladderbackref31_Reach.l0
   repeat' first
   | (with_reducible exact ih0 _ _ _ _ _)
   | (with_reducible exact ih1 _ _ _ _)
   | (with_reducible exact ih2 _ _ _ _ _)
   | (with_reducible exact ih3 _ _ _ _ _ _)
   | (with_reducible exact ih4 _ _ _ _ _ _ _)
   | (with_reducible exact LeO.refl _)
   | (with_reducible exact LeO.none _)
   | (with_reducible refine LeO.ite ?_ ?_)
   | (with_reducible refine LeO.bind ?_ (fun _ => ?_))
   | exact ih0 _ _ _ _ _
   | exact ih1 _ _ _ _
   | exact ih2 _ _ _ _ _
   | exact ih3 _ _ _ _ _ _
   | exact ih4 _ _ _ _ _ _ _
   | exact LeO.none _
   | refine LeO.ite ?_ ?_
   | refine LeO.bind ?_ (fun _ => ?_)
  ·
   intro y0 y1 y2 y3 y4
   unfold ladderbackref31_Reach.l1
   repeat' first
   | (with_reducible exact ih0 _ _ _ _ _)
   | (with_reducible exact ih1 _ _ _ _)
   | (with_reducible exact ih2 _ _ _ _ _)
   | (with_reducible exact ih3 _ _ _ _ _ _)
   | (with_reducible exact ih4 _ _ _ _ _ _ _)
   | (with_reducible exact LeO.refl _)
   | (with_reducible exact LeO.none _)
   | (with_reducible refine LeO.ite ?_ ?_)
   | (with_reducible refine LeO.bind ?_ (fun _ => ?_))
   | exact ih0 _ _ _ _ _
   | exact ih1 _ _ _ _
   | exact ih2 _ _ _ _ _
   | exact ih3 _ _ _ _ _ _
   | exact ih4 _ _ _ _ _ _ _
   | exact LeO.none _
   | refine LeO.ite ?_ ?_
   | refine LeO.bind ?_ (fun _ => ?_)
  ·
   intro y0 y1 y2 y3 y4 y5
   unfold ladderbackref31_Reach.l2
   repeat' first
   | (with_reducible exact ih0 _ _ _ _ _)
   | (with_reducible exact ih1 _ _ _ _)
   | (with_reducible exact ih2 _ _ _ _ _)
   | (with_reducible exact ih3 _ _ _ _ _ _)
   | (with_reducible exact ih4 _ _ _ _ _ _ _)
   | (with_reducible exact LeO.refl _)
   | (with_reducible exact LeO.none _)
   | (with_reducible refine LeO.ite ?_ ?_)
   | (with_reducible refine LeO.bind ?_ (fun _ => ?_))
   | exact ih0 _ _ _ _ _
   | exact ih1 _ _ _ _
   | exact ih2 _ _ _ _ _
   | exact ih3 _ _ _ _ _ _
   | exact ih4 _ _ _ _ _ _ _
   | exact LeO.none _
   | refine LeO.ite ?_ ?_
   | refine LeO.bind ?_ (fun _ => ?_)
  ·
   intro y0 y1 y2 y3 y4 y5 y6
   unfold ladderbackref31_Reach.j4
   repeat' first
   | (with_reducible exact ih0 _ _ _ _ _)
   | (with_reducible exact ih1 _ _ _ _)
   | (with_reducible exact ih2 _ _ _ _ _)
   | (with_reducible exact ih3 _ _ _ _ _ _)
   | (with_reducible exact ih4 _ _ _ _ _ _ _)
   | (with_reducible exact LeO.refl _)
   | (with_reducible exact LeO.none _)
   | (with_reducible refine LeO.ite ?_ ?_)
   | (with_reducible refine LeO.bind ?_ (fun _ => ?_))
   | exact ih0 _ _ _ _ _
   | exact ih1 _ _ _ _
   | exact ih2 _ _ _ _ _
   | exact ih3 _ _ _ _ _ _
   | exact ih4 _ _ _ _ _ _ _
   | exact LeO.none _
   | refine LeO.ite ?_ ?_
   | refine LeO.bind ?_ (fun _ => ?_)
theorem ladderbackref31_Reach.mono : ∀ a0 a1 a2 k, LeO (ladderbackref31_Reach.f k a0 a1 a2) (ladderbackref31_Reach.f (k + 1) a0 a1 a2) := by
 intro a0 a1 a2 k
 obtain ⟨ih0, ih1, ih2, ih3, ih4⟩ := ladderbackref31_Reach.mono_l k
 unfold ladderbackref31_Reach.f
 repeat' first
   | (with_reducible exact ih0 _ _ _ _ _)
   | (with_reducible exact ih1 _ _ _ _)
   | (with_reducible exact ih2 _ _ _ _ _)
   | (with_reducible exact ih3 _ _ _ _ _ _)
   | (with_reducible exact ih4 _ _ _ _ _ _ _)
   | (with_reducible exact LeO.refl _)
   | (with_reducible exact LeO.none _)
   | (with_reducible refine LeO.ite ?_ ?_)
   | (with_reducible refine LeO.bind ?_ (fun _ => ?_))
   | exact ih0 _ _ _ _ _
   | exact ih1 _ _ _ _
   | exact ih2 _ _ _ _ _
   | exact ih3 _ _ _ _ _ _
   | exact ih4 _ _ _ _ _ _ _
   | exact LeO.none _
   | refine LeO.ite ?_ ?_
   | refine LeO.bind ?_ (fun _ => ?_)
set_option maxHeartbeats 8000000 in
set_option maxRecDepth 100000 in
theorem ladderbackref31_Reach.calls (k : Nat) (A0 : Option Addr) (c0 : Nat) (l0 : List (List Int)) (a1 : Int) (a2 : Int) (r : List Bool) (w : World) (hr0 : Kd.C (Kd.slice 3 (Kd.int .i64)) w A0 l0.length l0) (hc0 : l0.length ≤ c0) (h : ladderbackref31_Reach.f k l0 a1 a2 = some r) :
  Calls Try.prog 49 #[.slice A0 l0.length c0, .int .i64 a1, .int .i64 a2] w fun e w' => ∃ v0_ : Value, e = .returned (v0_) ∧ Kd.R Kd.bool 4 w' w.heap.size (fun _ => True) v0_ r ∧ Below w.heap.size w w' := by
 have HR0 := Aside0.mk hr0
 have HC0 := Aside0.mk hc0
 clear hr0 hc0
 have HB := Aside0.mk (Below.refl w.heap.size w)
 have H : (if 0 ≤ (l0.length : Int) then (if ((l0.length : Int) : Int).toNat ≤ 281474976710656 then ((some (List.replicate ((l0.length : Int) : Int).toNat false : List Bool)).bind fun y217 => (if a1 < 0 then (ladderbackref31_Reach.j0 k l0 a1 a2 y217 true) else (if a1 ≥ (l0.length : Int) then (ladderbackref31_Reach.j0 k l0 a1 a2 y217 true) else (ladderbackref31_Reach.j0 k l0 a1 a2 y217 (a1 == a2))))) else (none)) else (none)) = some r := h
 clear h
 by_cases c4 : 0 ≤ (l0.length : Int)
 ·
  rw [if_pos c4] at H
  have c4b0 := eq_true c4
  have c4b1 : decide (0 ≤ (l0.length : Int)) = true := decide_eq_true c4
  clear c4
  by_cases c5 : ((l0.length : Int) : Int).toNat ≤ 281474976710656
  ·
   rw [if_pos c5] at H
   have c5b0 := eq_true c5
   have c5b1 : decide (((l0.length : Int) : Int).toNat ≤ 281474976710656) = true := decide_eq_true c5
   clear c5
   obtain ⟨y217, hy217⟩ : ∃ y_ : List Bool, y_ = (List.replicate ((l0.length : Int) : Int).toNat false) := ⟨_, rfl⟩
   replace H : (if a1 < 0 then (ladderbackref31_Reach.j0 k l0 a1 a2 y217 true) else (if a1 ≥ (l0.length : Int) then (ladderbackref31_Reach.j0 k l0 a1 a2 y217 true) else (ladderbackref31_Reach.j0 k l0 a1 a2 y217 (a1 == a2)))) = some r := by first | (rw [hy217]; with_reducible exact H) | (have H2_ := (Option.bind_some _ _).symm.trans H; rw [hy217]; with_reducible exact H2_) | (have H2_ := (Option.bind_some _ _).symm.trans H; with_reducible exact H2_) | with_reducible exact H | (rw [hy217]; exact H) | exact H
   have Ny217 := Aside0.mk hy217
   clear hy217
   have HC6 := Aside0.mk H
   clear H
   go_enter Try.func49, Try.ntmps49
   go_upto_region 2 with (first | ((with_reducible refine gate_dst (N := 14) rfl ?_); (try (refine gate_guard (by rfl) ?_; dsimp only)); refine Kd.R_make Kd.bool _ 4 rfl (N := 14) rfl 25 _ _ rfl (l0.length : Int) rfl rfl Try.underlying25 (.bool false) 1 info4 rfl (by decide) (by omega) false (ok := fun _ => True) (okp := fun _ => True) rfl (fun _ hk => hk) trivial (of_decide_eq_true p5_0) (Nat.le_trans (Nat.mul_le_mul_right _ (of_decide_eq_true p5_0 : (l0.length : Int).toNat ≤ 281474976710656)) (by omega)) (Below.refl _ _) (Nat.le_refl _) ?_; intro v218 w7 ho8 hb hg_ hnew_; clear hg_ hnew_; (first | rw [← Ny217.out] at ho8 | (simp only [Int.reduceToNat] at ho8; rw [← Ny217.out] at ho8)); have n0_ := Aside0.mk (Kd.R_lower ho8 (below_size p5_2)); have n1_ := Aside0.mk (below_step p5_2 hb); clear HB; have HO219 := n0_; have HB := n1_; clear n0_ n1_; clear hb ho8))
   (try simp only [Act.put, List.setIfInBounds_toArray, List.set_cons_zero, List.set_cons_succ])
   go_cut [27] from 12 to 27 (fun v27 wc => ∃ (kq : Nat) (x27_5 : Bool), v27 = .bool x27_5 ∧ Aside0 (ladderbackref31_Reach.j0 kq l0 a1 a2 y217 x27_5 = some r) ∧ Aside0 (kq ≤ k) ∧ Aside0 (Kd.R Kd.bool 4 wc w.heap.size (fun _ => True) v218 y217) ∧ Aside0 (Below w.heap.size w wc))
   case first =>
    have H := HC6.out
    clear HC6
    by_cases c9 : a1 < 0
    ·
     rw [if_pos c9] at H
     have c9b0 : decide (a1 < 0) = true := decide_eq_true c9
     clear c9
     (first | rw [c9b0] | (simp only [i64_w, i32_w]; rw [c9b0]) | rw [c9b1] | skip)
     have H' := Aside0.mk H
     clear H
     go_wp2
     go_meet
     case rel => exact ⟨_, (true), p5_1, H', ⟨by first | omega | exact Nat.le_refl _⟩, ⟨by (with_reducible repeat (first | apply Kd.R_alloc | apply Kd.R_drewN | apply Kd.R_drew)); exact HO219.out⟩, ⟨by repeat (first | (with_reducible first | exact HB.out | apply below_alloc | apply pw_below_drewN | apply below_drew1) | exact HB.out)⟩⟩
    ·
     rw [if_neg c9] at H
     have c9b0 : decide (a1 < 0) = false := decide_eq_false c9
     clear c9
     (first | rw [c9b0] | (simp only [i64_w, i32_w]; rw [c9b0]) | rw [c9b1] | skip)
     by_cases c10 : a1 ≥ (l0.length : Int)
     ·
      rw [if_pos c10] at H
      have c10b0 : decide ((l0.length : Int) ≤ a1) = true := decide_eq_true c10
      clear c10
      have H' := Aside0.mk H
      clear H
      go_wp2
      go_meet
      case rel => exact ⟨_, (true), p5_1, H', ⟨by first | omega | exact Nat.le_refl _⟩, ⟨by (with_reducible repeat (first | apply Kd.R_alloc | apply Kd.R_drewN | apply Kd.R_drew)); exact HO219.out⟩, ⟨by repeat (first | (with_reducible first | exact HB.out | apply below_alloc | apply pw_below_drewN | apply below_drew1) | exact HB.out)⟩⟩
     ·
      rw [if_neg c10] at H
      have c10b0 : decide ((l0.length : Int) ≤ a1) = false := decide_eq_false c10
      clear c10
      have H' := Aside0.mk H
      clear H
      go_wp2
      go_meet
      case rel => exact ⟨_, ((a1 == a2)), p5_1, H', ⟨by first | omega | exact Nat.le_refl _⟩, ⟨by (with_reducible repeat (first | apply Kd.R_alloc | apply Kd.R_drewN | apply Kd.R_drew)); exact HO219.out⟩, ⟨by repeat (first | (with_reducible first | exact HB.out | apply below_alloc | apply pw_below_drewN | apply below_drew1) | exact HB.out)⟩⟩
   case rest =>
    clear HC6
    (try clear c4); (try clear c4b0); (try clear c4b1); (try clear c5); (try clear c5b0); (try clear c5b1)
    obtain ⟨kq, x27_5, rfl, HA, HJ5, HO_7, HB⟩ := hcut
    cases kq with
    | zero => exact absurd HA.out (by simp [ladderbackref31_Reach.j0])
    | succ kj5 =>
     have H := HA.out
     clear HA
     simp only [ladderbackref31_Reach.j0] at H
     by_cases c11 : x27_5 = true
     ·
      subst c11
      have H1 : (some y217) = some r := by rw [if_pos rfl] at H; exact H
      clear H
      have H := H1
      clear H1
      obtain rfl := Option.some.inj H
      go_wp2
      go_ret
      exact ⟨_, by first | rfl | (simp [errW_none, errW_some] <;> rfl) | (simp [*, errW_none, errW_some] <;> rfl), by (with_reducible repeat (first | apply Kd.R_alloc | apply Kd.R_drewN | apply Kd.R_drew)); exact HO_7.out, by repeat (first | (with_reducible first | exact HB.out | apply below_alloc | apply pw_below_drewN | apply below_drew1) | exact HB.out)⟩
     ·
      replace c11 := Bool.eq_false_iff.mpr c11
      subst c11
      have H1 : (if 0 ≤ a1 then (if a1 < (y217.length : Int) then (ladderbackref31_Reach.l0 kj5 l0 a2 (y217.set (a1 : Int).toNat true) 0) else (none)) else (none)) = some r := by rw [if_neg (show ¬ (false = true) by decide)] at H; exact H
      clear H
      have H := H1
      clear H1
      by_cases c12 : 0 ≤ a1
      ·
       rw [if_pos c12] at H
       have c12b0 : decide (0 ≤ a1) = true := decide_eq_true c12
       clear c12
       by_cases c13 : a1 < (y217.length : Int)
       ·
        rw [if_pos c13] at H
        have c13b0 : decide (a1 < (y217.length : Int)) = true := decide_eq_true c13
        clear c13
        obtain ⟨y220, hy220⟩ : ∃ y_ : List Bool, y_ = (y217.set (a1 : Int).toNat true) := ⟨_, rfl⟩
        replace H : (ladderbackref31_Reach.l0 kj5 l0 a2 y220 0) = some r := by first | (rw [hy220]; with_reducible exact H) | (have H2_ := (Option.bind_some _ _).symm.trans H; rw [hy220]; with_reducible exact H2_) | (have H2_ := (Option.bind_some _ _).symm.trans H; with_reducible exact H2_) | with_reducible exact H | (rw [hy220]; exact H) | exact H
        have Ny220 := Aside0.mk hy220
        clear hy220
        have H' := Aside0.mk H
        clear H
        have p14 : 0 ≤ (a1 : Int) := of_decide_eq_true p5_0
        have q14 : (a1 : Int) < ((y217.length : Int) : Int) := of_decide_eq_true p5_0
        obtain ⟨go14, co14, eo14, gb14, gl14, cl14, HG14⟩ := Kd.R_form HO_7.out (by omega)
        (first | cases eo14 | (injection eo14 with ea_ en_ ec_; (first | subst ea_ | (injection ea_ with ea_; subst ea_)); subst ec_; clear en_))
        have GB14 := Aside0.mk gb14
        have GG14 := Aside0.mk HG14
        clear gb14 gl14 HG14
        obtain ⟨hx14_0, hf14_0⟩ := Kd.R_celln false HO_7.out (a1 : Int) p14 q14
        replace p14 := eq_true p14
        replace q14 := eq_true q14
        have HP15 := Kd.R_putg HO_7.out (a1 : Int) true
        go_wp2_with (first | ((with_reducible refine gate_store (t := 4) (p := 31) rfl ?_); refine store_event (t := 4) (p := 31) (v := ?vo_w16) (w1 := (wc.setCell ⟨go14, (a1 : Int).toNat, none⟩ (.bool true))) ?hg ?ho ?hn ?hr ?_; (case ho => rfl); (case hg => rfl); (case hn => rfl); (case hr => first | (go_simp; done) | (go_simp; rfl)); intro w16 hw; have hg : wc.grownBy w16 (some go14) := (by rw [hw]; exact HP15.2); have hp_ : Kd.R Kd.bool 4 w16 w.heap.size (fun _ => True) (.slice (some ⟨go14, 0, none⟩) y217.length co14) y220 := (by rw [hw, Ny220.out]; exact HP15.1); clear HP15; have n0_ := Aside0.mk (hp_); have n1_ := Aside0.mk ((by rw [hw]; exact below_set (HB.out) GB14.out : Below w.heap.size w w16)); clear HO_7; clear HB; have HO_7 := n0_; have HB := n1_; clear n0_ n1_; clear hg hw hp_))
        go_loopg [8] kj5 (fun kq v8 w' => ∃ (x7_2 : List Bool) (x8_2 : Int), v8 = .int .i64 x8_2 ∧ Aside0 (ladderbackref31_Reach.l0 kq l0 a2 x7_2 x8_2 = some r) ∧ Aside0 (kq ≤ kj5) ∧ Aside0 (Kd.R Kd.bool 4 w' w.heap.size (fun _ => True) (.slice (some ⟨go14, 0, none⟩) y217.length co14) x7_2) ∧ Aside0 (Below w.heap.size w w'))
        case atStart => exact ⟨(y220), (0), p5_1, H', ⟨Nat.le_refl _⟩, ⟨by (with_reducible repeat (first | apply Kd.R_alloc | apply Kd.R_drewN | apply Kd.R_drew)); exact HO_7.out⟩, ⟨by repeat (first | (with_reducible first | exact HB.out | apply below_alloc | apply pw_below_drewN | apply below_drew1) | exact HB.out)⟩⟩
        case round =>
         clear H'
         (try clear c11); (try clear c12); (try clear c12b0); (try clear c13); (try clear c13b0); (try clear p14); (try clear q14); (try clear hx14_0)
         obtain ⟨x7_2, x8_2, rfl, HA, HK2, HO_7, HB⟩ := hrel
         have hl7_2 := (Kd.R_reads' HO_7.out).1
         rw [hl7_2] at HO_7
         (try simp only [hl7_2])
         cases gk with
         | zero => exact absurd HA.out (by simp [ladderbackref31_Reach.l0])
         | succ k2 =>
          have H := HA.out
          clear HA
          simp only [ladderbackref31_Reach.l0] at H
          by_cases c17 : x8_2 < (l0.length : Int)
          ·
           rw [if_pos c17] at H
           have c17b0 : decide (x8_2 < (l0.length : Int)) = true := decide_eq_true c17
           clear c17
           have H' := Aside0.mk H
           clear H
           go_wp2
           go_loopg [9] k2 (fun kq v9 w' => ∃ (x7_3 : List Bool) (x9_3 : Int), v9 = .int .i64 x9_3 ∧ Aside0 (ladderbackref31_Reach.l1 kq l0 a2 x7_3 x8_2 x9_3 = some r) ∧ Aside0 (kq ≤ k2) ∧ Aside0 (Kd.R Kd.bool 4 w' w.heap.size (fun _ => True) (.slice (some ⟨go14, 0, none⟩) x7_2.length co14) x7_3) ∧ Aside0 (Below w.heap.size w w'))
           case atStart => exact ⟨(x7_2), (0), p5_1, H', ⟨Nat.le_refl _⟩, ⟨by (try simp only [hl7_2]); (with_reducible repeat (first | apply Kd.R_alloc | apply Kd.R_drewN | apply Kd.R_drew)); exact HO_7.out⟩, ⟨by repeat (first | (with_reducible first | exact HB.out | apply below_alloc | apply pw_below_drewN | apply below_drew1) | exact HB.out)⟩⟩
           case round =>
            clear H'
            (try clear c17); (try clear c17b0)
            obtain ⟨x7_3, x9_3, rfl, HA, HK3, HO_7, HB⟩ := hrel
            have hl7_3 := (Kd.R_reads' HO_7.out).1
            rw [hl7_3] at HO_7
            (try simp only [hl7_3])
            cases gk with
            | zero => exact absurd HA.out (by simp [ladderbackref31_Reach.l1])
            | succ k3 =>
             have H := HA.out
             clear HA
             simp only [ladderbackref31_Reach.l1] at H
             by_cases c18 : x9_3 < (l0.length : Int)
             ·
              rw [if_pos c18] at H
              have c18b0 : decide (x9_3 < (l0.length : Int)) = true := decide_eq_true c18
              clear c18
              have H' := Aside0.mk H
              clear H
              go_wp2
              go_loopg [10] k3 (fun kq v10 w' => ∃ (x7_4 : List Bool) (x10_4 : Int), v10 = .int .i64 x10_4 ∧ Aside0 (ladderbackref31_Reach.l2 kq l0 a2 x7_4 x8_2 x9_3 x10_4 = some r) ∧ Aside0 (kq ≤ k3) ∧ Aside0 (Kd.R Kd.bool 4 w' w.heap.size (fun _ => True) (.slice (some ⟨go14, 0, none⟩) x7_3.length co14) x7_4) ∧ Aside0 (Below w.heap.size w w'))
              case atStart => exact ⟨(x7_3), (0), p5_1, H', ⟨Nat.le_refl _⟩, ⟨by (try simp only [hl7_2]); (try simp only [hl7_3]); (with_reducible repeat (first | apply Kd.R_alloc | apply Kd.R_drewN | apply Kd.R_drew)); exact HO_7.out⟩, ⟨by repeat (first | (with_reducible first | exact HB.out | apply below_alloc | apply pw_below_drewN | apply below_drew1) | exact HB.out)⟩⟩
              case round =>
               clear H'
               (try clear c18); (try clear c18b0)
               obtain ⟨x7_4, x10_4, rfl, HA, HK4, HO_7, HB⟩ := hrel
               have hl7_4 := (Kd.R_reads' HO_7.out).1
               rw [hl7_4] at HO_7
               (try simp only [hl7_4])
               cases gk with
               | zero => exact absurd HA.out (by simp [ladderbackref31_Reach.l2])
               | succ k4 =>
                have H := HA.out
                clear HA
                simp only [ladderbackref31_Reach.l2] at H
                have HC19 := Aside0.mk H
                clear H
                go_upto_region 12 with (fail)
                go_cut [56] from 44 to 56 (fun v56 wc => ∃ (kq : Nat) (x56_18 : Bool), v56 = .bool x56_18 ∧ Aside0 (ladderbackref31_Reach.j4 kq l0 a2 x7_4 x8_2 x9_3 x10_4 x56_18 = some r) ∧ Aside0 (kq ≤ k4) ∧ Aside0 (Kd.R Kd.bool 4 wc w.heap.size (fun _ => True) (.slice (some ⟨go14, 0, none⟩) x7_4.length co14) x7_4) ∧ Aside0 (Below w.heap.size w wc))
                case first =>
                 have H := HC19.out
                 clear HC19
                 by_cases c20 : 0 ≤ x9_3
                 ·
                  rw [if_pos c20] at H
                  have c20b0 : decide (0 ≤ x9_3) = true := decide_eq_true c20
                  clear c20
                  (first | rw [c20b0] | (simp only [i64_w, i32_w]; rw [c20b0]) | rw [c20b1] | skip)
                  by_cases c21 : x9_3 < (l0.length : Int)
                  ·
                   rw [if_pos c21] at H
                   have c21b0 : decide (x9_3 < (l0.length : Int)) = true := decide_eq_true c21
                   clear c21
                   by_cases c22 : x10_4 < ((rd_L1 l0 x9_3).length : Int)
                   ·
                    rw [if_pos c22] at H
                    have c22b0 : decide (x10_4 < ((rd_L1 l0 x9_3).length : Int)) = true := decide_eq_true c22
                    clear c22
                    by_cases c23 : x9_3 < (x7_4.length : Int)
                    ·
                     rw [if_pos c23] at H
                     have c23b0 : decide (x9_3 < (x7_4.length : Int)) = true := decide_eq_true c23
                     clear c23
                     have H' := Aside0.mk H
                     clear H
                     have p221 : 0 ≤ (x9_3 : Int) := of_decide_eq_true p5_0
                     have q221 : x9_3 < (l0.length : Int) := of_decide_eq_true p5_0
                     obtain ⟨ad221, A221_0, c221_0, e221, hx221_0, hl221_0, hi221_0⟩ := at_L1 HR0.out x9_3 p221 q221
                     cases e221
                     replace hx221_0 := (HB.out.cell (World.block_lt_of_cell? w _ hx221_0)).trans hx221_0
                     have HR221_0 := Aside0.mk hi221_0
                     have HC221_0 := Aside0.mk hl221_0
                     clear hi221_0 hl221_0
                     replace p221 := eq_true p221
                     replace q221 := eq_true q221
                     have p222 : 0 ≤ (x9_3 : Int) := of_decide_eq_true p5_0
                     have q222 : x9_3 < (x7_4.length : Int) := of_decide_eq_true p5_0
                     obtain ⟨ad222, e222, hx222_0⟩ := Kd.at_bool (Kd.R_reads' HO_7.out).2.2 x9_3 p222 q222
                     obtain rfl : (⟨go14, 0, none⟩ : Addr) = ad222 := (by injection e222)
                     (first | simp only [add_plain] at hx222_0 | simp only [add_at] at hx222_0 | simp only [Addr.add, Nat.zero_add] at hx222_0 | skip)
                     replace p222 := eq_true p222
                     replace q222 := eq_true q222
                     go_wp2
                     go_meet
                     case rel => exact ⟨_, (rdOf false x7_4 x9_3), p5_1, H', ⟨by have := HJ5.out; have := HK2.out; have := HK3.out; have := HK4.out; first | omega | exact Nat.le_refl _⟩, ⟨by (try simp only [hl7_2]); (try simp only [hl7_3]); (try simp only [hl7_4]); (with_reducible repeat (first | apply Kd.R_alloc | apply Kd.R_drewN | apply Kd.R_drew)); exact HO_7.out⟩, ⟨by repeat (first | (with_reducible first | exact HB.out | apply below_alloc | apply pw_below_drewN | apply below_drew1) | exact HB.out)⟩⟩
                    ·
                     rw [if_neg c23] at H
                     exact absurd H (by simp)
                   ·
                    rw [if_neg c22] at H
                    have c22b0 : decide (x10_4 < ((rd_L1 l0 x9_3).length : Int)) = false := decide_eq_false c22
                    clear c22
                    have H' := Aside0.mk H
                    clear H
                    have p221 : 0 ≤ (x9_3 : Int) := of_decide_eq_true p5_0
                    have q221 : x9_3 < (l0.length : Int) := of_decide_eq_true p5_0
                    obtain ⟨ad221, A221_0, c221_0, e221, hx221_0, hl221_0, hi221_0⟩ := at_L1 HR0.out x9_3 p221 q221
                    cases e221
                    replace hx221_0 := (HB.out.cell (World.block_lt_of_cell? w _ hx221_0)).trans hx221_0
                    have HR221_0 := Aside0.mk hi221_0
                    have HC221_0 := Aside0.mk hl221_0
                    clear hi221_0 hl221_0
                    replace p221 := eq_true p221
                    replace q221 := eq_true q221
                    go_wp2
                    go_meet
                    case rel => exact ⟨_, (false), p5_1, H', ⟨by have := HJ5.out; have := HK2.out; have := HK3.out; have := HK4.out; first | omega | exact Nat.le_refl _⟩, ⟨by (try simp only [hl7_2]); (try simp only [hl7_3]); (try simp only [hl7_4]); (with_reducible repeat (first | apply Kd.R_alloc | apply Kd.R_drewN | apply Kd.R_drew)); exact HO_7.out⟩, ⟨by repeat (first | (with_reducible first | exact HB.out | apply below_alloc | apply pw_below_drewN | apply below_drew1) | exact HB.out)⟩⟩
                  ·
                   rw [if_neg c21] at H
                   exact absurd H (by simp)
                 ·
                  rw [if_neg c20] at H
                  exact absurd H (by simp)
                case rest =>
                 clear HC19
                 obtain ⟨kq, x56_18, rfl, HA, HJ18, HO_7, HB⟩ := hcut
                 cases kq with
                 | zero => exact absurd HA.out (by simp [ladderbackref31_Reach.j4])
                 | succ kj18 =>
                  have H := HA.out
                  clear HA
                  simp only [ladderbackref31_Reach.j4] at H
                  by_cases c24 : x56_18 = true
                  ·
                   subst c24
                   have H1 : (if 0 ≤ x9_3 then (if x9_3 < (l0.length : Int) then (if 0 ≤ x10_4 then (if x10_4 < ((rd_L1 l0 x9_3).length : Int) then (if (rd (rd_L1 l0 x9_3) x10_4) ≥ 0 then (if (rd (rd_L1 l0 x9_3) x10_4) < (l0.length : Int) then (if (rd (rd_L1 l0 x9_3) x10_4) = a2 then (ladderbackref31_Reach.l2 kj18 l0 a2 x7_4 x8_2 x9_3 (wrap64 (x10_4 + 1))) else (if 0 ≤ (rd (rd_L1 l0 x9_3) x10_4) then (if (rd (rd_L1 l0 x9_3) x10_4) < (x7_4.length : Int) then (ladderbackref31_Reach.l2 kj18 l0 a2 (x7_4.set ((rd (rd_L1 l0 x9_3) x10_4) : Int).toNat true) x8_2 x9_3 (wrap64 (x10_4 + 1))) else (none)) else (none))) else (ladderbackref31_Reach.l2 kj18 l0 a2 x7_4 x8_2 x9_3 (wrap64 (x10_4 + 1)))) else (ladderbackref31_Reach.l2 kj18 l0 a2 x7_4 x8_2 x9_3 (wrap64 (x10_4 + 1)))) else (none)) else (none)) else (none)) else (none)) = some r := by rw [if_pos rfl] at H; exact H
                   clear H
                   have H := H1
                   clear H1
                   by_cases c25 : 0 ≤ x9_3
                   ·
                    rw [if_pos c25] at H
                    have c25b0 : decide (0 ≤ x9_3) = true := decide_eq_true c25
                    clear c25
                    by_cases c26 : x9_3 < (l0.length : Int)
                    ·
                     rw [if_pos c26] at H
                     have c26b0 : decide (x9_3 < (l0.length : Int)) = true := decide_eq_true c26
                     clear c26
                     by_cases c27 : 0 ≤ x10_4
                     ·
                      rw [if_pos c27] at H
                      have c27b0 : decide (0 ≤ x10_4) = true := decide_eq_true c27
                      clear c27
                      by_cases c28 : x10_4 < ((rd_L1 l0 x9_3).length : Int)
                      ·
                       rw [if_pos c28] at H
                       have c28b0 : decide (x10_4 < ((rd_L1 l0 x9_3).length : Int)) = true := decide_eq_true c28
                       clear c28
                       by_cases c29 : (rd (rd_L1 l0 x9_3) x10_4) ≥ 0
                       ·
                        rw [if_pos c29] at H
                        have c29b0 : decide (0 ≤ (rd (rd_L1 l0 x9_3) x10_4)) = true := decide_eq_true c29
                        clear c29
                        by_cases c30 : (rd (rd_L1 l0 x9_3) x10_4) < (l0.length : Int)
                        ·
                         rw [if_pos c30] at H
                         have c30b0 : decide ((rd (rd_L1 l0 x9_3) x10_4) < (l0.length : Int)) = true := decide_eq_true c30
                         clear c30
                         by_cases c31 : (rd (rd_L1 l0 x9_3) x10_4) = a2
                         ·
                          rw [if_pos c31] at H
                          have c31b0 : ((rd (rd_L1 l0 x9_3) x10_4) == a2) = true := beq_iff_eq.mpr c31
                          have c31b1 : ((rd (rd_L1 l0 x9_3) x10_4) != a2) = false := bne_eq_false_iff_eq.mpr c31
                          clear c31
                          have H' := Aside0.mk H
                          clear H
                          have p223 : 0 ≤ (x9_3 : Int) := of_decide_eq_true p5_0
                          have q223 : x9_3 < (l0.length : Int) := of_decide_eq_true p5_0
                          obtain ⟨ad223, A223_0, c223_0, e223, hx223_0, hl223_0, hi223_0⟩ := at_L1 HR0.out x9_3 p223 q223
                          cases e223
                          replace hx223_0 := (HB.out.cell (World.block_lt_of_cell? w _ hx223_0)).trans hx223_0
                          have HR223_0 := Aside0.mk hi223_0
                          have HC223_0 := Aside0.mk hl223_0
                          clear hi223_0 hl223_0
                          replace p223 := eq_true p223
                          replace q223 := eq_true q223
                          have p224 : 0 ≤ (x10_4 : Int) := of_decide_eq_true p5_0
                          have q224 : x10_4 < ((rd_L1 l0 x9_3).length : Int) := of_decide_eq_true p5_0
                          obtain ⟨ad224, e224, hx224_0⟩ := Kd.at_int HR223_0.out x10_4 p224 q224
                          cases e224
                          replace hx224_0 := (HB.out.cell (World.block_lt_of_cell? w _ hx224_0)).trans hx224_0
                          replace p224 := eq_true p224
                          replace q224 := eq_true q224
                          go_wp2
                          (try simp only [← hl7_4])
                          go_roundg kj18
                          case measure => have := HJ5.out; have := HK2.out; have := HK3.out; have := HK4.out; have := HJ18.out; omega
                          case rel => exact ⟨(x7_4), (wrap64 (x10_4 + 1)), p5_1, H', ⟨by have := HJ5.out; have := HK2.out; have := HK3.out; have := HK4.out; have := HJ18.out; omega⟩, ⟨by (try simp only [hl7_2]); (try simp only [hl7_3]); (try simp only [hl7_4]); (with_reducible repeat (first | apply Kd.R_alloc | apply Kd.R_drewN | apply Kd.R_drew)); exact HO_7.out⟩, ⟨by repeat (first | (with_reducible first | exact HB.out | apply below_alloc | apply pw_below_drewN | apply below_drew1) | exact HB.out)⟩⟩
                         ·
                          rw [if_neg c31] at H
                          have c31b0 : ((rd (rd_L1 l0 x9_3) x10_4) == a2) = false := beq_eq_false_iff_ne.mpr c31
                          have c31b1 : ((rd (rd_L1 l0 x9_3) x10_4) != a2) = true := bne_iff_ne.mpr c31
                          by_cases c32 : 0 ≤ (rd (rd_L1 l0 x9_3) x10_4)
                          ·
                           rw [if_pos c32] at H
                           have c32b0 : decide (0 ≤ (rd (rd_L1 l0 x9_3) x10_4)) = true := decide_eq_true c32
                           clear c32
                           by_cases c33 : (rd (rd_L1 l0 x9_3) x10_4) < (x7_4.length : Int)
                           ·
                            rw [if_pos c33] at H
                            have c33b0 : decide ((rd (rd_L1 l0 x9_3) x10_4) < (x7_4.length : Int)) = true := decide_eq_true c33
                            clear c33
                            obtain ⟨y225, hy225⟩ : ∃ y_ : List Bool, y_ = (x7_4.set ((rd (rd_L1 l0 x9_3) x10_4) : Int).toNat true) := ⟨_, rfl⟩
                            replace H : (ladderbackref31_Reach.l2 kj18 l0 a2 y225 x8_2 x9_3 (wrap64 (x10_4 + 1))) = some r := by first | (rw [hy225]; with_reducible exact H) | (have H2_ := (Option.bind_some _ _).symm.trans H; rw [hy225]; with_reducible exact H2_) | (have H2_ := (Option.bind_some _ _).symm.trans H; with_reducible exact H2_) | with_reducible exact H | (rw [hy225]; exact H) | exact H
                            have Ny225 := Aside0.mk hy225
                            clear hy225
                            have H' := Aside0.mk H
                            clear H
                            have p223 : 0 ≤ (x9_3 : Int) := of_decide_eq_true p5_0
                            have q223 : x9_3 < (l0.length : Int) := of_decide_eq_true p5_0
                            obtain ⟨ad223, A223_0, c223_0, e223, hx223_0, hl223_0, hi223_0⟩ := at_L1 HR0.out x9_3 p223 q223
                            cases e223
                            replace hx223_0 := (HB.out.cell (World.block_lt_of_cell? w _ hx223_0)).trans hx223_0
                            have HR223_0 := Aside0.mk hi223_0
                            have HC223_0 := Aside0.mk hl223_0
                            clear hi223_0 hl223_0
                            replace p223 := eq_true p223
                            replace q223 := eq_true q223
                            have p224 : 0 ≤ (x10_4 : Int) := of_decide_eq_true p5_0
                            have q224 : x10_4 < ((rd_L1 l0 x9_3).length : Int) := of_decide_eq_true p5_0
                            obtain ⟨ad224, e224, hx224_0⟩ := Kd.at_int HR223_0.out x10_4 p224 q224
                            cases e224
                            replace hx224_0 := (HB.out.cell (World.block_lt_of_cell? w _ hx224_0)).trans hx224_0
                            replace p224 := eq_true p224
                            replace q224 := eq_true q224
                            have p34 : 0 ≤ ((rd (rd_L1 l0 x9_3) x10_4) : Int) := of_decide_eq_true p5_0
                            have q34 : ((rd (rd_L1 l0 x9_3) x10_4) : Int) < ((x7_4.length : Int) : Int) := of_decide_eq_true p5_0
                            obtain ⟨hx34_0, hf34_0⟩ := Kd.R_celln false HO_7.out ((rd (rd_L1 l0 x9_3) x10_4) : Int) p34 q34
                            replace p34 := eq_true p34
                            replace q34 := eq_true q34
                            have HP35 := Kd.R_putg HO_7.out ((rd (rd_L1 l0 x9_3) x10_4) : Int) true
                            go_wp2_with (first | ((with_reducible refine gate_store (t := 4) (p := 81) rfl ?_); refine store_event (t := 4) (p := 81) (v := ?vo_w36) (w1 := (wc.setCell ⟨go14, ((rd (rd_L1 l0 x9_3) x10_4) : Int).toNat, none⟩ (.bool true))) ?hg ?ho ?hn ?hr ?_; (case ho => rfl); (case hg => rfl); (case hn => rfl); (case hr => first | (go_simp; done) | (go_simp; rfl)); intro w36 hw; have hg : wc.grownBy w36 (some go14) := (by rw [hw]; exact HP35.2); have hp_ : Kd.R Kd.bool 4 w36 w.heap.size (fun _ => True) (.slice (some ⟨go14, 0, none⟩) x7_4.length co14) y225 := (by rw [hw, Ny225.out]; exact HP35.1); clear HP35; have n0_ := Aside0.mk (hp_); have n1_ := Aside0.mk ((by rw [hw]; exact below_set (HB.out) GB14.out : Below w.heap.size w w36)); clear HO_7; clear HB; have HO_7 := n0_; have HB := n1_; clear n0_ n1_; clear hg hw hp_))
                            (try simp only [← hl7_4])
                            go_roundg kj18
                            case measure => have := HJ5.out; have := HK2.out; have := HK3.out; have := HK4.out; have := HJ18.out; omega
                            case rel => exact ⟨(y225), (wrap64 (x10_4 + 1)), p5_1, H', ⟨by have := HJ5.out; have := HK2.out; have := HK3.out; have := HK4.out; have := HJ18.out; omega⟩, ⟨by (try simp only [hl7_2]); (try simp only [hl7_3]); (try simp only [hl7_4]); (with_reducible repeat (first | apply Kd.R_alloc | apply Kd.R_drewN | apply Kd.R_drew)); exact HO_7.out⟩, ⟨by repeat (first | (with_reducible first | exact HB.out | apply below_alloc | apply pw_below_drewN | apply below_drew1) | exact HB.out)⟩⟩
                           ·
                            rw [if_neg c33] at H
                            exact absurd H (by simp)
                          ·
                           rw [if_neg c32] at H
                           exact absurd H (by simp)
                        ·
                         rw [if_neg c30] at H
                         have c30b0 : decide ((rd (rd_L1 l0 x9_3) x10_4) < (l0.length : Int)) = false := decide_eq_false c30
                         clear c30
                         have H' := Aside0.mk H
                         clear H
                         have p223 : 0 ≤ (x9_3 : Int) := of_decide_eq_true p5_0
                         have q223 : x9_3 < (l0.length : Int) := of_decide_eq_true p5_0
                         obtain ⟨ad223, A223_0, c223_0, e223, hx223_0, hl223_0, hi223_0⟩ := at_L1 HR0.out x9_3 p223 q223
                         cases e223
                         replace hx223_0 := (HB.out.cell (World.block_lt_of_cell? w _ hx223_0)).trans hx223_0
                         have HR223_0 := Aside0.mk hi223_0
                         have HC223_0 := Aside0.mk hl223_0
                         clear hi223_0 hl223_0
                         replace p223 := eq_true p223
                         replace q223 := eq_true q223
                         have p224 : 0 ≤ (x10_4 : Int) := of_decide_eq_true p5_0
                         have q224 : x10_4 < ((rd_L1 l0 x9_3).length : Int) := of_decide_eq_true p5_0
                         obtain ⟨ad224, e224, hx224_0⟩ := Kd.at_int HR223_0.out x10_4 p224 q224
                         cases e224
                         replace hx224_0 := (HB.out.cell (World.block_lt_of_cell? w _ hx224_0)).trans hx224_0
                         replace p224 := eq_true p224
                         replace q224 := eq_true q224
                         go_wp2
                         (try simp only [← hl7_4])
                         go_roundg kj18
                         case measure => have := HJ5.out; have := HK2.out; have := HK3.out; have := HK4.out; have := HJ18.out; omega
                         case rel => exact ⟨(x7_4), (wrap64 (x10_4 + 1)), p5_1, H', ⟨by have := HJ5.out; have := HK2.out; have := HK3.out; have := HK4.out; have := HJ18.out; omega⟩, ⟨by (try simp only [hl7_2]); (try simp only [hl7_3]); (try simp only [hl7_4]); (with_reducible repeat (first | apply Kd.R_alloc | apply Kd.R_drewN | apply Kd.R_drew)); exact HO_7.out⟩, ⟨by repeat (first | (with_reducible first | exact HB.out | apply below_alloc | apply pw_below_drewN | apply below_drew1) | exact HB.out)⟩⟩
                       ·
                        rw [if_neg c29] at H
                        have c29b0 : decide (0 ≤ (rd (rd_L1 l0 x9_3) x10_4)) = false := decide_eq_false c29
                        clear c29
                        have H' := Aside0.mk H
                        clear H
                        have p223 : 0 ≤ (x9_3 : Int) := of_decide_eq_true p5_0
                        have q223 : x9_3 < (l0.length : Int) := of_decide_eq_true p5_0
                        obtain ⟨ad223, A223_0, c223_0, e223, hx223_0, hl223_0, hi223_0⟩ := at_L1 HR0.out x9_3 p223 q223
                        cases e223
                        replace hx223_0 := (HB.out.cell (World.block_lt_of_cell? w _ hx223_0)).trans hx223_0
                        have HR223_0 := Aside0.mk hi223_0
                        have HC223_0 := Aside0.mk hl223_0
                        clear hi223_0 hl223_0
                        replace p223 := eq_true p223
                        replace q223 := eq_true q223
                        have p224 : 0 ≤ (x10_4 : Int) := of_decide_eq_true p5_0
                        have q224 : x10_4 < ((rd_L1 l0 x9_3).length : Int) := of_decide_eq_true p5_0
                        obtain ⟨ad224, e224, hx224_0⟩ := Kd.at_int HR223_0.out x10_4 p224 q224
                        cases e224
                        replace hx224_0 := (HB.out.cell (World.block_lt_of_cell? w _ hx224_0)).trans hx224_0
                        replace p224 := eq_true p224
                        replace q224 := eq_true q224
                        go_wp2
                        (try simp only [← hl7_4])
                        go_roundg kj18
                        case measure => have := HJ5.out; have := HK2.out; have := HK3.out; have := HK4.out; have := HJ18.out; omega
                        case rel => exact ⟨(x7_4), (wrap64 (x10_4 + 1)), p5_1, H', ⟨by have := HJ5.out; have := HK2.out; have := HK3.out; have := HK4.out; have := HJ18.out; omega⟩, ⟨by (try simp only [hl7_2]); (try simp only [hl7_3]); (try simp only [hl7_4]); (with_reducible repeat (first | apply Kd.R_alloc | apply Kd.R_drewN | apply Kd.R_drew)); exact HO_7.out⟩, ⟨by repeat (first | (with_reducible first | exact HB.out | apply below_alloc | apply pw_below_drewN | apply below_drew1) | exact HB.out)⟩⟩
                      ·
                       rw [if_neg c28] at H
                       exact absurd H (by simp)
                     ·
                      rw [if_neg c27] at H
                      exact absurd H (by simp)
                    ·
                     rw [if_neg c26] at H
                     exact absurd H (by simp)
                   ·
                    rw [if_neg c25] at H
                    exact absurd H (by simp)
                  ·
                   replace c24 := Bool.eq_false_iff.mpr c24
                   subst c24
                   have H1 : (ladderbackref31_Reach.l1 kj18 l0 a2 x7_4 x8_2 (wrap64 (x9_3 + 1))) = some r := by rw [if_neg (show ¬ (false = true) by decide)] at H; exact H
                   clear H
                   have H := H1
                   clear H1
                   have H' := Aside0.mk H
                   clear H
                   go_wp2
                   (try simp only [← hl7_3, ← hl7_4])
                   go_roundg kj18
                   case measure => have := HJ5.out; have := HK2.out; have := HK3.out; have := HK4.out; have := HJ18.out; omega
                   case rel => exact ⟨(x7_4), (wrap64 (x9_3 + 1)), p5_1, H', ⟨by have := HJ5.out; have := HK2.out; have := HK3.out; have := HK4.out; have := HJ18.out; omega⟩, ⟨by (try simp only [hl7_2]); (try simp only [hl7_3]); (try simp only [hl7_4]); (with_reducible repeat (first | apply Kd.R_alloc | apply Kd.R_drewN | apply Kd.R_drew)); exact HO_7.out⟩, ⟨by repeat (first | (with_reducible first | exact HB.out | apply below_alloc | apply pw_below_drewN | apply below_drew1) | exact HB.out)⟩⟩
             ·
              rw [if_neg c18] at H
              have c18b0 : decide (x9_3 < (l0.length : Int)) = false := decide_eq_false c18
              clear c18
              have H' := Aside0.mk H
              clear H
              go_wp2
              (try simp only [← hl7_2, ← hl7_3])
              go_roundg k3
              case measure => have := HJ5.out; have := HK2.out; have := HK3.out; omega
              case rel => exact ⟨(x7_3), (wrap64 (x8_2 + 1)), p5_1, H', ⟨by have := HJ5.out; have := HK2.out; have := HK3.out; omega⟩, ⟨by (try simp only [hl7_2]); (try simp only [hl7_3]); (with_reducible repeat (first | apply Kd.R_alloc | apply Kd.R_drewN | apply Kd.R_drew)); exact HO_7.out⟩, ⟨by repeat (first | (with_reducible first | exact HB.out | apply below_alloc | apply pw_below_drewN | apply below_drew1) | exact HB.out)⟩⟩
          ·
           rw [if_neg c17] at H
           have c17b0 : decide (x8_2 < (l0.length : Int)) = false := decide_eq_false c17
           clear c17
           obtain rfl := Option.some.inj H
           go_wp2
           go_ret
           exact ⟨_, by first | rfl | (simp [errW_none, errW_some] <;> rfl) | (simp [*, errW_none, errW_some] <;> rfl), by (with_reducible repeat (first | apply Kd.R_alloc | apply Kd.R_drewN | apply Kd.R_drew)); exact HO_7.out, by repeat (first | (with_reducible first | exact HB.out | apply below_alloc | apply pw_below_drewN | apply below_drew1) | exact HB.out)⟩
       ·
        rw [if_neg c13] at H
        exact absurd H (by simp)
      ·
       rw [if_neg c12] at H
       exact absurd H (by simp)
  ·
   rw [if_neg c5] at H
   exact absurd H (by simp)
 ·
  rw [if_neg c4] at H
  exact absurd H (by simp)

/-! ### ladderbackref30_Has: function 18 -/
def ladderbackref30_Has.l0 : Nat → List Int → Int → Int → Option (Bool)
 | 0, _, _, _ => none
 | k + 1, x0, x1, x5 => if x5 < (x0.length : Int) then (if 0 ≤ x5 then (if (rd x0 x5) = x1 then (some true) else (ladderbackref30_Has.l0 k x0 x1 (wrap64 (x5 + 1)))) else (none)) else (some false)
def ladderbackref30_Has.f (k : Nat) (l0 : List Int) (a1 : Int) : Option (Bool) := ladderbackref30_Has.l0 k l0 a1 0
theorem ladderbackref30_Has.mono_l : ∀ k, (∀ y0 y1 y2, LeO (ladderbackref30_Has.l0 k y0 y1 y2) (ladderbackref30_Has.l0 (k + 1) y0 y1 y2))
 | 0 => fun _ _ _ r h => by simp [ladderbackref30_Has.l0] at h
 | k + 1 => by
  have ih0 := ladderbackref30_Has.mono_l k
  ·
   intro y0 y1 y2
   unfold ladderbackref30_Has.l0
   repeat' first
   | (with_reducible exact ih0 _ _ _)
   | (with_reducible exact LeO.refl _)
   | (with_reducible exact LeO.none _)
   | (with_reducible refine LeO.ite ?_ ?_)
   | (with_reducible refine LeO.bind ?_ (fun _ => ?_))
   | exact ih0 _ _ _
   | exact LeO.none _
   | refine LeO.ite ?_ ?_
   | refine LeO.bind ?_ (fun _ => ?_)
theorem ladderbackref30_Has.mono : ∀ a0 a1 k, LeO (ladderbackref30_Has.f k a0 a1) (ladderbackref30_Has.f (k + 1) a0 a1) := by
 intro a0 a1 k
 have ih0 := ladderbackref30_Has.mono_l k
 unfold ladderbackref30_Has.f
 repeat' first
   | (with_reducible exact ih0 _ _ _)
   | (with_reducible exact LeO.refl _)
   | (with_reducible exact LeO.none _)
   | (with_reducible refine LeO.ite ?_ ?_)
   | (with_reducible refine LeO.bind ?_ (fun _ => ?_))
   | exact ih0 _ _ _
   | exact LeO.none _
   | refine LeO.ite ?_ ?_
   | refine LeO.bind ?_ (fun _ => ?_)
set_option maxHeartbeats 8000000 in
set_option maxRecDepth 100000 in
theorem ladderbackref30_Has.calls (k : Nat) (A0 : Option Addr) (c0 : Nat) (l0 : List Int) (a1 : Int) (r : Bool) (w : World) (hr0 : Kd.C (Kd.int .i64) w A0 l0.length l0) (hc0 : l0.length ≤ c0) (h : ladderbackref30_Has.f k l0 a1 = some r) :
  Calls Try.prog 18 #[.slice A0 l0.length c0, .int .i64 a1] w fun e w' => e = .returned (.bool r) ∧ Drawn0 w w' := by
 have HR0 := Aside0.mk hr0
 have HC0 := Aside0.mk hc0
 clear hr0 hc0
 have H : (ladderbackref30_Has.l0 k l0 a1 0) = some r := h
 clear h
 have H' := Aside0.mk H
 clear H
 go_enter Try.func18, Try.ntmps18
 go_wp2
 go_loopg [5] k (fun kq v5 w' => ∃ (x5_1 : Int), v5 = .int .i64 x5_1 ∧ Aside0 (ladderbackref30_Has.l0 kq l0 a1 x5_1 = some r) ∧ Aside0 (kq ≤ k) ∧ Drawn0 w w')
 case atStart => exact ⟨(0), p5_1, H', ⟨Nat.le_refl _⟩, by repeat (first | exact Drawn0.refl _ | apply Drawn0.step)⟩
 case round =>
  clear H'
  obtain ⟨x5_1, rfl, HA, HK1, ⟨m1, rfl⟩⟩ := hrel
  cases gk with
  | zero => exact absurd HA.out (by simp [ladderbackref30_Has.l0])
  | succ k1 =>
   have H := HA.out
   clear HA
   simp only [ladderbackref30_Has.l0] at H
   by_cases c3 : x5_1 < (l0.length : Int)
   ·
    rw [if_pos c3] at H
    have c3b0 : decide (x5_1 < (l0.length : Int)) = true := decide_eq_true c3
    clear c3
    by_cases c4 : 0 ≤ x5_1
    ·
     rw [if_pos c4] at H
     have c4b0 : decide (0 ≤ x5_1) = true := decide_eq_true c4
     clear c4
     by_cases c5 : (rd l0 x5_1) = a1
     ·
      rw [if_pos c5] at H
      have c5b0 : ((rd l0 x5_1) == a1) = true := beq_iff_eq.mpr c5
      have c5b1 : ((rd l0 x5_1) != a1) = false := bne_eq_false_iff_eq.mpr c5
      clear c5
      obtain rfl := Option.some.inj H
      have p226 : 0 ≤ (x5_1 : Int) := of_decide_eq_true p5_0
      have q226 : x5_1 < (l0.length : Int) := of_decide_eq_true p5_0
      obtain ⟨ad226, e226, hx226_0⟩ := Kd.at_int HR0.out x5_1 p226 q226
      cases e226
      replace p226 := eq_true p226
      replace q226 := eq_true q226
      go_wp2
      go_ret
      exact ⟨by first | rfl | (simp; done) | (simp [*]; done), by repeat (first | exact Drawn0.refl _ | apply Drawn0.step)⟩
     ·
      rw [if_neg c5] at H
      have c5b0 : ((rd l0 x5_1) == a1) = false := beq_eq_false_iff_ne.mpr c5
      have c5b1 : ((rd l0 x5_1) != a1) = true := bne_iff_ne.mpr c5
      have H' := Aside0.mk H
      clear H
      have p226 : 0 ≤ (x5_1 : Int) := of_decide_eq_true p5_0
      have q226 : x5_1 < (l0.length : Int) := of_decide_eq_true p5_0
      obtain ⟨ad226, e226, hx226_0⟩ := Kd.at_int HR0.out x5_1 p226 q226
      cases e226
      replace p226 := eq_true p226
      replace q226 := eq_true q226
      go_wp2
      go_roundg k1
      case measure => have := HK1.out; omega
      case rel => exact ⟨(wrap64 (x5_1 + 1)), p5_1, H', ⟨by have := HK1.out; omega⟩, by repeat (first | exact Drawn0.refl _ | apply Drawn0.step)⟩
    ·
     rw [if_neg c4] at H
     exact absurd H (by simp)
   ·
    rw [if_neg c3] at H
    have c3b0 : decide (x5_1 < (l0.length : Int)) = false := decide_eq_false c3
    clear c3
    obtain rfl := Option.some.inj H
    go_wp2
    go_ret
    exact ⟨by first | rfl | (simp; done) | (simp [*]; done), by repeat (first | exact Drawn0.refl _ | apply Drawn0.step)⟩

end Go.Proofs.Ytfiffhcpgojkhaa.QInterParts
