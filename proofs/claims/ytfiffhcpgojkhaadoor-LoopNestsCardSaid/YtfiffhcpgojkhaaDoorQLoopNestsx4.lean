-- Printed by a program of this session's over the kit's printer (wip/patch_print.py).
import Derived.Test.YtfiffhcpgojkhaaDoorQLoopNestsx0
namespace Go.Proofs.YtfiffhcpgojkhaaDoor.QLoopNests
open Go.RowKit Go.Proofs.YtfiffhcpgojkhaaDoor Go.Proofs.YtfiffhcpgojkhaaDoorW.PrintWords Go.Proofs.YtfiffhcpgojkhaaDoorW.PrintLast Go.Proofs.YtfiffhcpgojkhaaDoorW.PrintMore
attribute [local go_sem] setCell_drewN0 max2_int min2_int max_two min_two max_three min_three max_four min_four   -- for this text's walks alone
set_option linter.unusedVariables false
set_option linter.unusedSimpArgs false

/-! ### ladderbackref31_Reach: function 14 -/
theorem p4_0 {P : Prop} (h : P := by first | (with_reducible assumption) | assumption) : P := h
theorem p4_1 {P : Prop} (h : P := by first | rfl | (simp; done) | (simp [*]; done)) : P := h
theorem p4_2 {P : Prop} (h : P := by repeat (first | (with_reducible first | exact HB.out | apply below_alloc | apply pw_below_drewN | apply below_drew1) | exact HB.out)) : P := h
mutual
def ladderbackref31_Reach.j0 : Nat → List (List Int) → Int → Int → List Bool → Bool → Option (List Bool)
 | 0, _, _, _, _, _ => none
 | k + 1, x0, x1, x2, x7, x27 => if x27 = true then (some x7) else (if 0 ≤ x1 then (if x1 < (x7.length : Int) then (ladderbackref31_Reach.l0 k x0 x2 (x7.set (x1 : Int).toNat true) 0) else (none)) else (none))
def ladderbackref31_Reach.l0 : Nat → List (List Int) → Int → List Bool → Int → Option (List Bool)
 | 0, _, _, _, _ => none
 | k + 1, x0, x2, x7, x8 => if x8 < (x0.length : Int) then (ladderbackref31_Reach.l1 k x0 x2 x7 x8 0) else (some x7)
def ladderbackref31_Reach.l1 : Nat → List (List Int) → Int → List Bool → Int → Int → Option (List Bool)
 | 0, _, _, _, _, _ => none
 | k + 1, x0, x2, x7, x8, x9 => if x9 < (x0.length : Int) then (ladderbackref31_Reach.l2 k x0 x2 x7 x8 x9 0) else (ladderbackref31_Reach.l0 k x0 x2 x7 (wrap64 (x8 + 1)))
def ladderbackref31_Reach.l2 : Nat → List (List Int) → Int → List Bool → Int → Int → Int → Option (List Bool)
 | 0, _, _, _, _, _, _ => none
 | k + 1, x0, x2, x7, x8, x9, x10 => if 0 ≤ x9 then (if x9 < (x0.length : Int) then (if x10 < ((rd_L1 x0 x9).length : Int) then (if x9 < (x7.length : Int) then (ladderbackref31_Reach.j4 k x0 x2 x7 x8 x9 x10 (rdOf false x7 x9)) else (none)) else (ladderbackref31_Reach.j4 k x0 x2 x7 x8 x9 x10 false)) else (none)) else (none)
def ladderbackref31_Reach.j4 : Nat → List (List Int) → Int → List Bool → Int → Int → Int → Bool → Option (List Bool)
 | 0, _, _, _, _, _, _, _ => none
 | k + 1, x0, x2, x7, x8, x9, x10, x56 => if x56 = true then (if 0 ≤ x9 then (if x9 < (x0.length : Int) then (if 0 ≤ x10 then (if x10 < ((rd_L1 x0 x9).length : Int) then (if (rd (rd_L1 x0 x9) x10) ≥ 0 then (if (rd (rd_L1 x0 x9) x10) < (x0.length : Int) then (if (rd (rd_L1 x0 x9) x10) = x2 then (ladderbackref31_Reach.l2 k x0 x2 x7 x8 x9 (wrap64 (x10 + 1))) else (if 0 ≤ (rd (rd_L1 x0 x9) x10) then (if (rd (rd_L1 x0 x9) x10) < (x7.length : Int) then (ladderbackref31_Reach.l2 k x0 x2 (x7.set ((rd (rd_L1 x0 x9) x10) : Int).toNat true) x8 x9 (wrap64 (x10 + 1))) else (none)) else (none))) else (ladderbackref31_Reach.l2 k x0 x2 x7 x8 x9 (wrap64 (x10 + 1)))) else (ladderbackref31_Reach.l2 k x0 x2 x7 x8 x9 (wrap64 (x10 + 1)))) else (none)) else (none)) else (none)) else (none)) else (ladderbackref31_Reach.l1 k x0 x2 x7 x8 (wrap64 (x9 + 1)))
end
def ladderbackref31_Reach.f (k : Nat) (l0 : List (List Int)) (a1 : Int) (a2 : Int) : Option (List Bool) := if 0 ≤ (l0.length : Int) then (if ((l0.length : Int) : Int).toNat ≤ 281474976710656 then ((some (List.replicate ((l0.length : Int) : Int).toNat false : List Bool)).bind fun y166 => (if a1 < 0 then (ladderbackref31_Reach.j0 k l0 a1 a2 y166 true) else (if a1 ≥ (l0.length : Int) then (ladderbackref31_Reach.j0 k l0 a1 a2 y166 true) else (ladderbackref31_Reach.j0 k l0 a1 a2 y166 (a1 == a2))))) else (none)) else (none)
theorem ladderbackref31_Reach.mono_l : ∀ k, (∀ y0 y1 y2 y3 y4, LeO (ladderbackref31_Reach.j0 k y0 y1 y2 y3 y4) (ladderbackref31_Reach.j0 (k + 1) y0 y1 y2 y3 y4)) ∧ (∀ y0 y1 y2 y3, LeO (ladderbackref31_Reach.l0 k y0 y1 y2 y3) (ladderbackref31_Reach.l0 (k + 1) y0 y1 y2 y3)) ∧ (∀ y0 y1 y2 y3 y4, LeO (ladderbackref31_Reach.l1 k y0 y1 y2 y3 y4) (ladderbackref31_Reach.l1 (k + 1) y0 y1 y2 y3 y4)) ∧ (∀ y0 y1 y2 y3 y4 y5, LeO (ladderbackref31_Reach.l2 k y0 y1 y2 y3 y4 y5) (ladderbackref31_Reach.l2 (k + 1) y0 y1 y2 y3 y4 y5)) ∧ (∀ y0 y1 y2 y3 y4 y5 y6, LeO (ladderbackref31_Reach.j4 k y0 y1 y2 y3 y4 y5 y6) (ladderbackref31_Reach.j4 (k + 1) y0 y1 y2 y3 y4 y5 y6))
 | 0 => ⟨fun _ _ _ _ _ r h => by simp [ladderbackref31_Reach.j0] at h, fun _ _ _ _ r h => by simp [ladderbackref31_Reach.l0] at h, fun _ _ _ _ _ r h => by simp [ladderbackref31_Reach.l1] at h, fun _ _ _ _ _ _ r h => by simp [ladderbackref31_Reach.l2] at h, fun _ _ _ _ _ _ _ r h => by simp [ladderbackref31_Reach.j4] at h⟩
 | k + 1 => by
  obtain ⟨ih0, ih1, ih2, ih3, ih4⟩ := ladderbackref31_Reach.mono_l k
  refine ⟨?_, ?_, ?_, ?_, ?_⟩
  ·
   intro y0 y1 y2 y3 y4
   unfold ladderbackref31_Reach.j0
   repeat' first
   | (with_reducible exact ih0 _ _ _ _ _)
   | (with_reducible exact ih1 _ _ _ _)
   | (with_reducible exact ih2 _ _ _ _ _)
   | (with_reducible exact ih3 _ _ _ _ _ _)
   | (with_reducible exact ih4 _ _ _ _ _ _ _)
   | (with_reducible exact LeO.refl _)
   | (with_reducible exact LeO.none _)
   | (with_reducible refine LeO.ite ?_ ?_)
   | (with_reducible refine LeO.bind ?_ (fun _ => ?_))
   | exact ih0 _ _ _ _ _
   | exact ih1 _ _ _ _
   | exact ih2 _ _ _ _ _
   | exact ih3 _ _ _ _ _ _
   | exact ih4 _ _ _ _ _ _ _
   | exact LeO.none _
   | refine LeO.ite ?_ ?_
   | refine LeO.bind ?_ (fun _ => ?_)
  ·
   intro y0 y1 y2 y3
   unfold ladderbackref31_Reach.l0
   repeat' first
   | (with_reducible exact ih0 _ _ _ _ _)
   | (with_reducible exact ih1 _ _ _ _)
   | (with_reducible exact ih2 _ _ _ _ _)
   | (with_reducible exact ih3 _ _ _ _ _ _)
   | (with_reducible exact ih4 _ _ _ _ _ _ _)
   | (with_reducible exact LeO.refl _)
   | (with_reducible exact LeO.none _)
   | (with_reducible refine LeO.ite ?_ ?_)
   | (with_reducible refine LeO.bind ?_ (fun _ => ?_))
   | exact ih0 _ _ _ _ _
   | exact ih1 _ _ _ _
   | exact ih2 _ _ _ _ _
   | exact ih3 _ _ _ _ _ _
   | exact ih4 _ _ _ _ _ _ _
   | exact LeO.none _
   | refine LeO.ite ?_ ?_
   | refine LeO.bind ?_ (fun _ => ?_)
  ·
   intro y0 y1 y2 y3 y4
   unfold ladderbackref31_Reach.l1
   repeat' first
   | (with_reducible exact ih0 _ _ _ _ _)
   | (with_reducible exact ih1 _ _ _ _)
   | (with_reducible exact ih2 _ _ _ _ _)
   | (with_reducible exact ih3 _ _ _ _ _ _)
   | (with_reducible exact ih4 _ _ _ _ _ _ _)
   | (with_reducible exact LeO.refl _)
   | (with_reducible exact LeO.none _)
   | (with_reducible refine LeO.ite ?_ ?_)
   | (with_reducible refine LeO.bind ?_ (fun _ => ?_))
   | exact ih0 _ _ _ _ _
   | exact ih1 _ _ _ _
   | exact ih2 _ _ _ _ _
   | exact ih3 _ _ _ _ _ _
   | exact ih4 _ _ _ _ _ _ _
   | exact LeO.none _
   | refine LeO.ite ?_ ?_
   | refine LeO.bind ?_ (fun _ => ?_)
  ·
   intro y0 y1 y2 y3 y4 y5
   unfold ladderbackref31_Reach.l2
   repeat' first
   | (with_reducible exact ih0 _ _ _ _ _)
   | (with_reducible exact ih1 _ _ _ _)
   | (with_reducible exact ih2 _ _ _ _ _)
   | (with_reducible exact ih3 _ _ _ _ _ _)
   | (with_reducible exact ih4 _ _ _ _ _ _ _)
   | (with_reducible exact LeO.refl _)
   | (with_reducible exact LeO.none _)
   | (with_reducible refine LeO.ite ?_ ?_)
   | (with_reducible refine LeO.bind ?_ (fun _ => ?_))
   | exact ih0 _ _ _ _ _
   | exact ih1 _ _ _ _
   | exact ih2 _ _ _ _ _
   | exact ih3 _ _ _ _ _ _
   | exact ih4 _ _ _ _ _ _ _
   | exact LeO.none _
   | refine LeO.ite ?_ ?_
   | refine LeO.bind ?_ (fun _ => ?_)
  ·
   intro y0 y1 y2 y3 y4 y5 y6
   unfold ladderbackref31_Reach.j4
   repeat' first
   | (with_reducible exact ih0 _ _ _ _ _)
   | (with_reducible exact ih1 _ _ _ _)
   | (with_reducible exact ih2 _ _ _ _ _)
   | (with_reducible exact ih3 _ _ _ _ _ _)
   | (with_reducible exact ih4 _ _ _ _ _ _ _)
   | (with_reducible exact LeO.refl _)
   | (with_reducible exact LeO.none _)
   | (with_reducible refine LeO.ite ?_ ?_)
   | (with_reducible refine LeO.bind ?_ (fun _ => ?_))
   | exact ih0 _ _ _ _ _
   | exact ih1 _ _ _ _
   | exact ih2 _ _ _ _ _
   | exact ih3 _ _ _ _ _ _
   | exact ih4 _ _ _ _ _ _ _
   | exact LeO.none _
   | refine LeO.ite ?_ ?_
   | refine LeO.bind ?_ (fun _ => ?_)
theorem ladderbackref31_Reach.mono : ∀ a0 a1 a2 k, LeO (ladderbackref31_Reach.f k a0 a1 a2) (ladderbackref31_Reach.f (k + 1) a0 a1 a2) := by
 intro a0 a1 a2 k
 obtain ⟨ih0, ih1, ih2, ih3, ih4⟩ := ladderbackref31_Reach.mono_l k
 unfold ladderbackref31_Reach.f
 repeat' first
   | (with_reducible exact ih0 _ _ _ _ _)
   | (with_reducible exact ih1 _ _ _ _)
   | (with_reducible exact ih2 _ _ _ _ _)
   | (with_reducible exact ih3 _ _ _ _ _ _)
   | (with_reducible exact ih4 _ _ _ _ _ _ _)
   | (with_reducible exact LeO.refl _)
   | (with_reducible exact LeO.none _)
   | (with_reducible refine LeO.ite ?_ ?_)
   | (with_reducible refine LeO.bind ?_ (fun _ => ?_))
   | exact ih0 _ _ _ _ _
   | exact ih1 _ _ _ _
   | exact ih2 _ _ _ _ _
   | exact ih3 _ _ _ _ _ _
   | exact ih4 _ _ _ _ _ _ _
   | exact LeO.none _
   | refine LeO.ite ?_ ?_
   | refine LeO.bind ?_ (fun _ => ?_)
set_option maxHeartbeats 8000000 in
set_option maxRecDepth 100000 in
theorem ladderbackref31_Reach.calls (k : Nat) (A0 : Option Addr) (c0 : Nat) (l0 : List (List Int)) (a1 : Int) (a2 : Int) (r : List Bool) (w : World) (hr0 : Kd.C (Kd.slice 3 (Kd.int .i64)) w A0 l0.length l0) (hc0 : l0.length ≤ c0) (h : ladderbackref31_Reach.f k l0 a1 a2 = some r) :
  Calls Tryd.prog 14 #[.slice A0 l0.length c0, .int .i64 a1, .int .i64 a2] w fun e w' => ∃ v0_ : Value, e = .returned (v0_) ∧ Kd.R Kd.bool 4 w' w.heap.size (fun _ => True) v0_ r ∧ Below w.heap.size w w' := by
 have HR0 := Aside0.mk hr0
 have HC0 := Aside0.mk hc0
 clear hr0 hc0
 have HB := Aside0.mk (Below.refl w.heap.size w)
 have H : (if 0 ≤ (l0.length : Int) then (if ((l0.length : Int) : Int).toNat ≤ 281474976710656 then ((some (List.replicate ((l0.length : Int) : Int).toNat false : List Bool)).bind fun y166 => (if a1 < 0 then (ladderbackref31_Reach.j0 k l0 a1 a2 y166 true) else (if a1 ≥ (l0.length : Int) then (ladderbackref31_Reach.j0 k l0 a1 a2 y166 true) else (ladderbackref31_Reach.j0 k l0 a1 a2 y166 (a1 == a2))))) else (none)) else (none)) = some r := h
 clear h
 by_cases c4 : 0 ≤ (l0.length : Int)
 ·
  rw [if_pos c4] at H
  have c4b0 := eq_true c4
  have c4b1 : decide (0 ≤ (l0.length : Int)) = true := decide_eq_true c4
  clear c4
  by_cases c5 : ((l0.length : Int) : Int).toNat ≤ 281474976710656
  ·
   rw [if_pos c5] at H
   have c5b0 := eq_true c5
   have c5b1 : decide (((l0.length : Int) : Int).toNat ≤ 281474976710656) = true := decide_eq_true c5
   clear c5
   obtain ⟨y166, hy166⟩ : ∃ y_ : List Bool, y_ = (List.replicate ((l0.length : Int) : Int).toNat false) := ⟨_, rfl⟩
   replace H : (if a1 < 0 then (ladderbackref31_Reach.j0 k l0 a1 a2 y166 true) else (if a1 ≥ (l0.length : Int) then (ladderbackref31_Reach.j0 k l0 a1 a2 y166 true) else (ladderbackref31_Reach.j0 k l0 a1 a2 y166 (a1 == a2)))) = some r := by first | (rw [hy166]; with_reducible exact H) | (have H2_ := (Option.bind_some _ _).symm.trans H; rw [hy166]; with_reducible exact H2_) | (have H2_ := (Option.bind_some _ _).symm.trans H; with_reducible exact H2_) | with_reducible exact H | (rw [hy166]; exact H) | exact H
   have Ny166 := Aside0.mk hy166
   clear hy166
   have HC6 := Aside0.mk H
   clear H
   go_enter Tryd.func14, Tryd.ntmps14
   go_upto_region 2 with (first | ((with_reducible refine gate_dst (N := 14) rfl ?_); (try (refine gate_guard (by rfl) ?_; dsimp only)); refine Kd.R_make Kd.bool _ 4 rfl (N := 14) rfl 38 _ _ rfl (l0.length : Int) rfl rfl Tryd.underlying38 (.bool false) 1 info4 rfl (by decide) (by omega) false (ok := fun _ => True) (okp := fun _ => True) rfl (fun _ hk => hk) trivial (of_decide_eq_true p4_0) (Nat.le_trans (Nat.mul_le_mul_right _ (of_decide_eq_true p4_0 : (l0.length : Int).toNat ≤ 281474976710656)) (by omega)) (Below.refl _ _) (Nat.le_refl _) ?_; intro v167 w7 ho8 hb hg_ hnew_; clear hg_ hnew_; (first | rw [← Ny166.out] at ho8 | (simp only [Int.reduceToNat] at ho8; rw [← Ny166.out] at ho8)); have n0_ := Aside0.mk (Kd.R_lower ho8 (below_size p4_2)); have n1_ := Aside0.mk (below_step p4_2 hb); clear HB; have HO168 := n0_; have HB := n1_; clear n0_ n1_; clear hb ho8))
   (try simp only [Act.put, List.setIfInBounds_toArray, List.set_cons_zero, List.set_cons_succ])
   go_cut [27] from 12 to 27 (fun v27 wc => ∃ (kq : Nat) (x27_5 : Bool), v27 = .bool x27_5 ∧ Aside0 (ladderbackref31_Reach.j0 kq l0 a1 a2 y166 x27_5 = some r) ∧ Aside0 (kq ≤ k) ∧ Aside0 (Kd.R Kd.bool 4 wc w.heap.size (fun _ => True) v167 y166) ∧ Aside0 (Below w.heap.size w wc))
   case first =>
    have H := HC6.out
    clear HC6
    by_cases c9 : a1 < 0
    ·
     rw [if_pos c9] at H
     have c9b0 : decide (a1 < 0) = true := decide_eq_true c9
     clear c9
     (first | rw [c9b0] | (simp only [i64_w, i32_w]; rw [c9b0]) | rw [c9b1] | skip)
     have H' := Aside0.mk H
     clear H
     go_wp2
     go_meet
     case rel => exact ⟨_, (true), p4_1, H', ⟨by first | omega | exact Nat.le_refl _⟩, ⟨by (with_reducible repeat (first | apply Kd.R_alloc | apply Kd.R_drewN | apply Kd.R_drew)); exact HO168.out⟩, ⟨by repeat (first | (with_reducible first | exact HB.out | apply below_alloc | apply pw_below_drewN | apply below_drew1) | exact HB.out)⟩⟩
    ·
     rw [if_neg c9] at H
     have c9b0 : decide (a1 < 0) = false := decide_eq_false c9
     clear c9
     (first | rw [c9b0] | (simp only [i64_w, i32_w]; rw [c9b0]) | rw [c9b1] | skip)
     by_cases c10 : a1 ≥ (l0.length : Int)
     ·
      rw [if_pos c10] at H
      have c10b0 : decide ((l0.length : Int) ≤ a1) = true := decide_eq_true c10
      clear c10
      have H' := Aside0.mk H
      clear H
      go_wp2
      go_meet
      case rel => exact ⟨_, (true), p4_1, H', ⟨by first | omega | exact Nat.le_refl _⟩, ⟨by (with_reducible repeat (first | apply Kd.R_alloc | apply Kd.R_drewN | apply Kd.R_drew)); exact HO168.out⟩, ⟨by repeat (first | (with_reducible first | exact HB.out | apply below_alloc | apply pw_below_drewN | apply below_drew1) | exact HB.out)⟩⟩
     ·
      rw [if_neg c10] at H
      have c10b0 : decide ((l0.length : Int) ≤ a1) = false := decide_eq_false c10
      clear c10
      have H' := Aside0.mk H
      clear H
      go_wp2
      go_meet
      case rel => exact ⟨_, ((a1 == a2)), p4_1, H', ⟨by first | omega | exact Nat.le_refl _⟩, ⟨by (with_reducible repeat (first | apply Kd.R_alloc | apply Kd.R_drewN | apply Kd.R_drew)); exact HO168.out⟩, ⟨by repeat (first | (with_reducible first | exact HB.out | apply below_alloc | apply pw_below_drewN | apply below_drew1) | exact HB.out)⟩⟩
   case rest =>
    clear HC6
    (try clear c4); (try clear c4b0); (try clear c4b1); (try clear c5); (try clear c5b0); (try clear c5b1)
    obtain ⟨kq, x27_5, rfl, HA, HJ5, HO_7, HB⟩ := hcut
    cases kq with
    | zero => exact absurd HA.out (by simp [ladderbackref31_Reach.j0])
    | succ kj5 =>
     have H := HA.out
     clear HA
     simp only [ladderbackref31_Reach.j0] at H
     by_cases c11 : x27_5 = true
     ·
      subst c11
      have H1 : (some y166) = some r := by rw [if_pos rfl] at H; exact H
      clear H
      have H := H1
      clear H1
      obtain rfl := Option.some.inj H
      go_wp2
      go_ret
      exact ⟨_, by first | rfl | (simp [errW_none, errW_some] <;> rfl) | (simp [*, errW_none, errW_some] <;> rfl), by (with_reducible repeat (first | apply Kd.R_alloc | apply Kd.R_drewN | apply Kd.R_drew)); exact HO_7.out, by repeat (first | (with_reducible first | exact HB.out | apply below_alloc | apply pw_below_drewN | apply below_drew1) | exact HB.out)⟩
     ·
      replace c11 := Bool.eq_false_iff.mpr c11
      subst c11
      have H1 : (if 0 ≤ a1 then (if a1 < (y166.length : Int) then (ladderbackref31_Reach.l0 kj5 l0 a2 (y166.set (a1 : Int).toNat true) 0) else (none)) else (none)) = some r := by rw [if_neg (show ¬ (false = true) by decide)] at H; exact H
      clear H
      have H := H1
      clear H1
      by_cases c12 : 0 ≤ a1
      ·
       rw [if_pos c12] at H
       have c12b0 : decide (0 ≤ a1) = true := decide_eq_true c12
       clear c12
       by_cases c13 : a1 < (y166.length : Int)
       ·
        rw [if_pos c13] at H
        have c13b0 : decide (a1 < (y166.length : Int)) = true := decide_eq_true c13
        clear c13
        obtain ⟨y169, hy169⟩ : ∃ y_ : List Bool, y_ = (y166.set (a1 : Int).toNat true) := ⟨_, rfl⟩
        replace H : (ladderbackref31_Reach.l0 kj5 l0 a2 y169 0) = some r := by first | (rw [hy169]; with_reducible exact H) | (have H2_ := (Option.bind_some _ _).symm.trans H; rw [hy169]; with_reducible exact H2_) | (have H2_ := (Option.bind_some _ _).symm.trans H; with_reducible exact H2_) | with_reducible exact H | (rw [hy169]; exact H) | exact H
        have Ny169 := Aside0.mk hy169
        clear hy169
        have H' := Aside0.mk H
        clear H
        have p14 : 0 ≤ (a1 : Int) := of_decide_eq_true p4_0
        have q14 : (a1 : Int) < ((y166.length : Int) : Int) := of_decide_eq_true p4_0
        obtain ⟨go14, co14, eo14, gb14, gl14, cl14, HG14⟩ := Kd.R_form HO_7.out (by omega)
        (first | cases eo14 | (injection eo14 with ea_ en_ ec_; (first | subst ea_ | (injection ea_ with ea_; subst ea_)); subst ec_; clear en_))
        have GB14 := Aside0.mk gb14
        have GG14 := Aside0.mk HG14
        clear gb14 gl14 HG14
        obtain ⟨hx14_0, hf14_0⟩ := Kd.R_celln false HO_7.out (a1 : Int) p14 q14
        replace p14 := eq_true p14
        replace q14 := eq_true q14
        have HP15 := Kd.R_putg HO_7.out (a1 : Int) true
        go_wp2_with (first | ((with_reducible refine gate_store (t := 4) (p := 31) rfl ?_); refine store_event (t := 4) (p := 31) (v := ?vo_w16) (w1 := (wc.setCell ⟨go14, (a1 : Int).toNat, none⟩ (.bool true))) ?hg ?ho ?hn ?hr ?_; (case ho => rfl); (case hg => rfl); (case hn => rfl); (case hr => first | (go_simp; done) | (go_simp; rfl)); intro w16 hw; have hg : wc.grownBy w16 (some go14) := (by rw [hw]; exact HP15.2); have hp_ : Kd.R Kd.bool 4 w16 w.heap.size (fun _ => True) (.slice (some ⟨go14, 0, none⟩) y166.length co14) y169 := (by rw [hw, Ny169.out]; exact HP15.1); clear HP15; have n0_ := Aside0.mk (hp_); have n1_ := Aside0.mk ((by rw [hw]; exact below_set (HB.out) GB14.out : Below w.heap.size w w16)); clear HO_7; clear HB; have HO_7 := n0_; have HB := n1_; clear n0_ n1_; clear hg hw hp_))
        go_loopg [8] kj5 (fun kq v8 w' => ∃ (x7_2 : List Bool) (x8_2 : Int), v8 = .int .i64 x8_2 ∧ Aside0 (ladderbackref31_Reach.l0 kq l0 a2 x7_2 x8_2 = some r) ∧ Aside0 (kq ≤ kj5) ∧ Aside0 (Kd.R Kd.bool 4 w' w.heap.size (fun _ => True) (.slice (some ⟨go14, 0, none⟩) y166.length co14) x7_2) ∧ Aside0 (Below w.heap.size w w'))
        case atStart => exact ⟨(y169), (0), p4_1, H', ⟨Nat.le_refl _⟩, ⟨by (with_reducible repeat (first | apply Kd.R_alloc | apply Kd.R_drewN | apply Kd.R_drew)); exact HO_7.out⟩, ⟨by repeat (first | (with_reducible first | exact HB.out | apply below_alloc | apply pw_below_drewN | apply below_drew1) | exact HB.out)⟩⟩
        case round =>
         clear H'
         (try clear c11); (try clear c12); (try clear c12b0); (try clear c13); (try clear c13b0); (try clear p14); (try clear q14); (try clear hx14_0)
         obtain ⟨x7_2, x8_2, rfl, HA, HK2, HO_7, HB⟩ := hrel
         have hl7_2 := (Kd.R_reads' HO_7.out).1
         rw [hl7_2] at HO_7
         (try simp only [hl7_2])
         cases gk with
         | zero => exact absurd HA.out (by simp [ladderbackref31_Reach.l0])
         | succ k2 =>
          have H := HA.out
          clear HA
          simp only [ladderbackref31_Reach.l0] at H
          by_cases c17 : x8_2 < (l0.length : Int)
          ·
           rw [if_pos c17] at H
           have c17b0 : decide (x8_2 < (l0.length : Int)) = true := decide_eq_true c17
           clear c17
           have H' := Aside0.mk H
           clear H
           go_wp2
           go_loopg [9] k2 (fun kq v9 w' => ∃ (x7_3 : List Bool) (x9_3 : Int), v9 = .int .i64 x9_3 ∧ Aside0 (ladderbackref31_Reach.l1 kq l0 a2 x7_3 x8_2 x9_3 = some r) ∧ Aside0 (kq ≤ k2) ∧ Aside0 (Kd.R Kd.bool 4 w' w.heap.size (fun _ => True) (.slice (some ⟨go14, 0, none⟩) x7_2.length co14) x7_3) ∧ Aside0 (Below w.heap.size w w'))
           case atStart => exact ⟨(x7_2), (0), p4_1, H', ⟨Nat.le_refl _⟩, ⟨by (try simp only [hl7_2]); (with_reducible repeat (first | apply Kd.R_alloc | apply Kd.R_drewN | apply Kd.R_drew)); exact HO_7.out⟩, ⟨by repeat (first | (with_reducible first | exact HB.out | apply below_alloc | apply pw_below_drewN | apply below_drew1) | exact HB.out)⟩⟩
           case round =>
            clear H'
            (try clear c17); (try clear c17b0)
            obtain ⟨x7_3, x9_3, rfl, HA, HK3, HO_7, HB⟩ := hrel
            have hl7_3 := (Kd.R_reads' HO_7.out).1
            rw [hl7_3] at HO_7
            (try simp only [hl7_3])
            cases gk with
            | zero => exact absurd HA.out (by simp [ladderbackref31_Reach.l1])
            | succ k3 =>
             have H := HA.out
             clear HA
             simp only [ladderbackref31_Reach.l1] at H
             by_cases c18 : x9_3 < (l0.length : Int)
             ·
              rw [if_pos c18] at H
              have c18b0 : decide (x9_3 < (l0.length : Int)) = true := decide_eq_true c18
              clear c18
              have H' := Aside0.mk H
              clear H
              go_wp2
              go_loopg [10] k3 (fun kq v10 w' => ∃ (x7_4 : List Bool) (x10_4 : Int), v10 = .int .i64 x10_4 ∧ Aside0 (ladderbackref31_Reach.l2 kq l0 a2 x7_4 x8_2 x9_3 x10_4 = some r) ∧ Aside0 (kq ≤ k3) ∧ Aside0 (Kd.R Kd.bool 4 w' w.heap.size (fun _ => True) (.slice (some ⟨go14, 0, none⟩) x7_3.length co14) x7_4) ∧ Aside0 (Below w.heap.size w w'))
              case atStart => exact ⟨(x7_3), (0), p4_1, H', ⟨Nat.le_refl _⟩, ⟨by (try simp only [hl7_2]); (try simp only [hl7_3]); (with_reducible repeat (first | apply Kd.R_alloc | apply Kd.R_drewN | apply Kd.R_drew)); exact HO_7.out⟩, ⟨by repeat (first | (with_reducible first | exact HB.out | apply below_alloc | apply pw_below_drewN | apply below_drew1) | exact HB.out)⟩⟩
              case round =>
               clear H'
               (try clear c18); (try clear c18b0)
               obtain ⟨x7_4, x10_4, rfl, HA, HK4, HO_7, HB⟩ := hrel
               have hl7_4 := (Kd.R_reads' HO_7.out).1
               rw [hl7_4] at HO_7
               (try simp only [hl7_4])
               cases gk with
               | zero => exact absurd HA.out (by simp [ladderbackref31_Reach.l2])
               | succ k4 =>
                have H := HA.out
                clear HA
                simp only [ladderbackref31_Reach.l2] at H
                have HC19 := Aside0.mk H
                clear H
                go_upto_region 12 with (fail)
                go_cut [56] from 44 to 56 (fun v56 wc => ∃ (kq : Nat) (x56_18 : Bool), v56 = .bool x56_18 ∧ Aside0 (ladderbackref31_Reach.j4 kq l0 a2 x7_4 x8_2 x9_3 x10_4 x56_18 = some r) ∧ Aside0 (kq ≤ k4) ∧ Aside0 (Kd.R Kd.bool 4 wc w.heap.size (fun _ => True) (.slice (some ⟨go14, 0, none⟩) x7_4.length co14) x7_4) ∧ Aside0 (Below w.heap.size w wc))
                case first =>
                 have H := HC19.out
                 clear HC19
                 by_cases c20 : 0 ≤ x9_3
                 ·
                  rw [if_pos c20] at H
                  have c20b0 : decide (0 ≤ x9_3) = true := decide_eq_true c20
                  clear c20
                  (first | rw [c20b0] | (simp only [i64_w, i32_w]; rw [c20b0]) | rw [c20b1] | skip)
                  by_cases c21 : x9_3 < (l0.length : Int)
                  ·
                   rw [if_pos c21] at H
                   have c21b0 : decide (x9_3 < (l0.length : Int)) = true := decide_eq_true c21
                   clear c21
                   by_cases c22 : x10_4 < ((rd_L1 l0 x9_3).length : Int)
                   ·
                    rw [if_pos c22] at H
                    have c22b0 : decide (x10_4 < ((rd_L1 l0 x9_3).length : Int)) = true := decide_eq_true c22
                    clear c22
                    by_cases c23 : x9_3 < (x7_4.length : Int)
                    ·
                     rw [if_pos c23] at H
                     have c23b0 : decide (x9_3 < (x7_4.length : Int)) = true := decide_eq_true c23
                     clear c23
                     have H' := Aside0.mk H
                     clear H
                     have p170 : 0 ≤ (x9_3 : Int) := of_decide_eq_true p4_0
                     have q170 : x9_3 < (l0.length : Int) := of_decide_eq_true p4_0
                     obtain ⟨ad170, A170_0, c170_0, e170, hx170_0, hl170_0, hi170_0⟩ := at_L1 HR0.out x9_3 p170 q170
                     cases e170
                     replace hx170_0 := (HB.out.cell (World.block_lt_of_cell? w _ hx170_0)).trans hx170_0
                     have HR170_0 := Aside0.mk hi170_0
                     have HC170_0 := Aside0.mk hl170_0
                     clear hi170_0 hl170_0
                     replace p170 := eq_true p170
                     replace q170 := eq_true q170
                     have p171 : 0 ≤ (x9_3 : Int) := of_decide_eq_true p4_0
                     have q171 : x9_3 < (x7_4.length : Int) := of_decide_eq_true p4_0
                     obtain ⟨ad171, e171, hx171_0⟩ := Kd.at_bool (Kd.R_reads' HO_7.out).2.2 x9_3 p171 q171
                     obtain rfl : (⟨go14, 0, none⟩ : Addr) = ad171 := (by injection e171)
                     (first | simp only [add_plain] at hx171_0 | simp only [add_at] at hx171_0 | simp only [Addr.add, Nat.zero_add] at hx171_0 | skip)
                     replace p171 := eq_true p171
                     replace q171 := eq_true q171
                     go_wp2
                     go_meet
                     case rel => exact ⟨_, (rdOf false x7_4 x9_3), p4_1, H', ⟨by have := HJ5.out; have := HK2.out; have := HK3.out; have := HK4.out; first | omega | exact Nat.le_refl _⟩, ⟨by (try simp only [hl7_2]); (try simp only [hl7_3]); (try simp only [hl7_4]); (with_reducible repeat (first | apply Kd.R_alloc | apply Kd.R_drewN | apply Kd.R_drew)); exact HO_7.out⟩, ⟨by repeat (first | (with_reducible first | exact HB.out | apply below_alloc | apply pw_below_drewN | apply below_drew1) | exact HB.out)⟩⟩
                    ·
                     rw [if_neg c23] at H
                     exact absurd H (by simp)
                   ·
                    rw [if_neg c22] at H
                    have c22b0 : decide (x10_4 < ((rd_L1 l0 x9_3).length : Int)) = false := decide_eq_false c22
                    clear c22
                    have H' := Aside0.mk H
                    clear H
                    have p170 : 0 ≤ (x9_3 : Int) := of_decide_eq_true p4_0
                    have q170 : x9_3 < (l0.length : Int) := of_decide_eq_true p4_0
                    obtain ⟨ad170, A170_0, c170_0, e170, hx170_0, hl170_0, hi170_0⟩ := at_L1 HR0.out x9_3 p170 q170
                    cases e170
                    replace hx170_0 := (HB.out.cell (World.block_lt_of_cell? w _ hx170_0)).trans hx170_0
                    have HR170_0 := Aside0.mk hi170_0
                    have HC170_0 := Aside0.mk hl170_0
                    clear hi170_0 hl170_0
                    replace p170 := eq_true p170
                    replace q170 := eq_true q170
                    go_wp2
                    go_meet
                    case rel => exact ⟨_, (false), p4_1, H', ⟨by have := HJ5.out; have := HK2.out; have := HK3.out; have := HK4.out; first | omega | exact Nat.le_refl _⟩, ⟨by (try simp only [hl7_2]); (try simp only [hl7_3]); (try simp only [hl7_4]); (with_reducible repeat (first | apply Kd.R_alloc | apply Kd.R_drewN | apply Kd.R_drew)); exact HO_7.out⟩, ⟨by repeat (first | (with_reducible first | exact HB.out | apply below_alloc | apply pw_below_drewN | apply below_drew1) | exact HB.out)⟩⟩
                  ·
                   rw [if_neg c21] at H
                   exact absurd H (by simp)
                 ·
                  rw [if_neg c20] at H
                  exact absurd H (by simp)
                case rest =>
                 clear HC19
                 obtain ⟨kq, x56_18, rfl, HA, HJ18, HO_7, HB⟩ := hcut
                 cases kq with
                 | zero => exact absurd HA.out (by simp [ladderbackref31_Reach.j4])
                 | succ kj18 =>
                  have H := HA.out
                  clear HA
                  simp only [ladderbackref31_Reach.j4] at H
                  by_cases c24 : x56_18 = true
                  ·
                   subst c24
                   have H1 : (if 0 ≤ x9_3 then (if x9_3 < (l0.length : Int) then (if 0 ≤ x10_4 then (if x10_4 < ((rd_L1 l0 x9_3).length : Int) then (if (rd (rd_L1 l0 x9_3) x10_4) ≥ 0 then (if (rd (rd_L1 l0 x9_3) x10_4) < (l0.length : Int) then (if (rd (rd_L1 l0 x9_3) x10_4) = a2 then (ladderbackref31_Reach.l2 kj18 l0 a2 x7_4 x8_2 x9_3 (wrap64 (x10_4 + 1))) else (if 0 ≤ (rd (rd_L1 l0 x9_3) x10_4) then (if (rd (rd_L1 l0 x9_3) x10_4) < (x7_4.length : Int) then (ladderbackref31_Reach.l2 kj18 l0 a2 (x7_4.set ((rd (rd_L1 l0 x9_3) x10_4) : Int).toNat true) x8_2 x9_3 (wrap64 (x10_4 + 1))) else (none)) else (none))) else (ladderbackref31_Reach.l2 kj18 l0 a2 x7_4 x8_2 x9_3 (wrap64 (x10_4 + 1)))) else (ladderbackref31_Reach.l2 kj18 l0 a2 x7_4 x8_2 x9_3 (wrap64 (x10_4 + 1)))) else (none)) else (none)) else (none)) else (none)) = some r := by rw [if_pos rfl] at H; exact H
                   clear H
                   have H := H1
                   clear H1
                   by_cases c25 : 0 ≤ x9_3
                   ·
                    rw [if_pos c25] at H
                    have c25b0 : decide (0 ≤ x9_3) = true := decide_eq_true c25
                    clear c25
                    by_cases c26 : x9_3 < (l0.length : Int)
                    ·
                     rw [if_pos c26] at H
                     have c26b0 : decide (x9_3 < (l0.length : Int)) = true := decide_eq_true c26
                     clear c26
                     by_cases c27 : 0 ≤ x10_4
                     ·
                      rw [if_pos c27] at H
                      have c27b0 : decide (0 ≤ x10_4) = true := decide_eq_true c27
                      clear c27
                      by_cases c28 : x10_4 < ((rd_L1 l0 x9_3).length : Int)
                      ·
                       rw [if_pos c28] at H
                       have c28b0 : decide (x10_4 < ((rd_L1 l0 x9_3).length : Int)) = true := decide_eq_true c28
                       clear c28
                       by_cases c29 : (rd (rd_L1 l0 x9_3) x10_4) ≥ 0
                       ·
                        rw [if_pos c29] at H
                        have c29b0 : decide (0 ≤ (rd (rd_L1 l0 x9_3) x10_4)) = true := decide_eq_true c29
                        clear c29
                        by_cases c30 : (rd (rd_L1 l0 x9_3) x10_4) < (l0.length : Int)
                        ·
                         rw [if_pos c30] at H
                         have c30b0 : decide ((rd (rd_L1 l0 x9_3) x10_4) < (l0.length : Int)) = true := decide_eq_true c30
                         clear c30
                         by_cases c31 : (rd (rd_L1 l0 x9_3) x10_4) = a2
                         ·
                          rw [if_pos c31] at H
                          have c31b0 : ((rd (rd_L1 l0 x9_3) x10_4) == a2) = true := beq_iff_eq.mpr c31
                          have c31b1 : ((rd (rd_L1 l0 x9_3) x10_4) != a2) = false := bne_eq_false_iff_eq.mpr c31
                          clear c31
                          have H' := Aside0.mk H
                          clear H
                          have p172 : 0 ≤ (x9_3 : Int) := of_decide_eq_true p4_0
                          have q172 : x9_3 < (l0.length : Int) := of_decide_eq_true p4_0
                          obtain ⟨ad172, A172_0, c172_0, e172, hx172_0, hl172_0, hi172_0⟩ := at_L1 HR0.out x9_3 p172 q172
                          cases e172
                          replace hx172_0 := (HB.out.cell (World.block_lt_of_cell? w _ hx172_0)).trans hx172_0
                          have HR172_0 := Aside0.mk hi172_0
                          have HC172_0 := Aside0.mk hl172_0
                          clear hi172_0 hl172_0
                          replace p172 := eq_true p172
                          replace q172 := eq_true q172
                          have p173 : 0 ≤ (x10_4 : Int) := of_decide_eq_true p4_0
                          have q173 : x10_4 < ((rd_L1 l0 x9_3).length : Int) := of_decide_eq_true p4_0
                          obtain ⟨ad173, e173, hx173_0⟩ := Kd.at_int HR172_0.out x10_4 p173 q173
                          cases e173
                          replace hx173_0 := (HB.out.cell (World.block_lt_of_cell? w _ hx173_0)).trans hx173_0
                          replace p173 := eq_true p173
                          replace q173 := eq_true q173
                          go_wp2
                          (try simp only [← hl7_4])
                          go_roundg kj18
                          case measure => have := HJ5.out; have := HK2.out; have := HK3.out; have := HK4.out; have := HJ18.out; omega
                          case rel => exact ⟨(x7_4), (wrap64 (x10_4 + 1)), p4_1, H', ⟨by have := HJ5.out; have := HK2.out; have := HK3.out; have := HK4.out; have := HJ18.out; omega⟩, ⟨by (try simp only [hl7_2]); (try simp only [hl7_3]); (try simp only [hl7_4]); (with_reducible repeat (first | apply Kd.R_alloc | apply Kd.R_drewN | apply Kd.R_drew)); exact HO_7.out⟩, ⟨by repeat (first | (with_reducible first | exact HB.out | apply below_alloc | apply pw_below_drewN | apply below_drew1) | exact HB.out)⟩⟩
                         ·
                          rw [if_neg c31] at H
                          have c31b0 : ((rd (rd_L1 l0 x9_3) x10_4) == a2) = false := beq_eq_false_iff_ne.mpr c31
                          have c31b1 : ((rd (rd_L1 l0 x9_3) x10_4) != a2) = true := bne_iff_ne.mpr c31
                          by_cases c32 : 0 ≤ (rd (rd_L1 l0 x9_3) x10_4)
                          ·
                           rw [if_pos c32] at H
                           have c32b0 : decide (0 ≤ (rd (rd_L1 l0 x9_3) x10_4)) = true := decide_eq_true c32
                           clear c32
                           by_cases c33 : (rd (rd_L1 l0 x9_3) x10_4) < (x7_4.length : Int)
                           ·
                            rw [if_pos c33] at H
                            have c33b0 : decide ((rd (rd_L1 l0 x9_3) x10_4) < (x7_4.length : Int)) = true := decide_eq_true c33
                            clear c33
                            obtain ⟨y174, hy174⟩ : ∃ y_ : List Bool, y_ = (x7_4.set ((rd (rd_L1 l0 x9_3) x10_4) : Int).toNat true) := ⟨_, rfl⟩
                            replace H : (ladderbackref31_Reach.l2 kj18 l0 a2 y174 x8_2 x9_3 (wrap64 (x10_4 + 1))) = some r := by first | (rw [hy174]; with_reducible exact H) | (have H2_ := (Option.bind_some _ _).symm.trans H; rw [hy174]; with_reducible exact H2_) | (have H2_ := (Option.bind_some _ _).symm.trans H; with_reducible exact H2_) | with_reducible exact H | (rw [hy174]; exact H) | exact H
                            have Ny174 := Aside0.mk hy174
                            clear hy174
                            have H' := Aside0.mk H
                            clear H
                            have p172 : 0 ≤ (x9_3 : Int) := of_decide_eq_true p4_0
                            have q172 : x9_3 < (l0.length : Int) := of_decide_eq_true p4_0
                            obtain ⟨ad172, A172_0, c172_0, e172, hx172_0, hl172_0, hi172_0⟩ := at_L1 HR0.out x9_3 p172 q172
                            cases e172
                            replace hx172_0 := (HB.out.cell (World.block_lt_of_cell? w _ hx172_0)).trans hx172_0
                            have HR172_0 := Aside0.mk hi172_0
                            have HC172_0 := Aside0.mk hl172_0
                            clear hi172_0 hl172_0
                            replace p172 := eq_true p172
                            replace q172 := eq_true q172
                            have p173 : 0 ≤ (x10_4 : Int) := of_decide_eq_true p4_0
                            have q173 : x10_4 < ((rd_L1 l0 x9_3).length : Int) := of_decide_eq_true p4_0
                            obtain ⟨ad173, e173, hx173_0⟩ := Kd.at_int HR172_0.out x10_4 p173 q173
                            cases e173
                            replace hx173_0 := (HB.out.cell (World.block_lt_of_cell? w _ hx173_0)).trans hx173_0
                            replace p173 := eq_true p173
                            replace q173 := eq_true q173
                            have p34 : 0 ≤ ((rd (rd_L1 l0 x9_3) x10_4) : Int) := of_decide_eq_true p4_0
                            have q34 : ((rd (rd_L1 l0 x9_3) x10_4) : Int) < ((x7_4.length : Int) : Int) := of_decide_eq_true p4_0
                            obtain ⟨hx34_0, hf34_0⟩ := Kd.R_celln false HO_7.out ((rd (rd_L1 l0 x9_3) x10_4) : Int) p34 q34
                            replace p34 := eq_true p34
                            replace q34 := eq_true q34
                            have HP35 := Kd.R_putg HO_7.out ((rd (rd_L1 l0 x9_3) x10_4) : Int) true
                            go_wp2_with (first | ((with_reducible refine gate_store (t := 4) (p := 81) rfl ?_); refine store_event (t := 4) (p := 81) (v := ?vo_w36) (w1 := (wc.setCell ⟨go14, ((rd (rd_L1 l0 x9_3) x10_4) : Int).toNat, none⟩ (.bool true))) ?hg ?ho ?hn ?hr ?_; (case ho => rfl); (case hg => rfl); (case hn => rfl); (case hr => first | (go_simp; done) | (go_simp; rfl)); intro w36 hw; have hg : wc.grownBy w36 (some go14) := (by rw [hw]; exact HP35.2); have hp_ : Kd.R Kd.bool 4 w36 w.heap.size (fun _ => True) (.slice (some ⟨go14, 0, none⟩) x7_4.length co14) y174 := (by rw [hw, Ny174.out]; exact HP35.1); clear HP35; have n0_ := Aside0.mk (hp_); have n1_ := Aside0.mk ((by rw [hw]; exact below_set (HB.out) GB14.out : Below w.heap.size w w36)); clear HO_7; clear HB; have HO_7 := n0_; have HB := n1_; clear n0_ n1_; clear hg hw hp_))
                            (try simp only [← hl7_4])
                            go_roundg kj18
                            case measure => have := HJ5.out; have := HK2.out; have := HK3.out; have := HK4.out; have := HJ18.out; omega
                            case rel => exact ⟨(y174), (wrap64 (x10_4 + 1)), p4_1, H', ⟨by have := HJ5.out; have := HK2.out; have := HK3.out; have := HK4.out; have := HJ18.out; omega⟩, ⟨by (try simp only [hl7_2]); (try simp only [hl7_3]); (try simp only [hl7_4]); (with_reducible repeat (first | apply Kd.R_alloc | apply Kd.R_drewN | apply Kd.R_drew)); exact HO_7.out⟩, ⟨by repeat (first | (with_reducible first | exact HB.out | apply below_alloc | apply pw_below_drewN | apply below_drew1) | exact HB.out)⟩⟩
                           ·
                            rw [if_neg c33] at H
                            exact absurd H (by simp)
                          ·
                           rw [if_neg c32] at H
                           exact absurd H (by simp)
                        ·
                         rw [if_neg c30] at H
                         have c30b0 : decide ((rd (rd_L1 l0 x9_3) x10_4) < (l0.length : Int)) = false := decide_eq_false c30
                         clear c30
                         have H' := Aside0.mk H
                         clear H
                         have p172 : 0 ≤ (x9_3 : Int) := of_decide_eq_true p4_0
                         have q172 : x9_3 < (l0.length : Int) := of_decide_eq_true p4_0
                         obtain ⟨ad172, A172_0, c172_0, e172, hx172_0, hl172_0, hi172_0⟩ := at_L1 HR0.out x9_3 p172 q172
                         cases e172
                         replace hx172_0 := (HB.out.cell (World.block_lt_of_cell? w _ hx172_0)).trans hx172_0
                         have HR172_0 := Aside0.mk hi172_0
                         have HC172_0 := Aside0.mk hl172_0
                         clear hi172_0 hl172_0
                         replace p172 := eq_true p172
                         replace q172 := eq_true q172
                         have p173 : 0 ≤ (x10_4 : Int) := of_decide_eq_true p4_0
                         have q173 : x10_4 < ((rd_L1 l0 x9_3).length : Int) := of_decide_eq_true p4_0
                         obtain ⟨ad173, e173, hx173_0⟩ := Kd.at_int HR172_0.out x10_4 p173 q173
                         cases e173
                         replace hx173_0 := (HB.out.cell (World.block_lt_of_cell? w _ hx173_0)).trans hx173_0
                         replace p173 := eq_true p173
                         replace q173 := eq_true q173
                         go_wp2
                         (try simp only [← hl7_4])
                         go_roundg kj18
                         case measure => have := HJ5.out; have := HK2.out; have := HK3.out; have := HK4.out; have := HJ18.out; omega
                         case rel => exact ⟨(x7_4), (wrap64 (x10_4 + 1)), p4_1, H', ⟨by have := HJ5.out; have := HK2.out; have := HK3.out; have := HK4.out; have := HJ18.out; omega⟩, ⟨by (try simp only [hl7_2]); (try simp only [hl7_3]); (try simp only [hl7_4]); (with_reducible repeat (first | apply Kd.R_alloc | apply Kd.R_drewN | apply Kd.R_drew)); exact HO_7.out⟩, ⟨by repeat (first | (with_reducible first | exact HB.out | apply below_alloc | apply pw_below_drewN | apply below_drew1) | exact HB.out)⟩⟩
                       ·
                        rw [if_neg c29] at H
                        have c29b0 : decide (0 ≤ (rd (rd_L1 l0 x9_3) x10_4)) = false := decide_eq_false c29
                        clear c29
                        have H' := Aside0.mk H
                        clear H
                        have p172 : 0 ≤ (x9_3 : Int) := of_decide_eq_true p4_0
                        have q172 : x9_3 < (l0.length : Int) := of_decide_eq_true p4_0
                        obtain ⟨ad172, A172_0, c172_0, e172, hx172_0, hl172_0, hi172_0⟩ := at_L1 HR0.out x9_3 p172 q172
                        cases e172
                        replace hx172_0 := (HB.out.cell (World.block_lt_of_cell? w _ hx172_0)).trans hx172_0
                        have HR172_0 := Aside0.mk hi172_0
                        have HC172_0 := Aside0.mk hl172_0
                        clear hi172_0 hl172_0
                        replace p172 := eq_true p172
                        replace q172 := eq_true q172
                        have p173 : 0 ≤ (x10_4 : Int) := of_decide_eq_true p4_0
                        have q173 : x10_4 < ((rd_L1 l0 x9_3).length : Int) := of_decide_eq_true p4_0
                        obtain ⟨ad173, e173, hx173_0⟩ := Kd.at_int HR172_0.out x10_4 p173 q173
                        cases e173
                        replace hx173_0 := (HB.out.cell (World.block_lt_of_cell? w _ hx173_0)).trans hx173_0
                        replace p173 := eq_true p173
                        replace q173 := eq_true q173
                        go_wp2
                        (try simp only [← hl7_4])
                        go_roundg kj18
                        case measure => have := HJ5.out; have := HK2.out; have := HK3.out; have := HK4.out; have := HJ18.out; omega
                        case rel => exact ⟨(x7_4), (wrap64 (x10_4 + 1)), p4_1, H', ⟨by have := HJ5.out; have := HK2.out; have := HK3.out; have := HK4.out; have := HJ18.out; omega⟩, ⟨by (try simp only [hl7_2]); (try simp only [hl7_3]); (try simp only [hl7_4]); (with_reducible repeat (first | apply Kd.R_alloc | apply Kd.R_drewN | apply Kd.R_drew)); exact HO_7.out⟩, ⟨by repeat (first | (with_reducible first | exact HB.out | apply below_alloc | apply pw_below_drewN | apply below_drew1) | exact HB.out)⟩⟩
                      ·
                       rw [if_neg c28] at H
                       exact absurd H (by simp)
                     ·
                      rw [if_neg c27] at H
                      exact absurd H (by simp)
                    ·
                     rw [if_neg c26] at H
                     exact absurd H (by simp)
                   ·
                    rw [if_neg c25] at H
                    exact absurd H (by simp)
                  ·
                   replace c24 := Bool.eq_false_iff.mpr c24
                   subst c24
                   have H1 : (ladderbackref31_Reach.l1 kj18 l0 a2 x7_4 x8_2 (wrap64 (x9_3 + 1))) = some r := by rw [if_neg (show ¬ (false = true) by decide)] at H; exact H
                   clear H
                   have H := H1
                   clear H1
                   have H' := Aside0.mk H
                   clear H
                   go_wp2
                   (try simp only [← hl7_3, ← hl7_4])
                   go_roundg kj18
                   case measure => have := HJ5.out; have := HK2.out; have := HK3.out; have := HK4.out; have := HJ18.out; omega
                   case rel => exact ⟨(x7_4), (wrap64 (x9_3 + 1)), p4_1, H', ⟨by have := HJ5.out; have := HK2.out; have := HK3.out; have := HK4.out; have := HJ18.out; omega⟩, ⟨by (try simp only [hl7_2]); (try simp only [hl7_3]); (try simp only [hl7_4]); (with_reducible repeat (first | apply Kd.R_alloc | apply Kd.R_drewN | apply Kd.R_drew)); exact HO_7.out⟩, ⟨by repeat (first | (with_reducible first | exact HB.out | apply below_alloc | apply pw_below_drewN | apply below_drew1) | exact HB.out)⟩⟩
             ·
              rw [if_neg c18] at H
              have c18b0 : decide (x9_3 < (l0.length : Int)) = false := decide_eq_false c18
              clear c18
              have H' := Aside0.mk H
              clear H
              go_wp2
              (try simp only [← hl7_2, ← hl7_3])
              go_roundg k3
              case measure => have := HJ5.out; have := HK2.out; have := HK3.out; omega
              case rel => exact ⟨(x7_3), (wrap64 (x8_2 + 1)), p4_1, H', ⟨by have := HJ5.out; have := HK2.out; have := HK3.out; omega⟩, ⟨by (try simp only [hl7_2]); (try simp only [hl7_3]); (with_reducible repeat (first | apply Kd.R_alloc | apply Kd.R_drewN | apply Kd.R_drew)); exact HO_7.out⟩, ⟨by repeat (first | (with_reducible first | exact HB.out | apply below_alloc | apply pw_below_drewN | apply below_drew1) | exact HB.out)⟩⟩
          ·
           rw [if_neg c17] at H
           have c17b0 : decide (x8_2 < (l0.length : Int)) = false := decide_eq_false c17
           clear c17
           obtain rfl := Option.some.inj H
           go_wp2
           go_ret
           exact ⟨_, by first | rfl | (simp [errW_none, errW_some] <;> rfl) | (simp [*, errW_none, errW_some] <;> rfl), by (with_reducible repeat (first | apply Kd.R_alloc | apply Kd.R_drewN | apply Kd.R_drew)); exact HO_7.out, by repeat (first | (with_reducible first | exact HB.out | apply below_alloc | apply pw_below_drewN | apply below_drew1) | exact HB.out)⟩
       ·
        rw [if_neg c13] at H
        exact absurd H (by simp)
      ·
       rw [if_neg c12] at H
       exact absurd H (by simp)
  ·
   rw [if_neg c5] at H
   exact absurd H (by simp)
 ·
  rw [if_neg c4] at H
  exact absurd H (by simp)

end Go.Proofs.YtfiffhcpgojkhaaDoor.QLoopNests
