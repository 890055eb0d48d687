-- Printed by a program of this session's over the kit's printer (wip/patch_print.py).
import Derived.Test.YtfiffhcpgojkhaaQInterPartsx0
namespace Go.Proofs.Ytfiffhcpgojkhaa.QInterParts
open Go.RowKit Go.Proofs.Ytfiffhcpgojkhaa Go.Proofs.YtfiffhcpgojkhaaW.PrintWords Go.Proofs.YtfiffhcpgojkhaaW.PrintLast Go.Proofs.YtfiffhcpgojkhaaW.PrintMore
attribute [local go_sem] setCell_drewN0 max2_int min2_int max_two min_two max_three min_three max_four min_four   -- for this text's walks alone
set_option linter.unusedVariables false
set_option linter.unusedSimpArgs false

/-! ### ladderbackref31_Few: function 13 -/
theorem p1_0 {P : Prop} (h : P := by first | (with_reducible assumption) | assumption) : P := h
theorem p1_1 {P : Prop} (h : P := by repeat (first | (with_reducible first | exact HB.out | apply below_alloc | apply pw_below_drewN | apply below_drew1) | exact HB.out)) : P := h
theorem p1_2 {P : Prop} (h : P := by first | rfl | (simp; done) | (simp [*]; done)) : P := h
theorem p1_3 {P : Prop} (h : P := by (with_reducible repeat (first | apply Kd.R_alloc | apply Kd.R_drewN | apply Kd.R_drew)); exact Kd.R_mono UU20.out (fun _ hk => .inl hk)) : P := h
theorem p1_4 {P : Prop} (h : P := by (with_reducible repeat (first | apply Kd.R_alloc | apply Kd.R_drewN | apply Kd.R_drew)); exact Kd.R_mono UU33.out (fun _ hk => .inl hk)) : P := h
theorem p1_5 {P : Prop} (h : P := by repeat (first | exact HH20.out | refine Kd.H_alloc ?_ _ | refine Kd.H_drewN ?_ _ | refine Kd.H_drew ?_)) : P := h
theorem p1_6 {P : Prop} (h : P := by repeat (first | exact HH33.out | refine Kd.H_alloc ?_ _ | refine Kd.H_drewN ?_ _ | refine Kd.H_drew ?_)) : P := h
theorem p1_7 {P : Prop} (h : P := by repeat (first | (with_reducible exact HR113_0.out) | (with_reducible refine Kd.C_alloc ?_ _) | (with_reducible refine Kd.C_drewN ?_ _) | (with_reducible refine Kd.C_drew ?_) | exact HR113_0.out)) : P := h
theorem p1_8 {P : Prop} (h : P := by first | exact q107 | exact of_decide_eq_true p1_0 | (have e_ := (Kd.S_reads' HO_3.out).1; omega)) : P := h
def ladderbackref31_Few.l0 : Nat → List (List Int) → Int → Option (Bool)
 | 0, _, _ => none
 | k + 1, x0, x5 => if x5 < (x0.length : Int) then (if 0 ≤ x5 then (if ((rd_L1 x0 x5).length : Int) > 40 then (some false) else (ladderbackref31_Few.l0 k x0 (wrap64 (x5 + 1)))) else (none)) else (some true)
def ladderbackref31_Few.f (k : Nat) (l0 : List (List Int)) (a1 : Int) : Option (Bool) := if (l0.length : Int) > a1 then (some false) else (ladderbackref31_Few.l0 k l0 0)
theorem ladderbackref31_Few.mono_l : ∀ k, (∀ y0 y1, LeO (ladderbackref31_Few.l0 k y0 y1) (ladderbackref31_Few.l0 (k + 1) y0 y1))
 | 0 => fun _ _ r h => by simp [ladderbackref31_Few.l0] at h
 | k + 1 => by
  have ih0 := ladderbackref31_Few.mono_l k
  ·
   intro y0 y1
   unfold ladderbackref31_Few.l0
   repeat' first
   | (with_reducible exact ih0 _ _)
   | (with_reducible exact LeO.refl _)
   | (with_reducible exact LeO.none _)
   | (with_reducible refine LeO.ite ?_ ?_)
   | (with_reducible refine LeO.bind ?_ (fun _ => ?_))
   | exact ih0 _ _
   | exact LeO.none _
   | refine LeO.ite ?_ ?_
   | refine LeO.bind ?_ (fun _ => ?_)
theorem ladderbackref31_Few.mono : ∀ a0 a1 k, LeO (ladderbackref31_Few.f k a0 a1) (ladderbackref31_Few.f (k + 1) a0 a1) := by
 intro a0 a1 k
 have ih0 := ladderbackref31_Few.mono_l k
 unfold ladderbackref31_Few.f
 repeat' first
   | (with_reducible exact ih0 _ _)
   | (with_reducible exact LeO.refl _)
   | (with_reducible exact LeO.none _)
   | (with_reducible refine LeO.ite ?_ ?_)
   | (with_reducible refine LeO.bind ?_ (fun _ => ?_))
   | exact ih0 _ _
   | exact LeO.none _
   | refine LeO.ite ?_ ?_
   | refine LeO.bind ?_ (fun _ => ?_)
set_option maxHeartbeats 8000000 in
set_option maxRecDepth 100000 in
theorem ladderbackref31_Few.calls (k : Nat) (A0 : Option Addr) (c0 : Nat) (l0 : List (List Int)) (a1 : Int) (r : Bool) (w : World) (hr0 : Kd.C (Kd.slice 3 (Kd.int .i64)) w A0 l0.length l0) (hc0 : l0.length ≤ c0) (h : ladderbackref31_Few.f k l0 a1 = some r) :
  Calls Try.prog 13 #[.slice A0 l0.length c0, .int .i64 a1] w fun e w' => e = .returned (.bool r) ∧ Drawn0 w w' := by
 have HR0 := Aside0.mk hr0
 have HC0 := Aside0.mk hc0
 clear hr0 hc0
 have H : (if (l0.length : Int) > a1 then (some false) else (ladderbackref31_Few.l0 k l0 0)) = some r := h
 clear h
 by_cases c3 : (l0.length : Int) > a1
 ·
  rw [if_pos c3] at H
  have c3b0 : decide (a1 < (l0.length : Int)) = true := decide_eq_true c3
  clear c3
  obtain rfl := Option.some.inj H
  go_enter Try.func13, Try.ntmps13
  go_wp2
  go_ret
  exact ⟨by first | rfl | (simp; done) | (simp [*]; done), by repeat (first | exact Drawn0.refl _ | apply Drawn0.step)⟩
 ·
  rw [if_neg c3] at H
  have c3b0 : decide (a1 < (l0.length : Int)) = false := decide_eq_false c3
  clear c3
  have H' := Aside0.mk H
  clear H
  go_enter Try.func13, Try.ntmps13
  go_wp2
  go_loopg [5] k (fun kq v5 w' => ∃ (x5_1 : Int), v5 = .int .i64 x5_1 ∧ Aside0 (ladderbackref31_Few.l0 kq l0 x5_1 = some r) ∧ Aside0 (kq ≤ k) ∧ Drawn0 w w')
  case atStart => exact ⟨(0), p1_2, H', ⟨Nat.le_refl _⟩, by repeat (first | exact Drawn0.refl _ | apply Drawn0.step)⟩
  case round =>
   clear H'
   (try clear c3); (try clear c3b0)
   obtain ⟨x5_1, rfl, HA, HK1, ⟨m1, rfl⟩⟩ := hrel
   cases gk with
   | zero => exact absurd HA.out (by simp [ladderbackref31_Few.l0])
   | succ k1 =>
    have H := HA.out
    clear HA
    simp only [ladderbackref31_Few.l0] at H
    by_cases c4 : x5_1 < (l0.length : Int)
    ·
     rw [if_pos c4] at H
     have c4b0 : decide (x5_1 < (l0.length : Int)) = true := decide_eq_true c4
     clear c4
     by_cases c5 : 0 ≤ x5_1
     ·
      rw [if_pos c5] at H
      have c5b0 : decide (0 ≤ x5_1) = true := decide_eq_true c5
      clear c5
      by_cases c6 : ((rd_L1 l0 x5_1).length : Int) > 40
      ·
       rw [if_pos c6] at H
       have c6b0 : decide (40 < ((rd_L1 l0 x5_1).length : Int)) = true := decide_eq_true c6
       have c6b1 : decide (40 < (rd_L1 l0 x5_1).length) = true := decide_eq_true (by omega)
       clear c6
       obtain rfl := Option.some.inj H
       have p101 : 0 ≤ (x5_1 : Int) := of_decide_eq_true p1_0
       have q101 : x5_1 < (l0.length : Int) := of_decide_eq_true p1_0
       obtain ⟨ad101, A101_0, c101_0, e101, hx101_0, hl101_0, hi101_0⟩ := at_L1 HR0.out x5_1 p101 q101
       cases e101
       have HR101_0 := Aside0.mk hi101_0
       have HC101_0 := Aside0.mk hl101_0
       clear hi101_0 hl101_0
       replace p101 := eq_true p101
       replace q101 := eq_true q101
       go_wp2
       go_ret
       exact ⟨by first | rfl | (simp; done) | (simp [*]; done), by repeat (first | exact Drawn0.refl _ | apply Drawn0.step)⟩
      ·
       rw [if_neg c6] at H
       have c6b0 : decide (40 < ((rd_L1 l0 x5_1).length : Int)) = false := decide_eq_false c6
       have c6b1 : decide (40 < (rd_L1 l0 x5_1).length) = false := decide_eq_false (by omega)
       clear c6
       have H' := Aside0.mk H
       clear H
       have p101 : 0 ≤ (x5_1 : Int) := of_decide_eq_true p1_0
       have q101 : x5_1 < (l0.length : Int) := of_decide_eq_true p1_0
       obtain ⟨ad101, A101_0, c101_0, e101, hx101_0, hl101_0, hi101_0⟩ := at_L1 HR0.out x5_1 p101 q101
       cases e101
       have HR101_0 := Aside0.mk hi101_0
       have HC101_0 := Aside0.mk hl101_0
       clear hi101_0 hl101_0
       replace p101 := eq_true p101
       replace q101 := eq_true q101
       go_wp2
       go_roundg k1
       case measure => have := HK1.out; omega
       case rel => exact ⟨(wrap64 (x5_1 + 1)), p1_2, H', ⟨by have := HK1.out; omega⟩, by repeat (first | exact Drawn0.refl _ | apply Drawn0.step)⟩
     ·
      rw [if_neg c5] at H
      exact absurd H (by simp)
    ·
     rw [if_neg c4] at H
     have c4b0 : decide (x5_1 < (l0.length : Int)) = false := decide_eq_false c4
     clear c4
     obtain rfl := Option.some.inj H
     go_wp2
     go_ret
     exact ⟨by first | rfl | (simp; done) | (simp [*]; done), by repeat (first | exact Drawn0.refl _ | apply Drawn0.step)⟩

/-! ### flow_Preds: function 28 -/
mutual
def flow_Preds.l0 : Nat → List (List Int) → List (List Int) → List (List Int) → Int → Int → Option ((List (List Int)))
 | 0, _, _, _, _, _ => none
 | k + 1, x0, x3, x11, x12, x13 => if x13 < x12 then (if 0 ≤ x13 then (if x13 < (x11.length : Int) then (flow_Preds.l1 k x0 x3 x13 x11 x12 x13 (rd_L1 x11 x13) ((rd_L1 x11 x13).length : Int) 0) else (none)) else (none)) else (some x3)
def flow_Preds.l1 : Nat → List (List Int) → List (List Int) → Int → List (List Int) → Int → Int → List Int → Int → Int → Option ((List (List Int)))
 | 0, _, _, _, _, _, _, _, _, _ => none
 | k + 1, x0, x3, x4, x11, x12, x13, x18, x19, x20 => if x20 < x19 then (if 0 ≤ x20 then (if x20 < (x18.length : Int) then (if (rd x18 x20) ≥ 0 then (if (rd x18 x20) < (x0.length : Int) then (if 0 ≤ (rd x18 x20) then (if (rd x18 x20) < (x3.length : Int) then (if ((rd_L1 x3 (rd x18 x20)).length : Int) = 0 then (if (rd_L1 x3 (rd x18 x20)).length < 17592186044416 then (flow_Preds.l1 k x0 (x3.set ((rd x18 x20) : Int).toNat ((rd_L1 x3 (rd x18 x20)) ++ [x4])) x4 x11 x12 x13 x18 x19 (wrap64 (x20 + 1))) else (none)) else (if 0 ≤ (wrap64 (((rd_L1 x3 (rd x18 x20)).length : Int) - 1)) then (if (wrap64 (((rd_L1 x3 (rd x18 x20)).length : Int) - 1)) < ((rd_L1 x3 (rd x18 x20)).length : Int) then (if (rd (rd_L1 x3 (rd x18 x20)) (wrap64 (((rd_L1 x3 (rd x18 x20)).length : Int) - 1))) = x4 then (flow_Preds.l1 k x0 x3 x4 x11 x12 x13 x18 x19 (wrap64 (x20 + 1))) else (if (rd_L1 x3 (rd x18 x20)).length < 17592186044416 then (flow_Preds.l1 k x0 (x3.set ((rd x18 x20) : Int).toNat ((rd_L1 x3 (rd x18 x20)) ++ [x4])) x4 x11 x12 x13 x18 x19 (wrap64 (x20 + 1))) else (none))) else (none)) else (none))) else (none)) else (none)) else (flow_Preds.l1 k x0 x3 x4 x11 x12 x13 x18 x19 (wrap64 (x20 + 1)))) else (flow_Preds.l1 k x0 x3 x4 x11 x12 x13 x18 x19 (wrap64 (x20 + 1)))) else (none)) else (none)) else (flow_Preds.l0 k x0 x3 x11 x12 (wrap64 (x13 + 1)))
end
def flow_Preds.f (k : Nat) (l0 : List (List Int)) : Option ((List (List Int))) := if 0 ≤ (l0.length : Int) then (if ((l0.length : Int) : Int).toNat ≤ 11728124029610 then (flow_Preds.l0 k l0 (List.replicate ((l0.length : Int) : Int).toNat []) l0 (l0.length : Int) 0) else (none)) else (none)
theorem flow_Preds.mono_l : ∀ k, (∀ y0 y1 y2 y3 y4, LeO (flow_Preds.l0 k y0 y1 y2 y3 y4) (flow_Preds.l0 (k + 1) y0 y1 y2 y3 y4)) ∧ (∀ y0 y1 y2 y3 y4 y5 y6 y7 y8, LeO (flow_Preds.l1 k y0 y1 y2 y3 y4 y5 y6 y7 y8) (flow_Preds.l1 (k + 1) y0 y1 y2 y3 y4 y5 y6 y7 y8))
 | 0 => ⟨fun _ _ _ _ _ r h => by simp [flow_Preds.l0] at h, fun _ _ _ _ _ _ _ _ _ r h => by simp [flow_Preds.l1] at h⟩
 | k + 1 => by
  obtain ⟨ih0, ih1⟩ := flow_Preds.mono_l k
  refine ⟨?_, ?_⟩
  ·
   intro y0 y1 y2 y3 y4
   unfold flow_Preds.l0
   repeat' first
   | (with_reducible exact ih0 _ _ _ _ _)
   | (with_reducible exact ih1 _ _ _ _ _ _ _ _ _)
   | (with_reducible exact LeO.refl _)
   | (with_reducible exact LeO.none _)
   | (with_reducible refine LeO.ite ?_ ?_)
   | (with_reducible refine LeO.bind ?_ (fun _ => ?_))
   | exact ih0 _ _ _ _ _
   | exact ih1 _ _ _ _ _ _ _ _ _
   | exact LeO.none _
   | refine LeO.ite ?_ ?_
   | refine LeO.bind ?_ (fun _ => ?_)
  ·
   intro y0 y1 y2 y3 y4 y5 y6 y7 y8
   unfold flow_Preds.l1
   repeat' first
   | (with_reducible exact ih0 _ _ _ _ _)
   | (with_reducible exact ih1 _ _ _ _ _ _ _ _ _)
   | (with_reducible exact LeO.refl _)
   | (with_reducible exact LeO.none _)
   | (with_reducible refine LeO.ite ?_ ?_)
   | (with_reducible refine LeO.bind ?_ (fun _ => ?_))
   | exact ih0 _ _ _ _ _
   | exact ih1 _ _ _ _ _ _ _ _ _
   | exact LeO.none _
   | refine LeO.ite ?_ ?_
   | refine LeO.bind ?_ (fun _ => ?_)
theorem flow_Preds.mono : ∀ a0 k, LeO (flow_Preds.f k a0) (flow_Preds.f (k + 1) a0) := by
 intro a0 k
 obtain ⟨ih0, ih1⟩ := flow_Preds.mono_l k
 unfold flow_Preds.f
 repeat' first
   | (with_reducible exact ih0 _ _ _ _ _)
   | (with_reducible exact ih1 _ _ _ _ _ _ _ _ _)
   | (with_reducible exact LeO.refl _)
   | (with_reducible exact LeO.none _)
   | (with_reducible refine LeO.ite ?_ ?_)
   | (with_reducible refine LeO.bind ?_ (fun _ => ?_))
   | exact ih0 _ _ _ _ _
   | exact ih1 _ _ _ _ _ _ _ _ _
   | exact LeO.none _
   | refine LeO.ite ?_ ?_
   | refine LeO.bind ?_ (fun _ => ?_)
set_option maxHeartbeats 8000000 in
set_option maxRecDepth 100000 in
theorem flow_Preds.calls (k : Nat) (A0 : Option Addr) (c0 : Nat) (l0 : List (List Int)) (r : List (List Int)) (w : World) (hr0 : Kd.C (Kd.slice 3 (Kd.int .i64)) w A0 l0.length l0) (hc0 : l0.length ≤ c0) (h : flow_Preds.f k l0 = some r) :
  Calls Try.prog 28 #[.slice A0 l0.length c0] w fun e w' => ∃ v0_ : Value, e = .returned (v0_) ∧ Kd.S (Kd.slice 3 (Kd.int .i64)) 27 w' w.heap.size (fun _ => True) v0_ r ∧ Below w.heap.size w w' := by
 have HR0 := Aside0.mk hr0
 have HC0 := Aside0.mk hc0
 clear hr0 hc0
 have HB := Aside0.mk (Below.refl w.heap.size w)
 have H : (if 0 ≤ (l0.length : Int) then (if ((l0.length : Int) : Int).toNat ≤ 11728124029610 then (flow_Preds.l0 k l0 (List.replicate ((l0.length : Int) : Int).toNat []) l0 (l0.length : Int) 0) else (none)) else (none)) = some r := h
 clear h
 by_cases c2 : 0 ≤ (l0.length : Int)
 ·
  rw [if_pos c2] at H
  have c2b0 := eq_true c2
  have c2b1 : decide (0 ≤ (l0.length : Int)) = true := decide_eq_true c2
  clear c2
  by_cases c3 : ((l0.length : Int) : Int).toNat ≤ 11728124029610
  ·
   rw [if_pos c3] at H
   have c3b0 := eq_true c3
   have c3b1 : decide (((l0.length : Int) : Int).toNat ≤ 11728124029610) = true := decide_eq_true c3
   clear c3
   obtain ⟨y102, hy102⟩ : ∃ y_ : List (List Int), y_ = (List.replicate ((l0.length : Int) : Int).toNat []) := ⟨_, rfl⟩
   replace H : (flow_Preds.l0 k l0 y102 l0 (l0.length : Int) 0) = some r := by first | (rw [hy102]; with_reducible exact H) | (have H2_ := (Option.bind_some _ _).symm.trans H; rw [hy102]; with_reducible exact H2_) | (have H2_ := (Option.bind_some _ _).symm.trans H; with_reducible exact H2_) | with_reducible exact H | (rw [hy102]; exact H) | exact H
   have Ny102 := Aside0.mk hy102
   clear hy102
   have H' := Aside0.mk H
   clear H
   go_enter Try.func28, Try.ntmps28
   go_wp2_with (first | ((with_reducible refine gate_dst (N := 10) rfl ?_); (try (refine gate_guard (by rfl) ?_; dsimp only)); refine Kd.S_make (Kd.slice 3 (Kd.int .i64)) _ 27 rfl (N := 10) rfl 22 _ _ rfl (l0.length : Int) rfl rfl Try.underlying22 (.slice none 0 0) 24 info27 rfl (by decide) (by omega) [] (ok := fun _ => True) (okp := fun _ => True) ⟨_, rfl, Kd.R_nil _ _ _ _ _⟩ (fun _ hk => hk) trivial (of_decide_eq_true p1_0) (Nat.le_trans (Nat.mul_le_mul_right _ (of_decide_eq_true p1_0 : (l0.length : Int).toNat ≤ 11728124029610)) (by omega)) (Below.refl _ _) (Nat.le_refl _) ?_; intro v103 w4 ho5 hb hg_ hnew_; clear hg_ hnew_; (first | rw [← Ny102.out] at ho5 | (simp only [Int.reduceToNat] at ho5; rw [← Ny102.out] at ho5)); have n0_ := Aside0.mk (Kd.S_lower ho5 (below_size p1_1)); have n1_ := Aside0.mk (below_step p1_1 hb); clear HB; have HO104 := n0_; have HB := n1_; clear n0_ n1_; clear hb ho5))
   repeat (go_quiet (first | ((with_reducible refine gate_dst (N := 10) rfl ?_); (try (refine gate_guard (by rfl) ?_; dsimp only)); refine Kd.S_make (Kd.slice 3 (Kd.int .i64)) _ 27 rfl (N := 10) rfl 22 _ _ rfl (l0.length : Int) rfl rfl Try.underlying22 (.slice none 0 0) 24 info27 rfl (by decide) (by omega) [] (ok := fun _ => True) (okp := fun _ => True) ⟨_, rfl, Kd.R_nil _ _ _ _ _⟩ (fun _ hk => hk) trivial (of_decide_eq_true p1_0) (Nat.le_trans (Nat.mul_le_mul_right _ (of_decide_eq_true p1_0 : (l0.length : Int).toNat ≤ 11728124029610)) (by omega)) (Below.refl _ _) (Nat.le_refl _) ?_; intro v103 w4 ho5 hb hg_ hnew_; clear hg_ hnew_; (first | rw [← Ny102.out] at ho5 | (simp only [Int.reduceToNat] at ho5; rw [← Ny102.out] at ho5)); have n0_ := Aside0.mk (Kd.S_lower ho5 (below_size p1_1)); have n1_ := Aside0.mk (below_step p1_1 hb); clear HB; have HO104 := n0_; have HB := n1_; clear n0_ n1_; clear hb ho5)); try go_wp2_with (first | ((with_reducible refine gate_dst (N := 10) rfl ?_); (try (refine gate_guard (by rfl) ?_; dsimp only)); refine Kd.S_make (Kd.slice 3 (Kd.int .i64)) _ 27 rfl (N := 10) rfl 22 _ _ rfl (l0.length : Int) rfl rfl Try.underlying22 (.slice none 0 0) 24 info27 rfl (by decide) (by omega) [] (ok := fun _ => True) (okp := fun _ => True) ⟨_, rfl, Kd.R_nil _ _ _ _ _⟩ (fun _ hk => hk) trivial (of_decide_eq_true p1_0) (Nat.le_trans (Nat.mul_le_mul_right _ (of_decide_eq_true p1_0 : (l0.length : Int).toNat ≤ 11728124029610)) (by omega)) (Below.refl _ _) (Nat.le_refl _) ?_; intro v103 w4 ho5 hb hg_ hnew_; clear hg_ hnew_; (first | rw [← Ny102.out] at ho5 | (simp only [Int.reduceToNat] at ho5; rw [← Ny102.out] at ho5)); have n0_ := Aside0.mk (Kd.S_lower ho5 (below_size p1_1)); have n1_ := Aside0.mk (below_step p1_1 hb); clear HB; have HO104 := n0_; have HB := n1_; clear n0_ n1_; clear hb ho5)))
   go_loopg [13] k (fun kq v13 w' => ∃ (x3_1 : List (List Int)) (x13_1 : Int), v13 = .int .i64 x13_1 ∧ Aside0 (flow_Preds.l0 kq l0 x3_1 l0 (l0.length : Int) x13_1 = some r) ∧ Aside0 (kq ≤ k) ∧ Aside0 (Kd.S (Kd.slice 3 (Kd.int .i64)) 27 w' w.heap.size (fun _ => True) v103 x3_1) ∧ Aside0 (Below w.heap.size w w'))
   case atStart => exact ⟨(y102), (0), p1_2, H', ⟨Nat.le_refl _⟩, ⟨by (with_reducible repeat (first | apply Kd.S_alloc | apply Kd.S_drewN | apply Kd.S_drew)); exact HO104.out⟩, ⟨by repeat (first | (with_reducible first | exact HB.out | apply below_alloc | apply pw_below_drewN | apply below_drew1) | exact HB.out)⟩⟩
   case round =>
    clear H'
    (try clear c2); (try clear c2b0); (try clear c2b1); (try clear c3); (try clear c3b0); (try clear c3b1)
    obtain ⟨x3_1, x13_1, rfl, HA, HK1, HO_3, HB⟩ := hrel
    cases gk with
    | zero => exact absurd HA.out (by simp [flow_Preds.l0])
    | succ k1 =>
     have H := HA.out
     clear HA
     simp only [flow_Preds.l0] at H
     by_cases c6 : x13_1 < (l0.length : Int)
     ·
      rw [if_pos c6] at H
      have c6b0 : decide (x13_1 < (l0.length : Int)) = true := decide_eq_true c6
      clear c6
      by_cases c7 : 0 ≤ x13_1
      ·
       rw [if_pos c7] at H
       have c7b0 : decide (0 ≤ x13_1) = true := decide_eq_true c7
       clear c7
       by_cases c8 : x13_1 < (l0.length : Int)
       ·
        rw [if_pos c8] at H
        have c8b0 : decide (x13_1 < (l0.length : Int)) = true := decide_eq_true c8
        clear c8
        have H' := Aside0.mk H
        clear H
        have p105 : 0 ≤ (x13_1 : Int) := of_decide_eq_true p1_0
        have q105 : x13_1 < (l0.length : Int) := of_decide_eq_true p1_0
        obtain ⟨ad105, A105_0, c105_0, e105, hx105_0, hl105_0, hi105_0⟩ := at_L1 HR0.out x13_1 p105 q105
        cases e105
        replace hx105_0 := (HB.out.cell (World.block_lt_of_cell? w _ hx105_0)).trans hx105_0
        have HR105_0 := Aside0.mk hi105_0
        have HC105_0 := Aside0.mk hl105_0
        clear hi105_0 hl105_0
        replace p105 := eq_true p105
        replace q105 := eq_true q105
        go_wp2
        repeat (go_quiet (fail); try go_wp2)
        go_loopg [20] k1 (fun kq v20 w' => ∃ (x3_2 : List (List Int)) (x20_2 : Int), v20 = .int .i64 x20_2 ∧ Aside0 (flow_Preds.l1 kq l0 x3_2 x13_1 l0 (l0.length : Int) x13_1 (rd_L1 l0 x13_1) ((rd_L1 l0 x13_1).length : Int) x20_2 = some r) ∧ Aside0 (kq ≤ k1) ∧ Aside0 (Kd.S (Kd.slice 3 (Kd.int .i64)) 27 w' w.heap.size (fun _ => True) v103 x3_2) ∧ Aside0 (Below w.heap.size w w'))
        case atStart => exact ⟨(x3_1), (0), p1_2, H', ⟨Nat.le_refl _⟩, ⟨by (with_reducible repeat (first | apply Kd.S_alloc | apply Kd.S_drewN | apply Kd.S_drew)); exact HO_3.out⟩, ⟨by repeat (first | (with_reducible first | exact HB.out | apply below_alloc | apply pw_below_drewN | apply below_drew1) | exact HB.out)⟩⟩
        case round =>
         clear H'
         (try clear c6); (try clear c6b0); (try clear c7); (try clear c7b0); (try clear c8); (try clear c8b0); (try clear hx105_0); (try clear p105); (try clear q105)
         obtain ⟨x3_2, x20_2, rfl, HA, HK2, HO_3, HB⟩ := hrel
         cases gk with
         | zero => exact absurd HA.out (by simp [flow_Preds.l1])
         | succ k2 =>
          have H := HA.out
          clear HA
          simp only [flow_Preds.l1] at H
          by_cases c9 : x20_2 < ((rd_L1 l0 x13_1).length : Int)
          ·
           rw [if_pos c9] at H
           have c9b0 : decide (x20_2 < ((rd_L1 l0 x13_1).length : Int)) = true := decide_eq_true c9
           clear c9
           by_cases c10 : 0 ≤ x20_2
           ·
            rw [if_pos c10] at H
            have c10b0 : decide (0 ≤ x20_2) = true := decide_eq_true c10
            clear c10
            by_cases c11 : x20_2 < ((rd_L1 l0 x13_1).length : Int)
            ·
             rw [if_pos c11] at H
             have c11b0 : decide (x20_2 < ((rd_L1 l0 x13_1).length : Int)) = true := decide_eq_true c11
             clear c11
             by_cases c12 : (rd (rd_L1 l0 x13_1) x20_2) ≥ 0
             ·
              rw [if_pos c12] at H
              have c12b0 : decide (0 ≤ (rd (rd_L1 l0 x13_1) x20_2)) = true := decide_eq_true c12
              clear c12
              by_cases c13 : (rd (rd_L1 l0 x13_1) x20_2) < (l0.length : Int)
              ·
               rw [if_pos c13] at H
               have c13b0 : decide ((rd (rd_L1 l0 x13_1) x20_2) < (l0.length : Int)) = true := decide_eq_true c13
               clear c13
               by_cases c14 : 0 ≤ (rd (rd_L1 l0 x13_1) x20_2)
               ·
                rw [if_pos c14] at H
                have c14b0 : decide (0 ≤ (rd (rd_L1 l0 x13_1) x20_2)) = true := decide_eq_true c14
                clear c14
                by_cases c15 : (rd (rd_L1 l0 x13_1) x20_2) < (x3_2.length : Int)
                ·
                 rw [if_pos c15] at H
                 have c15b0 : decide ((rd (rd_L1 l0 x13_1) x20_2) < (x3_2.length : Int)) = true := decide_eq_true c15
                 clear c15
                 by_cases c16 : ((rd_L1 x3_2 (rd (rd_L1 l0 x13_1) x20_2)).length : Int) = 0
                 ·
                  rw [if_pos c16] at H
                  have c16b0 : (((rd_L1 x3_2 (rd (rd_L1 l0 x13_1) x20_2)).length : Int) == 0) = true := beq_iff_eq.mpr c16
                  have c16b1 : (((rd_L1 x3_2 (rd (rd_L1 l0 x13_1) x20_2)).length : Int) != 0) = false := bne_eq_false_iff_eq.mpr c16
                  clear c16
                  by_cases c17 : (rd_L1 x3_2 (rd (rd_L1 l0 x13_1) x20_2)).length < 17592186044416
                  ·
                   rw [if_pos c17] at H
                   have LMc17 := Aside0.mk c17
                   clear c17
                   obtain ⟨y109, hy109⟩ : ∃ y_ : List Int, y_ = ((rd_L1 x3_2 (rd (rd_L1 l0 x13_1) x20_2)) ++ [x13_1]) := ⟨_, rfl⟩
                   replace H : (flow_Preds.l1 k2 l0 (x3_2.set ((rd (rd_L1 l0 x13_1) x20_2) : Int).toNat y109) x13_1 l0 (l0.length : Int) x13_1 (rd_L1 l0 x13_1) ((rd_L1 l0 x13_1).length : Int) (wrap64 (x20_2 + 1))) = some r := by first | (rw [hy109]; with_reducible exact H) | (have H2_ := (Option.bind_some _ _).symm.trans H; rw [hy109]; with_reducible exact H2_) | (have H2_ := (Option.bind_some _ _).symm.trans H; with_reducible exact H2_) | with_reducible exact H | (rw [hy109]; exact H) | exact H
                   have Ny109 := Aside0.mk hy109
                   clear hy109
                   obtain ⟨y112, hy112⟩ : ∃ y_ : List (List Int), y_ = (x3_2.set ((rd (rd_L1 l0 x13_1) x20_2) : Int).toNat y109) := ⟨_, rfl⟩
                   replace H : (flow_Preds.l1 k2 l0 y112 x13_1 l0 (l0.length : Int) x13_1 (rd_L1 l0 x13_1) ((rd_L1 l0 x13_1).length : Int) (wrap64 (x20_2 + 1))) = some r := by first | (rw [hy112]; with_reducible exact H) | (have H2_ := (Option.bind_some _ _).symm.trans H; rw [hy112]; with_reducible exact H2_) | (have H2_ := (Option.bind_some _ _).symm.trans H; with_reducible exact H2_) | with_reducible exact H | (rw [hy112]; exact H) | exact H
                   have Ny112 := Aside0.mk hy112
                   clear hy112
                   have H' := Aside0.mk H
                   clear H
                   have p106 : 0 ≤ (x20_2 : Int) := of_decide_eq_true p1_0
                   have q106 : x20_2 < ((rd_L1 l0 x13_1).length : Int) := of_decide_eq_true p1_0
                   obtain ⟨ad106, e106, hx106_0⟩ := Kd.at_int HR105_0.out x20_2 p106 q106
                   cases e106
                   replace hx106_0 := (HB.out.cell (World.block_lt_of_cell? w _ hx106_0)).trans hx106_0
                   replace p106 := eq_true p106
                   replace q106 := eq_true q106
                   obtain ⟨Ao19, co19, eo19⟩ := Kd.S_slice HO_3.out
                   subst eo19
                   have p107 : 0 ≤ ((rd (rd_L1 l0 x13_1) x20_2) : Int) := of_decide_eq_true p1_0
                   have q107 : (rd (rd_L1 l0 x13_1) x20_2) < (x3_2.length : Int) := of_decide_eq_true p1_0
                   obtain ⟨ad107, A107_0, c107_0, e107, hx107_0, hl107_0, hi107_0⟩ := at_L1 (Kd.S_reads' HO_3.out).2.2 (rd (rd_L1 l0 x13_1) x20_2) p107 q107
                   cases e107
                   obtain ⟨ce107, hce107, hMe107, hcc107⟩ := Kd.S_get HO_3.out [] (rd (rd_L1 l0 x13_1) x20_2) p107 p1_8
                   obtain ⟨ve107_0, rfl, ge107_0⟩ := hMe107
                   have hv107_0 := hcc107 0 _ rfl
                   rw [Nat.add_zero, show ((Kd.slice 3 (Kd.int .i64))).sz = 1 from rfl, Nat.mul_one] at hv107_0
                   replace hv107_0 := Option.some.inj (hv107_0.symm.trans hx107_0)
                   rw [hv107_0] at ge107_0
                   have HL107_0 := Aside0.mk (show Kd.R (Kd.int .i64) 3 _ _ _ _ (rd_L1 x3_2 (rd (rd_L1 l0 x13_1) x20_2)) from ge107_0)
                   clear hv107_0 ge107_0
                   have HX107_0 := Aside0.mk hx107_0
                   clear hcc107 hce107
                   have HR107_0 := Aside0.mk hi107_0
                   have HC107_0 := Aside0.mk hl107_0
                   clear hi107_0 hl107_0
                   replace p107 := eq_true p107
                   replace q107 := eq_true q107
                   have p108 : 0 ≤ ((rd (rd_L1 l0 x13_1) x20_2) : Int) := of_decide_eq_true p1_0
                   have q108 : (rd (rd_L1 l0 x13_1) x20_2) < (x3_2.length : Int) := of_decide_eq_true p1_0
                   obtain ⟨ad108, A108_0, c108_0, e108, hx108_0, hl108_0, hi108_0⟩ := at_L1 (Kd.S_reads' HO_3.out).2.2 (rd (rd_L1 l0 x13_1) x20_2) p108 q108
                   obtain rfl : ad107 = ad108 := (by injection e108)
                   obtain ⟨ce108, hce108, hMe108, hcc108⟩ := Kd.S_get HO_3.out [] (rd (rd_L1 l0 x13_1) x20_2) p108 (by first | exact q108 | exact of_decide_eq_true p1_0 | (have e_ := (Kd.S_reads' HO_3.out).1; omega))
                   obtain ⟨ve108_0, rfl, ge108_0⟩ := hMe108
                   have hv108_0 := hcc108 0 _ rfl
                   rw [Nat.add_zero, show ((Kd.slice 3 (Kd.int .i64))).sz = 1 from rfl, Nat.mul_one] at hv108_0
                   replace hv108_0 := Option.some.inj (hv108_0.symm.trans hx108_0)
                   rw [hv108_0] at ge108_0
                   have HL108_0 := Aside0.mk (show Kd.R (Kd.int .i64) 3 _ _ _ _ (rd_L1 x3_2 (rd (rd_L1 l0 x13_1) x20_2)) from ge108_0)
                   clear hv108_0 ge108_0
                   have HX108_0 := Aside0.mk hx108_0
                   clear hcc108 hce108
                   have HR108_0 := Aside0.mk hi108_0
                   have HC108_0 := Aside0.mk hl108_0
                   clear hi108_0 hl108_0
                   replace p108 := eq_true p108
                   replace q108 := eq_true q108
                   have ea_ := Option.some.inj (hx107_0.symm.trans hx108_0)
                   injection ea_ with ea_ en_ ec_
                   subst ea_
                   subst ec_
                   clear en_
                   obtain ⟨go20, co20, eo20, gb20, gl20, cl20, HG20⟩ := Kd.S_form HO_3.out (by have h_ : ((rd (rd_L1 l0 x13_1) x20_2) : Int) < ((x3_2.length : Int) : Int) := of_decide_eq_true p1_0; have h2_ : 0 ≤ ((rd (rd_L1 l0 x13_1) x20_2) : Int) := (of_decide_eq_true p1_0); omega)
                   (first | cases eo20 | (injection eo20 with ea_ en_ ec_; (first | subst ea_ | (injection ea_ with ea_; subst ea_)); subst ec_; clear en_))
                   have GB20 := Aside0.mk gb20
                   have GG20 := Aside0.mk HG20
                   clear gb20 gl20 HG20
                   (first | simp only [add_plain] at hx107_0 | skip)
                   (first | simp only [add_plain] at hx108_0 | skip)
                   obtain ⟨oki20, ce20, hcl20, hM20, hcc20, _, _, hH20⟩ := Kd.S_elem HO_3.out [] ((rd (rd_L1 l0 x13_1) x20_2) : Int) (of_decide_eq_true p1_0) (by have h_ : ((rd (rd_L1 l0 x13_1) x20_2) : Int) < ((x3_2.length : Int) : Int) := of_decide_eq_true p1_0; first | exact h_ | (have e_ := (Kd.S_reads' HO_3.out).1; omega) | simpa using h_)
                   obtain ⟨ve20_0, rfl, ge20_0⟩ := hM20
                   have hv20 := hcc20 0 _ rfl
                   have hX20 := HX108_0.out
                   (try simp only [add_plain] at hX20)
                   (try simp only [Nat.add_zero] at hv20)
                   (try rw [show ((Kd.slice 3 (Kd.int .i64))).sz = 1 from rfl, Nat.mul_one] at hv20)
                   replace hv20 := Option.some.inj (hv20.symm.trans hX20)
                   subst hv20
                   clear hX20 hcc20 hcl20
                   have UU20 := Aside0.mk (show Kd.R (Kd.int .i64) 3 _ w.heap.size oki20 (.slice A107_0 (rd_L1 x3_2 (rd (rd_L1 l0 x13_1) x20_2)).length c107_0) (rd_L1 x3_2 (rd (rd_L1 l0 x13_1) x20_2)) from ge20_0)
                   have HH20 := Aside0.mk hH20
                   have HN20 := Aside0.mk (Kd.S_reads' HO_3.out).1
                   clear hH20 ge20_0
                   go_wp2_with (first | ((with_reducible refine gate_builtin (b := .append) (xs := #[.tmp 61, .tmp 63]) rfl ?_); (try (refine gate_guard (by rfl) ?_; dsimp only)); at_builtin; refine Kd.R_append (Kd.int .i64) (w0 := w) w.heap.size rfl (.tmp 61) (.tmp 63) 27 3 (.int .i64 0) 8 rfl Try.underlying27 info3 rfl (by decide) (by omega) (.slice A107_0 (rd_L1 x3_2 (rd (rd_L1 l0 x13_1) x20_2)).length c107_0) (rd_L1 x3_2 (rd (rd_L1 l0 x13_1) x20_2)) x13_1 [.int .i64 x13_1] (fun k_ => oki20 k_ ∨ ((fun _ => True)) k_ ∧ wr.heap.size ≤ k_) (fun _ => False) rfl rfl ?aP (fun _ hk => hk.elim) ?aF ?aO ?aB ?aS ?aL ?_; (case aP => exact rfl); (case aB => exact p1_1); (case aF => exact (fun k_ hk => .inr ⟨trivial, hk⟩)); (case aO => exact p1_3); (case aS => exact (below_size p1_1)); (case aL => have := LMc17.out; omega); intro v110 w21 ho hb hg hat; rw [← Ny109.out] at ho; have n0_ := Aside0.mk (hb); have n1_ := Aside0.mk (Kd.H_grown (Kd.H_widen p1_5) hg (fun k_ e_ => .inl (UU20.out.1 k_ e_))); have n2_ := Aside0.mk (ho); clear HB; clear HH20; clear HO_3; clear UU20; clear HL107_0; clear HL108_0; have HB := n0_; have HH20 := n1_; have HO111 := n2_; clear n0_ n1_ n2_; clear ho hb hg hat; have p18 : 0 ≤ ((rd (rd_L1 l0 x13_1) x20_2) : Int) := of_decide_eq_true p1_0; have q18 : ((rd (rd_L1 l0 x13_1) x20_2) : Int) < ((x3_2.length : Int) : Int) := of_decide_eq_true p1_0; replace p18 := eq_true p18; replace q18 := eq_true q18; obtain ⟨Ao24, co24, eo24⟩ := Kd.R_slice HO111.out; subst eo24; obtain ⟨_, _, hraw22, _, _, hcc22, _⟩ := Kd.H_raw HH20.out (of_decide_eq_true p1_0) (by have h_ : ((rd (rd_L1 l0 x13_1) x20_2) : Int) < ((x3_2.length : Int) : Int) := of_decide_eq_true p1_0; first | exact h_ | (have e_ := (HN20.out); omega) | simpa using h_); obtain ⟨_, hfr22⟩ := Kd.H_at HH20.out (of_decide_eq_true p1_0) (by have h_ : ((rd (rd_L1 l0 x13_1) x20_2) : Int) < ((x3_2.length : Int) : Int) := of_decide_eq_true p1_0; first | exact h_ | (have e_ := (HN20.out); omega) | simpa using h_); have hx22_0 := hcc22 0 _ rfl; have hf22_0 := hfr22 0; (try simp only [Nat.add_zero] at hx22_0 hf22_0); (try rw [show ((Kd.slice 3 (Kd.int .i64))).sz = 1 from rfl, Nat.mul_one] at hx22_0); (try rw [show ((Kd.slice 3 (Kd.int .i64))).sz = 1 from rfl, Nat.mul_one] at hf22_0); have HP22 := Kd.S_seg0 HH20.out (of_decide_eq_true p1_0) (by have h_ : ((rd (rd_L1 l0 x13_1) x20_2) : Int) < ((x3_2.length : Int) : Int) := of_decide_eq_true p1_0; first | exact h_ | (have e_ := (HN20.out); omega) | simpa using h_) (seg := [.slice Ao24 y109.length co24]) (j := 0) (show 1 ≤ 1 from by decide) (x' := y109) (Kd.M_row HO111.out) (fun _ hk => hk); (try simp only [show ((Kd.slice 3 (Kd.int .i64))).sz = 1 from rfl, Nat.mul_one, Nat.add_zero] at HP22); clear hcc22 hfr22) | ((with_reducible refine gate_store (t := 27) (p := 65) rfl ?_); (try (rw [drewN_self w21]; generalize hq_ : World.drewN w21 _ = w21; have n0_ := Aside0.mk (Kd.S_at hq_ HO_3.out); have n1_ := Aside0.mk (below_at hq_ HB.out); clear hq_ HO_3 HB; have HO_3 := n0_; have HB := n1_; clear n0_ n1_; (try (obtain ⟨Ao24, co24, eo24⟩ := Kd.R_slice HO111.out)); (try (subst eo24)); (try (obtain ⟨_, _, hraw22, _, _, hcc22, _⟩ := Kd.H_raw HH20.out (of_decide_eq_true p1_0) (by have h_ : ((rd (rd_L1 l0 x13_1) x20_2) : Int) < ((x3_2.length : Int) : Int) := of_decide_eq_true p1_0; first | exact h_ | (have e_ := (HN20.out); omega) | simpa using h_))); (try (obtain ⟨_, hfr22⟩ := Kd.H_at HH20.out (of_decide_eq_true p1_0) (by have h_ : ((rd (rd_L1 l0 x13_1) x20_2) : Int) < ((x3_2.length : Int) : Int) := of_decide_eq_true p1_0; first | exact h_ | (have e_ := (HN20.out); omega) | simpa using h_))); (try (have hx22_0 := hcc22 0 _ rfl)); (try (have hf22_0 := hfr22 0)); (try (try simp only [Nat.add_zero] at hx22_0 hf22_0)); (try (try rw [show ((Kd.slice 3 (Kd.int .i64))).sz = 1 from rfl, Nat.mul_one] at hx22_0)); (try (try rw [show ((Kd.slice 3 (Kd.int .i64))).sz = 1 from rfl, Nat.mul_one] at hf22_0)); (try (have HP22 := Kd.S_seg0 HH20.out (of_decide_eq_true p1_0) (by have h_ : ((rd (rd_L1 l0 x13_1) x20_2) : Int) < ((x3_2.length : Int) : Int) := of_decide_eq_true p1_0; first | exact h_ | (have e_ := (HN20.out); omega) | simpa using h_) (seg := [.slice Ao24 y109.length co24]) (j := 0) (show 1 ≤ 1 from by decide) (x' := y109) (Kd.M_row HO111.out) (fun _ hk => hk))); (try (try simp only [show ((Kd.slice 3 (Kd.int .i64))).sz = 1 from rfl, Nat.mul_one, Nat.add_zero] at HP22)); (try (clear hcc22 hfr22)))); refine store_event (t := 27) (p := 65) (v := ?vo_w23) (w1 := (w21.setCell ⟨go20, ((rd (rd_L1 l0 x13_1) x20_2) : Int).toNat, none⟩ (.slice Ao24 y109.length co24))) ?hg ?ho ?hn ?hr ?_; (case ho => rfl); (case hg => rfl); (case hn => rfl); (case hr => first | (go_simp; done) | (go_simp; rfl)); intro w23 hw; have hg : w21.grownBy w23 (some go20) := (by rw [hw]; exact HP22.2); have hp_ : Kd.S (Kd.slice 3 (Kd.int .i64)) 27 w23 w.heap.size (fun _ => True) (.slice (some ⟨go20, 0, none⟩) x3_2.length co19) y112 := (by rw [hw, Ny112.out]; exact HP22.1); clear HP22; have n0_ := Aside0.mk ((by rw [hw]; exact below_set HB.out GB20.out : Below w.heap.size w w23)); have n1_ := Aside0.mk (hp_); clear HB; clear HO111; clear HH20; have HB := n0_; have HO_3 := n1_; clear n0_ n1_; clear hg hw hp_ hraw22))
                   repeat (go_quiet (first | ((with_reducible refine gate_builtin (b := .append) (xs := #[.tmp 61, .tmp 63]) rfl ?_); (try (refine gate_guard (by rfl) ?_; dsimp only)); at_builtin; refine Kd.R_append (Kd.int .i64) (w0 := w) w.heap.size rfl (.tmp 61) (.tmp 63) 27 3 (.int .i64 0) 8 rfl Try.underlying27 info3 rfl (by decide) (by omega) (.slice A107_0 (rd_L1 x3_2 (rd (rd_L1 l0 x13_1) x20_2)).length c107_0) (rd_L1 x3_2 (rd (rd_L1 l0 x13_1) x20_2)) x13_1 [.int .i64 x13_1] (fun k_ => oki20 k_ ∨ ((fun _ => True)) k_ ∧ wr.heap.size ≤ k_) (fun _ => False) rfl rfl ?aP (fun _ hk => hk.elim) ?aF ?aO ?aB ?aS ?aL ?_; (case aP => exact rfl); (case aB => exact p1_1); (case aF => exact (fun k_ hk => .inr ⟨trivial, hk⟩)); (case aO => exact p1_3); (case aS => exact (below_size p1_1)); (case aL => have := LMc17.out; omega); intro v110 w21 ho hb hg hat; rw [← Ny109.out] at ho; have n0_ := Aside0.mk (hb); have n1_ := Aside0.mk (Kd.H_grown (Kd.H_widen p1_5) hg (fun k_ e_ => .inl (UU20.out.1 k_ e_))); have n2_ := Aside0.mk (ho); clear HB; clear HH20; clear HO_3; clear UU20; clear HL107_0; clear HL108_0; have HB := n0_; have HH20 := n1_; have HO111 := n2_; clear n0_ n1_ n2_; clear ho hb hg hat; have p18 : 0 ≤ ((rd (rd_L1 l0 x13_1) x20_2) : Int) := of_decide_eq_true p1_0; have q18 : ((rd (rd_L1 l0 x13_1) x20_2) : Int) < ((x3_2.length : Int) : Int) := of_decide_eq_true p1_0; replace p18 := eq_true p18; replace q18 := eq_true q18; obtain ⟨Ao24, co24, eo24⟩ := Kd.R_slice HO111.out; subst eo24; obtain ⟨_, _, hraw22, _, _, hcc22, _⟩ := Kd.H_raw HH20.out (of_decide_eq_true p1_0) (by have h_ : ((rd (rd_L1 l0 x13_1) x20_2) : Int) < ((x3_2.length : Int) : Int) := of_decide_eq_true p1_0; first | exact h_ | (have e_ := (HN20.out); omega) | simpa using h_); obtain ⟨_, hfr22⟩ := Kd.H_at HH20.out (of_decide_eq_true p1_0) (by have h_ : ((rd (rd_L1 l0 x13_1) x20_2) : Int) < ((x3_2.length : Int) : Int) := of_decide_eq_true p1_0; first | exact h_ | (have e_ := (HN20.out); omega) | simpa using h_); have hx22_0 := hcc22 0 _ rfl; have hf22_0 := hfr22 0; (try simp only [Nat.add_zero] at hx22_0 hf22_0); (try rw [show ((Kd.slice 3 (Kd.int .i64))).sz = 1 from rfl, Nat.mul_one] at hx22_0); (try rw [show ((Kd.slice 3 (Kd.int .i64))).sz = 1 from rfl, Nat.mul_one] at hf22_0); have HP22 := Kd.S_seg0 HH20.out (of_decide_eq_true p1_0) (by have h_ : ((rd (rd_L1 l0 x13_1) x20_2) : Int) < ((x3_2.length : Int) : Int) := of_decide_eq_true p1_0; first | exact h_ | (have e_ := (HN20.out); omega) | simpa using h_) (seg := [.slice Ao24 y109.length co24]) (j := 0) (show 1 ≤ 1 from by decide) (x' := y109) (Kd.M_row HO111.out) (fun _ hk => hk); (try simp only [show ((Kd.slice 3 (Kd.int .i64))).sz = 1 from rfl, Nat.mul_one, Nat.add_zero] at HP22); clear hcc22 hfr22) | ((with_reducible refine gate_store (t := 27) (p := 65) rfl ?_); (try (rw [drewN_self w21]; generalize hq_ : World.drewN w21 _ = w21; have n0_ := Aside0.mk (Kd.S_at hq_ HO_3.out); have n1_ := Aside0.mk (below_at hq_ HB.out); clear hq_ HO_3 HB; have HO_3 := n0_; have HB := n1_; clear n0_ n1_; (try (obtain ⟨Ao24, co24, eo24⟩ := Kd.R_slice HO111.out)); (try (subst eo24)); (try (obtain ⟨_, _, hraw22, _, _, hcc22, _⟩ := Kd.H_raw HH20.out (of_decide_eq_true p1_0) (by have h_ : ((rd (rd_L1 l0 x13_1) x20_2) : Int) < ((x3_2.length : Int) : Int) := of_decide_eq_true p1_0; first | exact h_ | (have e_ := (HN20.out); omega) | simpa using h_))); (try (obtain ⟨_, hfr22⟩ := Kd.H_at HH20.out (of_decide_eq_true p1_0) (by have h_ : ((rd (rd_L1 l0 x13_1) x20_2) : Int) < ((x3_2.length : Int) : Int) := of_decide_eq_true p1_0; first | exact h_ | (have e_ := (HN20.out); omega) | simpa using h_))); (try (have hx22_0 := hcc22 0 _ rfl)); (try (have hf22_0 := hfr22 0)); (try (try simp only [Nat.add_zero] at hx22_0 hf22_0)); (try (try rw [show ((Kd.slice 3 (Kd.int .i64))).sz = 1 from rfl, Nat.mul_one] at hx22_0)); (try (try rw [show ((Kd.slice 3 (Kd.int .i64))).sz = 1 from rfl, Nat.mul_one] at hf22_0)); (try (have HP22 := Kd.S_seg0 HH20.out (of_decide_eq_true p1_0) (by have h_ : ((rd (rd_L1 l0 x13_1) x20_2) : Int) < ((x3_2.length : Int) : Int) := of_decide_eq_true p1_0; first | exact h_ | (have e_ := (HN20.out); omega) | simpa using h_) (seg := [.slice Ao24 y109.length co24]) (j := 0) (show 1 ≤ 1 from by decide) (x' := y109) (Kd.M_row HO111.out) (fun _ hk => hk))); (try (try simp only [show ((Kd.slice 3 (Kd.int .i64))).sz = 1 from rfl, Nat.mul_one, Nat.add_zero] at HP22)); (try (clear hcc22 hfr22)))); refine store_event (t := 27) (p := 65) (v := ?vo_w23) (w1 := (w21.setCell ⟨go20, ((rd (rd_L1 l0 x13_1) x20_2) : Int).toNat, none⟩ (.slice Ao24 y109.length co24))) ?hg ?ho ?hn ?hr ?_; (case ho => rfl); (case hg => rfl); (case hn => rfl); (case hr => first | (go_simp; done) | (go_simp; rfl)); intro w23 hw; have hg : w21.grownBy w23 (some go20) := (by rw [hw]; exact HP22.2); have hp_ : Kd.S (Kd.slice 3 (Kd.int .i64)) 27 w23 w.heap.size (fun _ => True) (.slice (some ⟨go20, 0, none⟩) x3_2.length co19) y112 := (by rw [hw, Ny112.out]; exact HP22.1); clear HP22; have n0_ := Aside0.mk ((by rw [hw]; exact below_set HB.out GB20.out : Below w.heap.size w w23)); have n1_ := Aside0.mk (hp_); clear HB; clear HO111; clear HH20; have HB := n0_; have HO_3 := n1_; clear n0_ n1_; clear hg hw hp_ hraw22)); try go_wp2_with (first | ((with_reducible refine gate_builtin (b := .append) (xs := #[.tmp 61, .tmp 63]) rfl ?_); (try (refine gate_guard (by rfl) ?_; dsimp only)); at_builtin; refine Kd.R_append (Kd.int .i64) (w0 := w) w.heap.size rfl (.tmp 61) (.tmp 63) 27 3 (.int .i64 0) 8 rfl Try.underlying27 info3 rfl (by decide) (by omega) (.slice A107_0 (rd_L1 x3_2 (rd (rd_L1 l0 x13_1) x20_2)).length c107_0) (rd_L1 x3_2 (rd (rd_L1 l0 x13_1) x20_2)) x13_1 [.int .i64 x13_1] (fun k_ => oki20 k_ ∨ ((fun _ => True)) k_ ∧ wr.heap.size ≤ k_) (fun _ => False) rfl rfl ?aP (fun _ hk => hk.elim) ?aF ?aO ?aB ?aS ?aL ?_; (case aP => exact rfl); (case aB => exact p1_1); (case aF => exact (fun k_ hk => .inr ⟨trivial, hk⟩)); (case aO => exact p1_3); (case aS => exact (below_size p1_1)); (case aL => have := LMc17.out; omega); intro v110 w21 ho hb hg hat; rw [← Ny109.out] at ho; have n0_ := Aside0.mk (hb); have n1_ := Aside0.mk (Kd.H_grown (Kd.H_widen p1_5) hg (fun k_ e_ => .inl (UU20.out.1 k_ e_))); have n2_ := Aside0.mk (ho); clear HB; clear HH20; clear HO_3; clear UU20; clear HL107_0; clear HL108_0; have HB := n0_; have HH20 := n1_; have HO111 := n2_; clear n0_ n1_ n2_; clear ho hb hg hat; have p18 : 0 ≤ ((rd (rd_L1 l0 x13_1) x20_2) : Int) := of_decide_eq_true p1_0; have q18 : ((rd (rd_L1 l0 x13_1) x20_2) : Int) < ((x3_2.length : Int) : Int) := of_decide_eq_true p1_0; replace p18 := eq_true p18; replace q18 := eq_true q18; obtain ⟨Ao24, co24, eo24⟩ := Kd.R_slice HO111.out; subst eo24; obtain ⟨_, _, hraw22, _, _, hcc22, _⟩ := Kd.H_raw HH20.out (of_decide_eq_true p1_0) (by have h_ : ((rd (rd_L1 l0 x13_1) x20_2) : Int) < ((x3_2.length : Int) : Int) := of_decide_eq_true p1_0; first | exact h_ | (have e_ := (HN20.out); omega) | simpa using h_); obtain ⟨_, hfr22⟩ := Kd.H_at HH20.out (of_decide_eq_true p1_0) (by have h_ : ((rd (rd_L1 l0 x13_1) x20_2) : Int) < ((x3_2.length : Int) : Int) := of_decide_eq_true p1_0; first | exact h_ | (have e_ := (HN20.out); omega) | simpa using h_); have hx22_0 := hcc22 0 _ rfl; have hf22_0 := hfr22 0; (try simp only [Nat.add_zero] at hx22_0 hf22_0); (try rw [show ((Kd.slice 3 (Kd.int .i64))).sz = 1 from rfl, Nat.mul_one] at hx22_0); (try rw [show ((Kd.slice 3 (Kd.int .i64))).sz = 1 from rfl, Nat.mul_one] at hf22_0); have HP22 := Kd.S_seg0 HH20.out (of_decide_eq_true p1_0) (by have h_ : ((rd (rd_L1 l0 x13_1) x20_2) : Int) < ((x3_2.length : Int) : Int) := of_decide_eq_true p1_0; first | exact h_ | (have e_ := (HN20.out); omega) | simpa using h_) (seg := [.slice Ao24 y109.length co24]) (j := 0) (show 1 ≤ 1 from by decide) (x' := y109) (Kd.M_row HO111.out) (fun _ hk => hk); (try simp only [show ((Kd.slice 3 (Kd.int .i64))).sz = 1 from rfl, Nat.mul_one, Nat.add_zero] at HP22); clear hcc22 hfr22) | ((with_reducible refine gate_store (t := 27) (p := 65) rfl ?_); (try (rw [drewN_self w21]; generalize hq_ : World.drewN w21 _ = w21; have n0_ := Aside0.mk (Kd.S_at hq_ HO_3.out); have n1_ := Aside0.mk (below_at hq_ HB.out); clear hq_ HO_3 HB; have HO_3 := n0_; have HB := n1_; clear n0_ n1_; (try (obtain ⟨Ao24, co24, eo24⟩ := Kd.R_slice HO111.out)); (try (subst eo24)); (try (obtain ⟨_, _, hraw22, _, _, hcc22, _⟩ := Kd.H_raw HH20.out (of_decide_eq_true p1_0) (by have h_ : ((rd (rd_L1 l0 x13_1) x20_2) : Int) < ((x3_2.length : Int) : Int) := of_decide_eq_true p1_0; first | exact h_ | (have e_ := (HN20.out); omega) | simpa using h_))); (try (obtain ⟨_, hfr22⟩ := Kd.H_at HH20.out (of_decide_eq_true p1_0) (by have h_ : ((rd (rd_L1 l0 x13_1) x20_2) : Int) < ((x3_2.length : Int) : Int) := of_decide_eq_true p1_0; first | exact h_ | (have e_ := (HN20.out); omega) | simpa using h_))); (try (have hx22_0 := hcc22 0 _ rfl)); (try (have hf22_0 := hfr22 0)); (try (try simp only [Nat.add_zero] at hx22_0 hf22_0)); (try (try rw [show ((Kd.slice 3 (Kd.int .i64))).sz = 1 from rfl, Nat.mul_one] at hx22_0)); (try (try rw [show ((Kd.slice 3 (Kd.int .i64))).sz = 1 from rfl, Nat.mul_one] at hf22_0)); (try (have HP22 := Kd.S_seg0 HH20.out (of_decide_eq_true p1_0) (by have h_ : ((rd (rd_L1 l0 x13_1) x20_2) : Int) < ((x3_2.length : Int) : Int) := of_decide_eq_true p1_0; first | exact h_ | (have e_ := (HN20.out); omega) | simpa using h_) (seg := [.slice Ao24 y109.length co24]) (j := 0) (show 1 ≤ 1 from by decide) (x' := y109) (Kd.M_row HO111.out) (fun _ hk => hk))); (try (try simp only [show ((Kd.slice 3 (Kd.int .i64))).sz = 1 from rfl, Nat.mul_one, Nat.add_zero] at HP22)); (try (clear hcc22 hfr22)))); refine store_event (t := 27) (p := 65) (v := ?vo_w23) (w1 := (w21.setCell ⟨go20, ((rd (rd_L1 l0 x13_1) x20_2) : Int).toNat, none⟩ (.slice Ao24 y109.length co24))) ?hg ?ho ?hn ?hr ?_; (case ho => rfl); (case hg => rfl); (case hn => rfl); (case hr => first | (go_simp; done) | (go_simp; rfl)); intro w23 hw; have hg : w21.grownBy w23 (some go20) := (by rw [hw]; exact HP22.2); have hp_ : Kd.S (Kd.slice 3 (Kd.int .i64)) 27 w23 w.heap.size (fun _ => True) (.slice (some ⟨go20, 0, none⟩) x3_2.length co19) y112 := (by rw [hw, Ny112.out]; exact HP22.1); clear HP22; have n0_ := Aside0.mk ((by rw [hw]; exact below_set HB.out GB20.out : Below w.heap.size w w23)); have n1_ := Aside0.mk (hp_); clear HB; clear HO111; clear HH20; have HB := n0_; have HO_3 := n1_; clear n0_ n1_; clear hg hw hp_ hraw22)))
                   go_roundg k2
                   case measure => have := HK1.out; have := HK2.out; omega
                   case rel => exact ⟨(y112), (wrap64 (x20_2 + 1)), p1_2, H', ⟨by have := HK1.out; have := HK2.out; omega⟩, ⟨by (with_reducible repeat (first | apply Kd.S_alloc | apply Kd.S_drewN | apply Kd.S_drew)); exact HO_3.out⟩, ⟨by repeat (first | (with_reducible first | exact HB.out | apply below_alloc | apply pw_below_drewN | apply below_drew1) | exact HB.out)⟩⟩
                  ·
                   rw [if_neg c17] at H
                   exact absurd H (by simp)
                 ·
                  rw [if_neg c16] at H
                  have c16b0 : (((rd_L1 x3_2 (rd (rd_L1 l0 x13_1) x20_2)).length : Int) == 0) = false := beq_eq_false_iff_ne.mpr c16
                  have c16b1 : (((rd_L1 x3_2 (rd (rd_L1 l0 x13_1) x20_2)).length : Int) != 0) = true := bne_iff_ne.mpr c16
                  have c16b2 : ¬ ((rd_L1 x3_2 (rd (rd_L1 l0 x13_1) x20_2)) = []) := fun h_ => c16 (by rw [h_]; rfl)
                  obtain ⟨ji25, hji25⟩ : ∃ j_ : Int, (wrap64 (((rd_L1 x3_2 (rd (rd_L1 l0 x13_1) x20_2)).length : Int) - 1)) = j_ := ⟨_, rfl⟩
                  replace H : (if 0 ≤ (ji25) then (if (ji25) < ((rd_L1 x3_2 (rd (rd_L1 l0 x13_1) x20_2)).length : Int) then (if (rd (rd_L1 x3_2 (rd (rd_L1 l0 x13_1) x20_2)) (ji25)) = x13_1 then (flow_Preds.l1 k2 l0 x3_2 x13_1 l0 (l0.length : Int) x13_1 (rd_L1 l0 x13_1) ((rd_L1 l0 x13_1).length : Int) (wrap64 (x20_2 + 1))) else (if (rd_L1 x3_2 (rd (rd_L1 l0 x13_1) x20_2)).length < 17592186044416 then (flow_Preds.l1 k2 l0 (x3_2.set ((rd (rd_L1 l0 x13_1) x20_2) : Int).toNat ((rd_L1 x3_2 (rd (rd_L1 l0 x13_1) x20_2)) ++ [x13_1])) x13_1 l0 (l0.length : Int) x13_1 (rd_L1 l0 x13_1) ((rd_L1 l0 x13_1).length : Int) (wrap64 (x20_2 + 1))) else (none))) else (none)) else (none)) = some r := by first | (rw [hji25] at H; exact H) | (simp only [hji25] at H ⊢; exact H)
                  have hji25w : (IntKind.i64.wrap (((rd_L1 x3_2 (rd (rd_L1 l0 x13_1) x20_2)).length : Int) - 1)) = ji25 := (i64_w _).trans hji25
                  by_cases c26 : 0 ≤ (ji25)
                  ·
                   rw [if_pos c26] at H
                   have c26b0 : decide (0 ≤ (ji25)) = true := decide_eq_true c26
                   clear c26
                   by_cases c27 : (ji25) < ((rd_L1 x3_2 (rd (rd_L1 l0 x13_1) x20_2)).length : Int)
                   ·
                    rw [if_pos c27] at H
                    have c27b0 : decide ((ji25) < ((rd_L1 x3_2 (rd (rd_L1 l0 x13_1) x20_2)).length : Int)) = true := decide_eq_true c27
                    clear c27
                    by_cases c28 : (rd (rd_L1 x3_2 (rd (rd_L1 l0 x13_1) x20_2)) (ji25)) = x13_1
                    ·
                     rw [if_pos c28] at H
                     have c28b0 : ((rd (rd_L1 x3_2 (rd (rd_L1 l0 x13_1) x20_2)) (ji25)) == x13_1) = true := beq_iff_eq.mpr c28
                     have c28b1 : ((rd (rd_L1 x3_2 (rd (rd_L1 l0 x13_1) x20_2)) (ji25)) != x13_1) = false := bne_eq_false_iff_eq.mpr c28
                     clear c28
                     have H' := Aside0.mk H
                     clear H
                     have p106 : 0 ≤ (x20_2 : Int) := of_decide_eq_true p1_0
                     have q106 : x20_2 < ((rd_L1 l0 x13_1).length : Int) := of_decide_eq_true p1_0
                     obtain ⟨ad106, e106, hx106_0⟩ := Kd.at_int HR105_0.out x20_2 p106 q106
                     cases e106
                     replace hx106_0 := (HB.out.cell (World.block_lt_of_cell? w _ hx106_0)).trans hx106_0
                     replace p106 := eq_true p106
                     replace q106 := eq_true q106
                     obtain ⟨Ao29, co29, eo29⟩ := Kd.S_slice HO_3.out
                     subst eo29
                     have p107 : 0 ≤ ((rd (rd_L1 l0 x13_1) x20_2) : Int) := of_decide_eq_true p1_0
                     have q107 : (rd (rd_L1 l0 x13_1) x20_2) < (x3_2.length : Int) := of_decide_eq_true p1_0
                     obtain ⟨ad107, A107_0, c107_0, e107, hx107_0, hl107_0, hi107_0⟩ := at_L1 (Kd.S_reads' HO_3.out).2.2 (rd (rd_L1 l0 x13_1) x20_2) p107 q107
                     cases e107
                     obtain ⟨ce107, hce107, hMe107, hcc107⟩ := Kd.S_get HO_3.out [] (rd (rd_L1 l0 x13_1) x20_2) p107 p1_8
                     obtain ⟨ve107_0, rfl, ge107_0⟩ := hMe107
                     have hv107_0 := hcc107 0 _ rfl
                     rw [Nat.add_zero, show ((Kd.slice 3 (Kd.int .i64))).sz = 1 from rfl, Nat.mul_one] at hv107_0
                     replace hv107_0 := Option.some.inj (hv107_0.symm.trans hx107_0)
                     rw [hv107_0] at ge107_0
                     have HL107_0 := Aside0.mk (show Kd.R (Kd.int .i64) 3 _ _ _ _ (rd_L1 x3_2 (rd (rd_L1 l0 x13_1) x20_2)) from ge107_0)
                     clear hv107_0 ge107_0
                     have HX107_0 := Aside0.mk hx107_0
                     clear hcc107 hce107
                     have HR107_0 := Aside0.mk hi107_0
                     have HC107_0 := Aside0.mk hl107_0
                     clear hi107_0 hl107_0
                     replace p107 := eq_true p107
                     replace q107 := eq_true q107
                     have p113 : 0 ≤ ((rd (rd_L1 l0 x13_1) x20_2) : Int) := of_decide_eq_true p1_0
                     have q113 : (rd (rd_L1 l0 x13_1) x20_2) < (x3_2.length : Int) := of_decide_eq_true p1_0
                     obtain ⟨ad113, A113_0, c113_0, e113, hx113_0, hl113_0, hi113_0⟩ := at_L1 (Kd.S_reads' HO_3.out).2.2 (rd (rd_L1 l0 x13_1) x20_2) p113 q113
                     obtain rfl : ad107 = ad113 := (by injection e113)
                     obtain ⟨ce113, hce113, hMe113, hcc113⟩ := Kd.S_get HO_3.out [] (rd (rd_L1 l0 x13_1) x20_2) p113 (by first | exact q113 | exact of_decide_eq_true p1_0 | (have e_ := (Kd.S_reads' HO_3.out).1; omega))
                     obtain ⟨ve113_0, rfl, ge113_0⟩ := hMe113
                     have hv113_0 := hcc113 0 _ rfl
                     rw [Nat.add_zero, show ((Kd.slice 3 (Kd.int .i64))).sz = 1 from rfl, Nat.mul_one] at hv113_0
                     replace hv113_0 := Option.some.inj (hv113_0.symm.trans hx113_0)
                     rw [hv113_0] at ge113_0
                     have HL113_0 := Aside0.mk (show Kd.R (Kd.int .i64) 3 _ _ _ _ (rd_L1 x3_2 (rd (rd_L1 l0 x13_1) x20_2)) from ge113_0)
                     clear hv113_0 ge113_0
                     have HX113_0 := Aside0.mk hx113_0
                     clear hcc113 hce113
                     have HR113_0 := Aside0.mk hi113_0
                     have HC113_0 := Aside0.mk hl113_0
                     clear hi113_0 hl113_0
                     replace p113 := eq_true p113
                     replace q113 := eq_true q113
                     have ea_ := Option.some.inj (hx107_0.symm.trans hx113_0)
                     injection ea_ with ea_ en_ ec_
                     subst ea_
                     subst ec_
                     clear en_
                     have p114 : 0 ≤ ((rd (rd_L1 l0 x13_1) x20_2) : Int) := of_decide_eq_true p1_0
                     have q114 : (rd (rd_L1 l0 x13_1) x20_2) < (x3_2.length : Int) := of_decide_eq_true p1_0
                     obtain ⟨ad114, A114_0, c114_0, e114, hx114_0, hl114_0, hi114_0⟩ := at_L1 (Kd.S_reads' HO_3.out).2.2 (rd (rd_L1 l0 x13_1) x20_2) p114 q114
                     obtain rfl : ad107 = ad114 := (by injection e114)
                     obtain ⟨ce114, hce114, hMe114, hcc114⟩ := Kd.S_get HO_3.out [] (rd (rd_L1 l0 x13_1) x20_2) p114 (by first | exact q114 | exact of_decide_eq_true p1_0 | (have e_ := (Kd.S_reads' HO_3.out).1; omega))
                     obtain ⟨ve114_0, rfl, ge114_0⟩ := hMe114
                     have hv114_0 := hcc114 0 _ rfl
                     rw [Nat.add_zero, show ((Kd.slice 3 (Kd.int .i64))).sz = 1 from rfl, Nat.mul_one] at hv114_0
                     replace hv114_0 := Option.some.inj (hv114_0.symm.trans hx114_0)
                     rw [hv114_0] at ge114_0
                     have HL114_0 := Aside0.mk (show Kd.R (Kd.int .i64) 3 _ _ _ _ (rd_L1 x3_2 (rd (rd_L1 l0 x13_1) x20_2)) from ge114_0)
                     clear hv114_0 ge114_0
                     have HX114_0 := Aside0.mk hx114_0
                     clear hcc114 hce114
                     have HR114_0 := Aside0.mk hi114_0
                     have HC114_0 := Aside0.mk hl114_0
                     clear hi114_0 hl114_0
                     replace p114 := eq_true p114
                     replace q114 := eq_true q114
                     have ea_ := Option.some.inj (hx107_0.symm.trans hx114_0)
                     injection ea_ with ea_ en_ ec_
                     subst ea_
                     subst ec_
                     clear en_
                     have p115 : 0 ≤ ((ji25) : Int) := of_decide_eq_true p1_0
                     have q115 : (ji25) < ((rd_L1 x3_2 (rd (rd_L1 l0 x13_1) x20_2)).length : Int) := of_decide_eq_true p1_0
                     obtain ⟨ad115, e115, hx115_0⟩ := Kd.at_int p1_7 (ji25) p115 q115
                     cases e115
                     replace p115 := eq_true p115
                     replace q115 := eq_true q115
                     go_wp2
                     repeat (go_quiet (fail); try go_wp2)
                     go_roundg k2
                     case measure => have := HK1.out; have := HK2.out; omega
                     case rel => exact ⟨(x3_2), (wrap64 (x20_2 + 1)), p1_2, H', ⟨by have := HK1.out; have := HK2.out; omega⟩, ⟨by (with_reducible repeat (first | apply Kd.S_alloc | apply Kd.S_drewN | apply Kd.S_drew)); exact HO_3.out⟩, ⟨by repeat (first | (with_reducible first | exact HB.out | apply below_alloc | apply pw_below_drewN | apply below_drew1) | exact HB.out)⟩⟩
                    ·
                     rw [if_neg c28] at H
                     have c28b0 : ((rd (rd_L1 x3_2 (rd (rd_L1 l0 x13_1) x20_2)) (ji25)) == x13_1) = false := beq_eq_false_iff_ne.mpr c28
                     have c28b1 : ((rd (rd_L1 x3_2 (rd (rd_L1 l0 x13_1) x20_2)) (ji25)) != x13_1) = true := bne_iff_ne.mpr c28
                     by_cases c30 : (rd_L1 x3_2 (rd (rd_L1 l0 x13_1) x20_2)).length < 17592186044416
                     ·
                      rw [if_pos c30] at H
                      have LMc30 := Aside0.mk c30
                      clear c30
                      obtain ⟨y117, hy117⟩ : ∃ y_ : List Int, y_ = ((rd_L1 x3_2 (rd (rd_L1 l0 x13_1) x20_2)) ++ [x13_1]) := ⟨_, rfl⟩
                      replace H : (flow_Preds.l1 k2 l0 (x3_2.set ((rd (rd_L1 l0 x13_1) x20_2) : Int).toNat y117) x13_1 l0 (l0.length : Int) x13_1 (rd_L1 l0 x13_1) ((rd_L1 l0 x13_1).length : Int) (wrap64 (x20_2 + 1))) = some r := by first | (rw [hy117]; with_reducible exact H) | (have H2_ := (Option.bind_some _ _).symm.trans H; rw [hy117]; with_reducible exact H2_) | (have H2_ := (Option.bind_some _ _).symm.trans H; with_reducible exact H2_) | with_reducible exact H | (rw [hy117]; exact H) | exact H
                      have Ny117 := Aside0.mk hy117
                      clear hy117
                      obtain ⟨y120, hy120⟩ : ∃ y_ : List (List Int), y_ = (x3_2.set ((rd (rd_L1 l0 x13_1) x20_2) : Int).toNat y117) := ⟨_, rfl⟩
                      replace H : (flow_Preds.l1 k2 l0 y120 x13_1 l0 (l0.length : Int) x13_1 (rd_L1 l0 x13_1) ((rd_L1 l0 x13_1).length : Int) (wrap64 (x20_2 + 1))) = some r := by first | (rw [hy120]; with_reducible exact H) | (have H2_ := (Option.bind_some _ _).symm.trans H; rw [hy120]; with_reducible exact H2_) | (have H2_ := (Option.bind_some _ _).symm.trans H; with_reducible exact H2_) | with_reducible exact H | (rw [hy120]; exact H) | exact H
                      have Ny120 := Aside0.mk hy120
                      clear hy120
                      have H' := Aside0.mk H
                      clear H
                      have p106 : 0 ≤ (x20_2 : Int) := of_decide_eq_true p1_0
                      have q106 : x20_2 < ((rd_L1 l0 x13_1).length : Int) := of_decide_eq_true p1_0
                      obtain ⟨ad106, e106, hx106_0⟩ := Kd.at_int HR105_0.out x20_2 p106 q106
                      cases e106
                      replace hx106_0 := (HB.out.cell (World.block_lt_of_cell? w _ hx106_0)).trans hx106_0
                      replace p106 := eq_true p106
                      replace q106 := eq_true q106
                      obtain ⟨Ao32, co32, eo32⟩ := Kd.S_slice HO_3.out
                      subst eo32
                      have p107 : 0 ≤ ((rd (rd_L1 l0 x13_1) x20_2) : Int) := of_decide_eq_true p1_0
                      have q107 : (rd (rd_L1 l0 x13_1) x20_2) < (x3_2.length : Int) := of_decide_eq_true p1_0
                      obtain ⟨ad107, A107_0, c107_0, e107, hx107_0, hl107_0, hi107_0⟩ := at_L1 (Kd.S_reads' HO_3.out).2.2 (rd (rd_L1 l0 x13_1) x20_2) p107 q107
                      cases e107
                      obtain ⟨ce107, hce107, hMe107, hcc107⟩ := Kd.S_get HO_3.out [] (rd (rd_L1 l0 x13_1) x20_2) p107 p1_8
                      obtain ⟨ve107_0, rfl, ge107_0⟩ := hMe107
                      have hv107_0 := hcc107 0 _ rfl
                      rw [Nat.add_zero, show ((Kd.slice 3 (Kd.int .i64))).sz = 1 from rfl, Nat.mul_one] at hv107_0
                      replace hv107_0 := Option.some.inj (hv107_0.symm.trans hx107_0)
                      rw [hv107_0] at ge107_0
                      have HL107_0 := Aside0.mk (show Kd.R (Kd.int .i64) 3 _ _ _ _ (rd_L1 x3_2 (rd (rd_L1 l0 x13_1) x20_2)) from ge107_0)
                      clear hv107_0 ge107_0
                      have HX107_0 := Aside0.mk hx107_0
                      clear hcc107 hce107
                      have HR107_0 := Aside0.mk hi107_0
                      have HC107_0 := Aside0.mk hl107_0
                      clear hi107_0 hl107_0
                      replace p107 := eq_true p107
                      replace q107 := eq_true q107
                      have p113 : 0 ≤ ((rd (rd_L1 l0 x13_1) x20_2) : Int) := of_decide_eq_true p1_0
                      have q113 : (rd (rd_L1 l0 x13_1) x20_2) < (x3_2.length : Int) := of_decide_eq_true p1_0
                      obtain ⟨ad113, A113_0, c113_0, e113, hx113_0, hl113_0, hi113_0⟩ := at_L1 (Kd.S_reads' HO_3.out).2.2 (rd (rd_L1 l0 x13_1) x20_2) p113 q113
                      obtain rfl : ad107 = ad113 := (by injection e113)
                      obtain ⟨ce113, hce113, hMe113, hcc113⟩ := Kd.S_get HO_3.out [] (rd (rd_L1 l0 x13_1) x20_2) p113 (by first | exact q113 | exact of_decide_eq_true p1_0 | (have e_ := (Kd.S_reads' HO_3.out).1; omega))
                      obtain ⟨ve113_0, rfl, ge113_0⟩ := hMe113
                      have hv113_0 := hcc113 0 _ rfl
                      rw [Nat.add_zero, show ((Kd.slice 3 (Kd.int .i64))).sz = 1 from rfl, Nat.mul_one] at hv113_0
                      replace hv113_0 := Option.some.inj (hv113_0.symm.trans hx113_0)
                      rw [hv113_0] at ge113_0
                      have HL113_0 := Aside0.mk (show Kd.R (Kd.int .i64) 3 _ _ _ _ (rd_L1 x3_2 (rd (rd_L1 l0 x13_1) x20_2)) from ge113_0)
                      clear hv113_0 ge113_0
                      have HX113_0 := Aside0.mk hx113_0
                      clear hcc113 hce113
                      have HR113_0 := Aside0.mk hi113_0
                      have HC113_0 := Aside0.mk hl113_0
                      clear hi113_0 hl113_0
                      replace p113 := eq_true p113
                      replace q113 := eq_true q113
                      have ea_ := Option.some.inj (hx107_0.symm.trans hx113_0)
                      injection ea_ with ea_ en_ ec_
                      subst ea_
                      subst ec_
                      clear en_
                      have p114 : 0 ≤ ((rd (rd_L1 l0 x13_1) x20_2) : Int) := of_decide_eq_true p1_0
                      have q114 : (rd (rd_L1 l0 x13_1) x20_2) < (x3_2.length : Int) := of_decide_eq_true p1_0
                      obtain ⟨ad114, A114_0, c114_0, e114, hx114_0, hl114_0, hi114_0⟩ := at_L1 (Kd.S_reads' HO_3.out).2.2 (rd (rd_L1 l0 x13_1) x20_2) p114 q114
                      obtain rfl : ad107 = ad114 := (by injection e114)
                      obtain ⟨ce114, hce114, hMe114, hcc114⟩ := Kd.S_get HO_3.out [] (rd (rd_L1 l0 x13_1) x20_2) p114 (by first | exact q114 | exact of_decide_eq_true p1_0 | (have e_ := (Kd.S_reads' HO_3.out).1; omega))
                      obtain ⟨ve114_0, rfl, ge114_0⟩ := hMe114
                      have hv114_0 := hcc114 0 _ rfl
                      rw [Nat.add_zero, show ((Kd.slice 3 (Kd.int .i64))).sz = 1 from rfl, Nat.mul_one] at hv114_0
                      replace hv114_0 := Option.some.inj (hv114_0.symm.trans hx114_0)
                      rw [hv114_0] at ge114_0
                      have HL114_0 := Aside0.mk (show Kd.R (Kd.int .i64) 3 _ _ _ _ (rd_L1 x3_2 (rd (rd_L1 l0 x13_1) x20_2)) from ge114_0)
                      clear hv114_0 ge114_0
                      have HX114_0 := Aside0.mk hx114_0
                      clear hcc114 hce114
                      have HR114_0 := Aside0.mk hi114_0
                      have HC114_0 := Aside0.mk hl114_0
                      clear hi114_0 hl114_0
                      replace p114 := eq_true p114
                      replace q114 := eq_true q114
                      have ea_ := Option.some.inj (hx107_0.symm.trans hx114_0)
                      injection ea_ with ea_ en_ ec_
                      subst ea_
                      subst ec_
                      clear en_
                      have p115 : 0 ≤ ((ji25) : Int) := of_decide_eq_true p1_0
                      have q115 : (ji25) < ((rd_L1 x3_2 (rd (rd_L1 l0 x13_1) x20_2)).length : Int) := of_decide_eq_true p1_0
                      obtain ⟨ad115, e115, hx115_0⟩ := Kd.at_int p1_7 (ji25) p115 q115
                      cases e115
                      replace p115 := eq_true p115
                      replace q115 := eq_true q115
                      have p116 : 0 ≤ ((rd (rd_L1 l0 x13_1) x20_2) : Int) := of_decide_eq_true p1_0
                      have q116 : (rd (rd_L1 l0 x13_1) x20_2) < (x3_2.length : Int) := of_decide_eq_true p1_0
                      obtain ⟨ad116, A116_0, c116_0, e116, hx116_0, hl116_0, hi116_0⟩ := at_L1 (Kd.S_reads' HO_3.out).2.2 (rd (rd_L1 l0 x13_1) x20_2) p116 q116
                      obtain rfl : ad107 = ad116 := (by injection e116)
                      obtain ⟨ce116, hce116, hMe116, hcc116⟩ := Kd.S_get HO_3.out [] (rd (rd_L1 l0 x13_1) x20_2) p116 (by first | exact q116 | exact of_decide_eq_true p1_0 | (have e_ := (Kd.S_reads' HO_3.out).1; omega))
                      obtain ⟨ve116_0, rfl, ge116_0⟩ := hMe116
                      have hv116_0 := hcc116 0 _ rfl
                      rw [Nat.add_zero, show ((Kd.slice 3 (Kd.int .i64))).sz = 1 from rfl, Nat.mul_one] at hv116_0
                      replace hv116_0 := Option.some.inj (hv116_0.symm.trans hx116_0)
                      rw [hv116_0] at ge116_0
                      have HL116_0 := Aside0.mk (show Kd.R (Kd.int .i64) 3 _ _ _ _ (rd_L1 x3_2 (rd (rd_L1 l0 x13_1) x20_2)) from ge116_0)
                      clear hv116_0 ge116_0
                      have HX116_0 := Aside0.mk hx116_0
                      clear hcc116 hce116
                      have HR116_0 := Aside0.mk hi116_0
                      have HC116_0 := Aside0.mk hl116_0
                      clear hi116_0 hl116_0
                      replace p116 := eq_true p116
                      replace q116 := eq_true q116
                      have ea_ := Option.some.inj (hx107_0.symm.trans hx116_0)
                      injection ea_ with ea_ en_ ec_
                      subst ea_
                      subst ec_
                      clear en_
                      obtain ⟨go33, co33, eo33, gb33, gl33, cl33, HG33⟩ := Kd.S_form HO_3.out (by have h_ : ((rd (rd_L1 l0 x13_1) x20_2) : Int) < ((x3_2.length : Int) : Int) := of_decide_eq_true p1_0; have h2_ : 0 ≤ ((rd (rd_L1 l0 x13_1) x20_2) : Int) := (of_decide_eq_true p1_0); omega)
                      (first | cases eo33 | (injection eo33 with ea_ en_ ec_; (first | subst ea_ | (injection ea_ with ea_; subst ea_)); subst ec_; clear en_))
                      have GB33 := Aside0.mk gb33
                      have GG33 := Aside0.mk HG33
                      clear gb33 gl33 HG33
                      (first | simp only [add_plain] at hx107_0 | skip)
                      (first | simp only [add_plain] at hx113_0 | skip)
                      (first | simp only [add_plain] at hx114_0 | skip)
                      (first | simp only [add_plain] at hx116_0 | skip)
                      obtain ⟨oki33, ce33, hcl33, hM33, hcc33, _, _, hH33⟩ := Kd.S_elem HO_3.out [] ((rd (rd_L1 l0 x13_1) x20_2) : Int) (of_decide_eq_true p1_0) (by have h_ : ((rd (rd_L1 l0 x13_1) x20_2) : Int) < ((x3_2.length : Int) : Int) := of_decide_eq_true p1_0; first | exact h_ | (have e_ := (Kd.S_reads' HO_3.out).1; omega) | simpa using h_)
                      obtain ⟨ve33_0, rfl, ge33_0⟩ := hM33
                      have hv33 := hcc33 0 _ rfl
                      have hX33 := HX116_0.out
                      (try simp only [add_plain] at hX33)
                      (try simp only [Nat.add_zero] at hv33)
                      (try rw [show ((Kd.slice 3 (Kd.int .i64))).sz = 1 from rfl, Nat.mul_one] at hv33)
                      replace hv33 := Option.some.inj (hv33.symm.trans hX33)
                      subst hv33
                      clear hX33 hcc33 hcl33
                      have UU33 := Aside0.mk (show Kd.R (Kd.int .i64) 3 _ w.heap.size oki33 (.slice (some ad115) (rd_L1 x3_2 (rd (rd_L1 l0 x13_1) x20_2)).length c107_0) (rd_L1 x3_2 (rd (rd_L1 l0 x13_1) x20_2)) from ge33_0)
                      have HH33 := Aside0.mk hH33
                      have HN33 := Aside0.mk (Kd.S_reads' HO_3.out).1
                      clear hH33 ge33_0
                      go_wp2_with (first | ((with_reducible refine gate_builtin (b := .append) (xs := #[.tmp 61, .tmp 63]) rfl ?_); (try (refine gate_guard (by rfl) ?_; dsimp only)); at_builtin; refine Kd.R_append (Kd.int .i64) (w0 := w) w.heap.size rfl (.tmp 61) (.tmp 63) 27 3 (.int .i64 0) 8 rfl Try.underlying27 info3 rfl (by decide) (by omega) (.slice (some ad115) (rd_L1 x3_2 (rd (rd_L1 l0 x13_1) x20_2)).length c107_0) (rd_L1 x3_2 (rd (rd_L1 l0 x13_1) x20_2)) x13_1 [.int .i64 x13_1] (fun k_ => oki33 k_ ∨ ((fun _ => True)) k_ ∧ wr.heap.size ≤ k_) (fun _ => False) rfl rfl ?aP (fun _ hk => hk.elim) ?aF ?aO ?aB ?aS ?aL ?_; (case aP => exact rfl); (case aB => exact p1_1); (case aF => exact (fun k_ hk => .inr ⟨trivial, hk⟩)); (case aO => exact p1_4); (case aS => exact (below_size p1_1)); (case aL => have := LMc30.out; omega); intro v118 w34 ho hb hg hat; rw [← Ny117.out] at ho; have n0_ := Aside0.mk (hb); have n1_ := Aside0.mk (Kd.H_grown (Kd.H_widen p1_6) hg (fun k_ e_ => .inl (UU33.out.1 k_ e_))); have n2_ := Aside0.mk (ho); clear HB; clear HH33; clear HO_3; clear UU33; clear HL107_0; clear HL113_0; clear HL114_0; clear HL116_0; have HB := n0_; have HH33 := n1_; have HO119 := n2_; clear n0_ n1_ n2_; clear ho hb hg hat; have p31 : 0 ≤ ((rd (rd_L1 l0 x13_1) x20_2) : Int) := of_decide_eq_true p1_0; have q31 : ((rd (rd_L1 l0 x13_1) x20_2) : Int) < ((x3_2.length : Int) : Int) := of_decide_eq_true p1_0; replace p31 := eq_true p31; replace q31 := eq_true q31; obtain ⟨Ao37, co37, eo37⟩ := Kd.R_slice HO119.out; subst eo37; obtain ⟨_, _, hraw35, _, _, hcc35, _⟩ := Kd.H_raw HH33.out (of_decide_eq_true p1_0) (by have h_ : ((rd (rd_L1 l0 x13_1) x20_2) : Int) < ((x3_2.length : Int) : Int) := of_decide_eq_true p1_0; first | exact h_ | (have e_ := (HN33.out); omega) | simpa using h_); obtain ⟨_, hfr35⟩ := Kd.H_at HH33.out (of_decide_eq_true p1_0) (by have h_ : ((rd (rd_L1 l0 x13_1) x20_2) : Int) < ((x3_2.length : Int) : Int) := of_decide_eq_true p1_0; first | exact h_ | (have e_ := (HN33.out); omega) | simpa using h_); have hx35_0 := hcc35 0 _ rfl; have hf35_0 := hfr35 0; (try simp only [Nat.add_zero] at hx35_0 hf35_0); (try rw [show ((Kd.slice 3 (Kd.int .i64))).sz = 1 from rfl, Nat.mul_one] at hx35_0); (try rw [show ((Kd.slice 3 (Kd.int .i64))).sz = 1 from rfl, Nat.mul_one] at hf35_0); have HP35 := Kd.S_seg0 HH33.out (of_decide_eq_true p1_0) (by have h_ : ((rd (rd_L1 l0 x13_1) x20_2) : Int) < ((x3_2.length : Int) : Int) := of_decide_eq_true p1_0; first | exact h_ | (have e_ := (HN33.out); omega) | simpa using h_) (seg := [.slice Ao37 y117.length co37]) (j := 0) (show 1 ≤ 1 from by decide) (x' := y117) (Kd.M_row HO119.out) (fun _ hk => hk); (try simp only [show ((Kd.slice 3 (Kd.int .i64))).sz = 1 from rfl, Nat.mul_one, Nat.add_zero] at HP35); clear hcc35 hfr35) | ((with_reducible refine gate_store (t := 27) (p := 65) rfl ?_); (try (rw [drewN_self w34]; generalize hq_ : World.drewN w34 _ = w34; have n0_ := Aside0.mk (Kd.S_at hq_ HO_3.out); have n1_ := Aside0.mk (below_at hq_ HB.out); clear hq_ HO_3 HB; have HO_3 := n0_; have HB := n1_; clear n0_ n1_; (try (obtain ⟨Ao37, co37, eo37⟩ := Kd.R_slice HO119.out)); (try (subst eo37)); (try (obtain ⟨_, _, hraw35, _, _, hcc35, _⟩ := Kd.H_raw HH33.out (of_decide_eq_true p1_0) (by have h_ : ((rd (rd_L1 l0 x13_1) x20_2) : Int) < ((x3_2.length : Int) : Int) := of_decide_eq_true p1_0; first | exact h_ | (have e_ := (HN33.out); omega) | simpa using h_))); (try (obtain ⟨_, hfr35⟩ := Kd.H_at HH33.out (of_decide_eq_true p1_0) (by have h_ : ((rd (rd_L1 l0 x13_1) x20_2) : Int) < ((x3_2.length : Int) : Int) := of_decide_eq_true p1_0; first | exact h_ | (have e_ := (HN33.out); omega) | simpa using h_))); (try (have hx35_0 := hcc35 0 _ rfl)); (try (have hf35_0 := hfr35 0)); (try (try simp only [Nat.add_zero] at hx35_0 hf35_0)); (try (try rw [show ((Kd.slice 3 (Kd.int .i64))).sz = 1 from rfl, Nat.mul_one] at hx35_0)); (try (try rw [show ((Kd.slice 3 (Kd.int .i64))).sz = 1 from rfl, Nat.mul_one] at hf35_0)); (try (have HP35 := Kd.S_seg0 HH33.out (of_decide_eq_true p1_0) (by have h_ : ((rd (rd_L1 l0 x13_1) x20_2) : Int) < ((x3_2.length : Int) : Int) := of_decide_eq_true p1_0; first | exact h_ | (have e_ := (HN33.out); omega) | simpa using h_) (seg := [.slice Ao37 y117.length co37]) (j := 0) (show 1 ≤ 1 from by decide) (x' := y117) (Kd.M_row HO119.out) (fun _ hk => hk))); (try (try simp only [show ((Kd.slice 3 (Kd.int .i64))).sz = 1 from rfl, Nat.mul_one, Nat.add_zero] at HP35)); (try (clear hcc35 hfr35)))); refine store_event (t := 27) (p := 65) (v := ?vo_w36) (w1 := (w34.setCell ⟨go33, ((rd (rd_L1 l0 x13_1) x20_2) : Int).toNat, none⟩ (.slice Ao37 y117.length co37))) ?hg ?ho ?hn ?hr ?_; (case ho => rfl); (case hg => rfl); (case hn => rfl); (case hr => first | (go_simp; done) | (go_simp; rfl)); intro w36 hw; have hg : w34.grownBy w36 (some go33) := (by rw [hw]; exact HP35.2); have hp_ : Kd.S (Kd.slice 3 (Kd.int .i64)) 27 w36 w.heap.size (fun _ => True) (.slice (some ⟨go33, 0, none⟩) x3_2.length co32) y120 := (by rw [hw, Ny120.out]; exact HP35.1); clear HP35; have n0_ := Aside0.mk ((by rw [hw]; exact below_set HB.out GB33.out : Below w.heap.size w w36)); have n1_ := Aside0.mk (hp_); clear HB; clear HO119; clear HH33; have HB := n0_; have HO_3 := n1_; clear n0_ n1_; clear hg hw hp_ hraw35))
                      repeat (go_quiet (first | ((with_reducible refine gate_builtin (b := .append) (xs := #[.tmp 61, .tmp 63]) rfl ?_); (try (refine gate_guard (by rfl) ?_; dsimp only)); at_builtin; refine Kd.R_append (Kd.int .i64) (w0 := w) w.heap.size rfl (.tmp 61) (.tmp 63) 27 3 (.int .i64 0) 8 rfl Try.underlying27 info3 rfl (by decide) (by omega) (.slice (some ad115) (rd_L1 x3_2 (rd (rd_L1 l0 x13_1) x20_2)).length c107_0) (rd_L1 x3_2 (rd (rd_L1 l0 x13_1) x20_2)) x13_1 [.int .i64 x13_1] (fun k_ => oki33 k_ ∨ ((fun _ => True)) k_ ∧ wr.heap.size ≤ k_) (fun _ => False) rfl rfl ?aP (fun _ hk => hk.elim) ?aF ?aO ?aB ?aS ?aL ?_; (case aP => exact rfl); (case aB => exact p1_1); (case aF => exact (fun k_ hk => .inr ⟨trivial, hk⟩)); (case aO => exact p1_4); (case aS => exact (below_size p1_1)); (case aL => have := LMc30.out; omega); intro v118 w34 ho hb hg hat; rw [← Ny117.out] at ho; have n0_ := Aside0.mk (hb); have n1_ := Aside0.mk (Kd.H_grown (Kd.H_widen p1_6) hg (fun k_ e_ => .inl (UU33.out.1 k_ e_))); have n2_ := Aside0.mk (ho); clear HB; clear HH33; clear HO_3; clear UU33; clear HL107_0; clear HL113_0; clear HL114_0; clear HL116_0; have HB := n0_; have HH33 := n1_; have HO119 := n2_; clear n0_ n1_ n2_; clear ho hb hg hat; have p31 : 0 ≤ ((rd (rd_L1 l0 x13_1) x20_2) : Int) := of_decide_eq_true p1_0; have q31 : ((rd (rd_L1 l0 x13_1) x20_2) : Int) < ((x3_2.length : Int) : Int) := of_decide_eq_true p1_0; replace p31 := eq_true p31; replace q31 := eq_true q31; obtain ⟨Ao37, co37, eo37⟩ := Kd.R_slice HO119.out; subst eo37; obtain ⟨_, _, hraw35, _, _, hcc35, _⟩ := Kd.H_raw HH33.out (of_decide_eq_true p1_0) (by have h_ : ((rd (rd_L1 l0 x13_1) x20_2) : Int) < ((x3_2.length : Int) : Int) := of_decide_eq_true p1_0; first | exact h_ | (have e_ := (HN33.out); omega) | simpa using h_); obtain ⟨_, hfr35⟩ := Kd.H_at HH33.out (of_decide_eq_true p1_0) (by have h_ : ((rd (rd_L1 l0 x13_1) x20_2) : Int) < ((x3_2.length : Int) : Int) := of_decide_eq_true p1_0; first | exact h_ | (have e_ := (HN33.out); omega) | simpa using h_); have hx35_0 := hcc35 0 _ rfl; have hf35_0 := hfr35 0; (try simp only [Nat.add_zero] at hx35_0 hf35_0); (try rw [show ((Kd.slice 3 (Kd.int .i64))).sz = 1 from rfl, Nat.mul_one] at hx35_0); (try rw [show ((Kd.slice 3 (Kd.int .i64))).sz = 1 from rfl, Nat.mul_one] at hf35_0); have HP35 := Kd.S_seg0 HH33.out (of_decide_eq_true p1_0) (by have h_ : ((rd (rd_L1 l0 x13_1) x20_2) : Int) < ((x3_2.length : Int) : Int) := of_decide_eq_true p1_0; first | exact h_ | (have e_ := (HN33.out); omega) | simpa using h_) (seg := [.slice Ao37 y117.length co37]) (j := 0) (show 1 ≤ 1 from by decide) (x' := y117) (Kd.M_row HO119.out) (fun _ hk => hk); (try simp only [show ((Kd.slice 3 (Kd.int .i64))).sz = 1 from rfl, Nat.mul_one, Nat.add_zero] at HP35); clear hcc35 hfr35) | ((with_reducible refine gate_store (t := 27) (p := 65) rfl ?_); (try (rw [drewN_self w34]; generalize hq_ : World.drewN w34 _ = w34; have n0_ := Aside0.mk (Kd.S_at hq_ HO_3.out); have n1_ := Aside0.mk (below_at hq_ HB.out); clear hq_ HO_3 HB; have HO_3 := n0_; have HB := n1_; clear n0_ n1_; (try (obtain ⟨Ao37, co37, eo37⟩ := Kd.R_slice HO119.out)); (try (subst eo37)); (try (obtain ⟨_, _, hraw35, _, _, hcc35, _⟩ := Kd.H_raw HH33.out (of_decide_eq_true p1_0) (by have h_ : ((rd (rd_L1 l0 x13_1) x20_2) : Int) < ((x3_2.length : Int) : Int) := of_decide_eq_true p1_0; first | exact h_ | (have e_ := (HN33.out); omega) | simpa using h_))); (try (obtain ⟨_, hfr35⟩ := Kd.H_at HH33.out (of_decide_eq_true p1_0) (by have h_ : ((rd (rd_L1 l0 x13_1) x20_2) : Int) < ((x3_2.length : Int) : Int) := of_decide_eq_true p1_0; first | exact h_ | (have e_ := (HN33.out); omega) | simpa using h_))); (try (have hx35_0 := hcc35 0 _ rfl)); (try (have hf35_0 := hfr35 0)); (try (try simp only [Nat.add_zero] at hx35_0 hf35_0)); (try (try rw [show ((Kd.slice 3 (Kd.int .i64))).sz = 1 from rfl, Nat.mul_one] at hx35_0)); (try (try rw [show ((Kd.slice 3 (Kd.int .i64))).sz = 1 from rfl, Nat.mul_one] at hf35_0)); (try (have HP35 := Kd.S_seg0 HH33.out (of_decide_eq_true p1_0) (by have h_ : ((rd (rd_L1 l0 x13_1) x20_2) : Int) < ((x3_2.length : Int) : Int) := of_decide_eq_true p1_0; first | exact h_ | (have e_ := (HN33.out); omega) | simpa using h_) (seg := [.slice Ao37 y117.length co37]) (j := 0) (show 1 ≤ 1 from by decide) (x' := y117) (Kd.M_row HO119.out) (fun _ hk => hk))); (try (try simp only [show ((Kd.slice 3 (Kd.int .i64))).sz = 1 from rfl, Nat.mul_one, Nat.add_zero] at HP35)); (try (clear hcc35 hfr35)))); refine store_event (t := 27) (p := 65) (v := ?vo_w36) (w1 := (w34.setCell ⟨go33, ((rd (rd_L1 l0 x13_1) x20_2) : Int).toNat, none⟩ (.slice Ao37 y117.length co37))) ?hg ?ho ?hn ?hr ?_; (case ho => rfl); (case hg => rfl); (case hn => rfl); (case hr => first | (go_simp; done) | (go_simp; rfl)); intro w36 hw; have hg : w34.grownBy w36 (some go33) := (by rw [hw]; exact HP35.2); have hp_ : Kd.S (Kd.slice 3 (Kd.int .i64)) 27 w36 w.heap.size (fun _ => True) (.slice (some ⟨go33, 0, none⟩) x3_2.length co32) y120 := (by rw [hw, Ny120.out]; exact HP35.1); clear HP35; have n0_ := Aside0.mk ((by rw [hw]; exact below_set HB.out GB33.out : Below w.heap.size w w36)); have n1_ := Aside0.mk (hp_); clear HB; clear HO119; clear HH33; have HB := n0_; have HO_3 := n1_; clear n0_ n1_; clear hg hw hp_ hraw35)); try go_wp2_with (first | ((with_reducible refine gate_builtin (b := .append) (xs := #[.tmp 61, .tmp 63]) rfl ?_); (try (refine gate_guard (by rfl) ?_; dsimp only)); at_builtin; refine Kd.R_append (Kd.int .i64) (w0 := w) w.heap.size rfl (.tmp 61) (.tmp 63) 27 3 (.int .i64 0) 8 rfl Try.underlying27 info3 rfl (by decide) (by omega) (.slice (some ad115) (rd_L1 x3_2 (rd (rd_L1 l0 x13_1) x20_2)).length c107_0) (rd_L1 x3_2 (rd (rd_L1 l0 x13_1) x20_2)) x13_1 [.int .i64 x13_1] (fun k_ => oki33 k_ ∨ ((fun _ => True)) k_ ∧ wr.heap.size ≤ k_) (fun _ => False) rfl rfl ?aP (fun _ hk => hk.elim) ?aF ?aO ?aB ?aS ?aL ?_; (case aP => exact rfl); (case aB => exact p1_1); (case aF => exact (fun k_ hk => .inr ⟨trivial, hk⟩)); (case aO => exact p1_4); (case aS => exact (below_size p1_1)); (case aL => have := LMc30.out; omega); intro v118 w34 ho hb hg hat; rw [← Ny117.out] at ho; have n0_ := Aside0.mk (hb); have n1_ := Aside0.mk (Kd.H_grown (Kd.H_widen p1_6) hg (fun k_ e_ => .inl (UU33.out.1 k_ e_))); have n2_ := Aside0.mk (ho); clear HB; clear HH33; clear HO_3; clear UU33; clear HL107_0; clear HL113_0; clear HL114_0; clear HL116_0; have HB := n0_; have HH33 := n1_; have HO119 := n2_; clear n0_ n1_ n2_; clear ho hb hg hat; have p31 : 0 ≤ ((rd (rd_L1 l0 x13_1) x20_2) : Int) := of_decide_eq_true p1_0; have q31 : ((rd (rd_L1 l0 x13_1) x20_2) : Int) < ((x3_2.length : Int) : Int) := of_decide_eq_true p1_0; replace p31 := eq_true p31; replace q31 := eq_true q31; obtain ⟨Ao37, co37, eo37⟩ := Kd.R_slice HO119.out; subst eo37; obtain ⟨_, _, hraw35, _, _, hcc35, _⟩ := Kd.H_raw HH33.out (of_decide_eq_true p1_0) (by have h_ : ((rd (rd_L1 l0 x13_1) x20_2) : Int) < ((x3_2.length : Int) : Int) := of_decide_eq_true p1_0; first | exact h_ | (have e_ := (HN33.out); omega) | simpa using h_); obtain ⟨_, hfr35⟩ := Kd.H_at HH33.out (of_decide_eq_true p1_0) (by have h_ : ((rd (rd_L1 l0 x13_1) x20_2) : Int) < ((x3_2.length : Int) : Int) := of_decide_eq_true p1_0; first | exact h_ | (have e_ := (HN33.out); omega) | simpa using h_); have hx35_0 := hcc35 0 _ rfl; have hf35_0 := hfr35 0; (try simp only [Nat.add_zero] at hx35_0 hf35_0); (try rw [show ((Kd.slice 3 (Kd.int .i64))).sz = 1 from rfl, Nat.mul_one] at hx35_0); (try rw [show ((Kd.slice 3 (Kd.int .i64))).sz = 1 from rfl, Nat.mul_one] at hf35_0); have HP35 := Kd.S_seg0 HH33.out (of_decide_eq_true p1_0) (by have h_ : ((rd (rd_L1 l0 x13_1) x20_2) : Int) < ((x3_2.length : Int) : Int) := of_decide_eq_true p1_0; first | exact h_ | (have e_ := (HN33.out); omega) | simpa using h_) (seg := [.slice Ao37 y117.length co37]) (j := 0) (show 1 ≤ 1 from by decide) (x' := y117) (Kd.M_row HO119.out) (fun _ hk => hk); (try simp only [show ((Kd.slice 3 (Kd.int .i64))).sz = 1 from rfl, Nat.mul_one, Nat.add_zero] at HP35); clear hcc35 hfr35) | ((with_reducible refine gate_store (t := 27) (p := 65) rfl ?_); (try (rw [drewN_self w34]; generalize hq_ : World.drewN w34 _ = w34; have n0_ := Aside0.mk (Kd.S_at hq_ HO_3.out); have n1_ := Aside0.mk (below_at hq_ HB.out); clear hq_ HO_3 HB; have HO_3 := n0_; have HB := n1_; clear n0_ n1_; (try (obtain ⟨Ao37, co37, eo37⟩ := Kd.R_slice HO119.out)); (try (subst eo37)); (try (obtain ⟨_, _, hraw35, _, _, hcc35, _⟩ := Kd.H_raw HH33.out (of_decide_eq_true p1_0) (by have h_ : ((rd (rd_L1 l0 x13_1) x20_2) : Int) < ((x3_2.length : Int) : Int) := of_decide_eq_true p1_0; first | exact h_ | (have e_ := (HN33.out); omega) | simpa using h_))); (try (obtain ⟨_, hfr35⟩ := Kd.H_at HH33.out (of_decide_eq_true p1_0) (by have h_ : ((rd (rd_L1 l0 x13_1) x20_2) : Int) < ((x3_2.length : Int) : Int) := of_decide_eq_true p1_0; first | exact h_ | (have e_ := (HN33.out); omega) | simpa using h_))); (try (have hx35_0 := hcc35 0 _ rfl)); (try (have hf35_0 := hfr35 0)); (try (try simp only [Nat.add_zero] at hx35_0 hf35_0)); (try (try rw [show ((Kd.slice 3 (Kd.int .i64))).sz = 1 from rfl, Nat.mul_one] at hx35_0)); (try (try rw [show ((Kd.slice 3 (Kd.int .i64))).sz = 1 from rfl, Nat.mul_one] at hf35_0)); (try (have HP35 := Kd.S_seg0 HH33.out (of_decide_eq_true p1_0) (by have h_ : ((rd (rd_L1 l0 x13_1) x20_2) : Int) < ((x3_2.length : Int) : Int) := of_decide_eq_true p1_0; first | exact h_ | (have e_ := (HN33.out); omega) | simpa using h_) (seg := [.slice Ao37 y117.length co37]) (j := 0) (show 1 ≤ 1 from by decide) (x' := y117) (Kd.M_row HO119.out) (fun _ hk => hk))); (try (try simp only [show ((Kd.slice 3 (Kd.int .i64))).sz = 1 from rfl, Nat.mul_one, Nat.add_zero] at HP35)); (try (clear hcc35 hfr35)))); refine store_event (t := 27) (p := 65) (v := ?vo_w36) (w1 := (w34.setCell ⟨go33, ((rd (rd_L1 l0 x13_1) x20_2) : Int).toNat, none⟩ (.slice Ao37 y117.length co37))) ?hg ?ho ?hn ?hr ?_; (case ho => rfl); (case hg => rfl); (case hn => rfl); (case hr => first | (go_simp; done) | (go_simp; rfl)); intro w36 hw; have hg : w34.grownBy w36 (some go33) := (by rw [hw]; exact HP35.2); have hp_ : Kd.S (Kd.slice 3 (Kd.int .i64)) 27 w36 w.heap.size (fun _ => True) (.slice (some ⟨go33, 0, none⟩) x3_2.length co32) y120 := (by rw [hw, Ny120.out]; exact HP35.1); clear HP35; have n0_ := Aside0.mk ((by rw [hw]; exact below_set HB.out GB33.out : Below w.heap.size w w36)); have n1_ := Aside0.mk (hp_); clear HB; clear HO119; clear HH33; have HB := n0_; have HO_3 := n1_; clear n0_ n1_; clear hg hw hp_ hraw35)))
                      go_roundg k2
                      case measure => have := HK1.out; have := HK2.out; omega
                      case rel => exact ⟨(y120), (wrap64 (x20_2 + 1)), p1_2, H', ⟨by have := HK1.out; have := HK2.out; omega⟩, ⟨by (with_reducible repeat (first | apply Kd.S_alloc | apply Kd.S_drewN | apply Kd.S_drew)); exact HO_3.out⟩, ⟨by repeat (first | (with_reducible first | exact HB.out | apply below_alloc | apply pw_below_drewN | apply below_drew1) | exact HB.out)⟩⟩
                     ·
                      rw [if_neg c30] at H
                      exact absurd H (by simp)
                   ·
                    rw [if_neg c27] at H
                    exact absurd H (by simp)
                  ·
                   rw [if_neg c26] at H
                   exact absurd H (by simp)
                ·
                 rw [if_neg c15] at H
                 exact absurd H (by simp)
               ·
                rw [if_neg c14] at H
                exact absurd H (by simp)
              ·
               rw [if_neg c13] at H
               have c13b0 : decide ((rd (rd_L1 l0 x13_1) x20_2) < (l0.length : Int)) = false := decide_eq_false c13
               clear c13
               have H' := Aside0.mk H
               clear H
               have p106 : 0 ≤ (x20_2 : Int) := of_decide_eq_true p1_0
               have q106 : x20_2 < ((rd_L1 l0 x13_1).length : Int) := of_decide_eq_true p1_0
               obtain ⟨ad106, e106, hx106_0⟩ := Kd.at_int HR105_0.out x20_2 p106 q106
               cases e106
               replace hx106_0 := (HB.out.cell (World.block_lt_of_cell? w _ hx106_0)).trans hx106_0
               replace p106 := eq_true p106
               replace q106 := eq_true q106
               go_wp2
               repeat (go_quiet (fail); try go_wp2)
               go_roundg k2
               case measure => have := HK1.out; have := HK2.out; omega
               case rel => exact ⟨(x3_2), (wrap64 (x20_2 + 1)), p1_2, H', ⟨by have := HK1.out; have := HK2.out; omega⟩, ⟨by (with_reducible repeat (first | apply Kd.S_alloc | apply Kd.S_drewN | apply Kd.S_drew)); exact HO_3.out⟩, ⟨by repeat (first | (with_reducible first | exact HB.out | apply below_alloc | apply pw_below_drewN | apply below_drew1) | exact HB.out)⟩⟩
             ·
              rw [if_neg c12] at H
              have c12b0 : decide (0 ≤ (rd (rd_L1 l0 x13_1) x20_2)) = false := decide_eq_false c12
              clear c12
              have H' := Aside0.mk H
              clear H
              have p106 : 0 ≤ (x20_2 : Int) := of_decide_eq_true p1_0
              have q106 : x20_2 < ((rd_L1 l0 x13_1).length : Int) := of_decide_eq_true p1_0
              obtain ⟨ad106, e106, hx106_0⟩ := Kd.at_int HR105_0.out x20_2 p106 q106
              cases e106
              replace hx106_0 := (HB.out.cell (World.block_lt_of_cell? w _ hx106_0)).trans hx106_0
              replace p106 := eq_true p106
              replace q106 := eq_true q106
              go_wp2
              repeat (go_quiet (fail); try go_wp2)
              go_roundg k2
              case measure => have := HK1.out; have := HK2.out; omega
              case rel => exact ⟨(x3_2), (wrap64 (x20_2 + 1)), p1_2, H', ⟨by have := HK1.out; have := HK2.out; omega⟩, ⟨by (with_reducible repeat (first | apply Kd.S_alloc | apply Kd.S_drewN | apply Kd.S_drew)); exact HO_3.out⟩, ⟨by repeat (first | (with_reducible first | exact HB.out | apply below_alloc | apply pw_below_drewN | apply below_drew1) | exact HB.out)⟩⟩
            ·
             rw [if_neg c11] at H
             exact absurd H (by simp)
           ·
            rw [if_neg c10] at H
            exact absurd H (by simp)
          ·
           rw [if_neg c9] at H
           have c9b0 : decide (x20_2 < ((rd_L1 l0 x13_1).length : Int)) = false := decide_eq_false c9
           clear c9
           have H' := Aside0.mk H
           clear H
           go_wp2
           repeat (go_quiet (fail); try go_wp2)
           go_roundg k2
           case measure => have := HK1.out; have := HK2.out; omega
           case rel => exact ⟨(x3_2), (wrap64 (x13_1 + 1)), p1_2, H', ⟨by have := HK1.out; have := HK2.out; omega⟩, ⟨by (with_reducible repeat (first | apply Kd.S_alloc | apply Kd.S_drewN | apply Kd.S_drew)); exact HO_3.out⟩, ⟨by repeat (first | (with_reducible first | exact HB.out | apply below_alloc | apply pw_below_drewN | apply below_drew1) | exact HB.out)⟩⟩
       ·
        rw [if_neg c8] at H
        exact absurd H (by simp)
      ·
       rw [if_neg c7] at H
       exact absurd H (by simp)
     ·
      rw [if_neg c6] at H
      have c6b0 : decide (x13_1 < (l0.length : Int)) = false := decide_eq_false c6
      clear c6
      obtain rfl := Option.some.inj H
      go_wp2
      repeat (go_quiet (fail); try go_wp2)
      go_ret
      exact ⟨_, by first | rfl | (simp [errW_none, errW_some] <;> rfl) | (simp [*, errW_none, errW_some] <;> rfl), by (with_reducible repeat (first | apply Kd.S_alloc | apply Kd.S_drewN | apply Kd.S_drew)); exact HO_3.out, by repeat (first | (with_reducible first | exact HB.out | apply below_alloc | apply pw_below_drewN | apply below_drew1) | exact HB.out)⟩
  ·
   rw [if_neg c3] at H
   exact absurd H (by simp)
 ·
  rw [if_neg c2] at H
  exact absurd H (by simp)

end Go.Proofs.Ytfiffhcpgojkhaa.QInterParts
