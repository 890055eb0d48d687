-- Printed by a program of this session's over the kit's printer (wip/patch_print.py).
import Derived.Test.YtfiffhcpgojkhaaQInterPartsx0
import Derived.Test.YtfiffhcpgojkhaaQInterPartsx5
import Derived.Test.YtfiffhcpgojkhaaQInterPartsx6
namespace Go.Proofs.Ytfiffhcpgojkhaa.QInterParts
open Go.RowKit Go.Proofs.Ytfiffhcpgojkhaa Go.Proofs.YtfiffhcpgojkhaaW.PrintWords Go.Proofs.YtfiffhcpgojkhaaW.PrintLast Go.Proofs.YtfiffhcpgojkhaaW.PrintMore
attribute [local go_sem] setCell_drewN0 max2_int min2_int max_two min_two max_three min_three max_four min_four   -- for this text's walks alone
set_option linter.unusedVariables false
set_option linter.unusedSimpArgs false

/-! ### ladderbackref34_Interval: function 70 -/
theorem p7_0 {P : Prop} (h : P := by first | (with_reducible assumption) | assumption) : P := h
theorem p7_1 {P : Prop} (h : P := by repeat (first | (with_reducible first | exact HB.out | apply below_alloc | apply pw_below_drewN | apply below_drew1) | exact HB.out)) : P := h
theorem p7_2 {P : Prop} (h : P := by first | rfl | (simp; done) | (simp [*]; done)) : P := h
theorem p7_3 {P : Prop} (h : P := by (with_reducible repeat (first | apply Kd.R_alloc | apply Kd.R_drewN | apply Kd.R_drew)); exact HO238.out) : P := h
theorem p7_4 {P : Prop} (h : P := by (with_reducible repeat (first | apply Kd.R_alloc | apply Kd.R_drewN | apply Kd.R_drew)); exact HO_8.out) : P := h
theorem p7_5 {P : Prop} (h : P := by (try simp only [List.map_toArray, List.map_cons, List.map_nil]); first | done | rfl | (simp only [List.length_drop, List.length_take]; rfl)) : P := h
mutual
def ladderbackref34_Interval.l0 : Nat → List (List Int) → Int → List Bool → List Bool → List Bool → Int → Option (List Int)
 | 0, _, _, _, _, _, _ => none
 | k + 1, x0, x1, x2, x7, x8, x9 => if x9 < (x0.length : Int) then (ladderbackref34_Interval.l1 k x0 x1 x2 x7 x8 x9 1) else (ladderbackref34_Interval.l3 k x0 x1 x8 (([x1] : List Int)) 0)
def ladderbackref34_Interval.l1 : Nat → List (List Int) → Int → List Bool → List Bool → List Bool → Int → Int → Option (List Int)
 | 0, _, _, _, _, _, _, _ => none
 | k + 1, x0, x1, x2, x7, x8, x9, x10 => if x10 < (x0.length : Int) then (if 0 ≤ x10 then (if x10 < (x7.length : Int) then (if rdOf false x7 x10 = true then (if x10 < (x2.length : Int) then (if rdOf false x2 x10 = true then (ladderbackref34_Interval.j2 k x0 x1 x2 x7 x8 x9 x10 true) else (if x10 < (x8.length : Int) then (ladderbackref34_Interval.j2 k x0 x1 x2 x7 x8 x9 x10 (rdOf false x8 x10)) else (none))) else (none)) else (ladderbackref34_Interval.j2 k x0 x1 x2 x7 x8 x9 x10 true)) else (none)) else (none)) else (ladderbackref34_Interval.l0 k x0 x1 x2 x7 x8 (wrap64 (x9 + 1)))
def ladderbackref34_Interval.j2 : Nat → List (List Int) → Int → List Bool → List Bool → List Bool → Int → Int → Bool → Option (List Int)
 | 0, _, _, _, _, _, _, _, _ => none
 | k + 1, x0, x1, x2, x7, x8, x9, x10, x52 => if x52 = true then (ladderbackref34_Interval.l1 k x0 x1 x2 x7 x8 x9 (wrap64 (x10 + 1))) else ((ladderbackref34_from.f k x0 x10).bind fun t246 => (ladderbackref34_Interval.l2 k x0 x1 x2 x7 x8 x9 x10 true t246 0))
def ladderbackref34_Interval.l2 : Nat → List (List Int) → Int → List Bool → List Bool → List Bool → Int → Int → Bool → List Int → Int → Option (List Int)
 | 0, _, _, _, _, _, _, _, _, _, _ => none
 | k + 1, x0, x1, x2, x7, x8, x9, x10, x11, x12, x13 => if x13 < (x12.length : Int) then (if x11 = true then (if 0 ≤ x13 then (if 0 ≤ (rd x12 x13) then (if (rd x12 x13) < (x8.length : Int) then (if rdOf false x8 (rd x12 x13) = true then (ladderbackref34_Interval.l2 k x0 x1 x2 x7 x8 x9 x10 true x12 (wrap64 (x13 + 1))) else (ladderbackref34_Interval.l2 k x0 x1 x2 x7 x8 x9 x10 ((rd x12 x13) == x10) x12 (wrap64 (x13 + 1)))) else (none)) else (none)) else (none)) else (ladderbackref34_Interval.l2 k x0 x1 x2 x7 x8 x9 x10 false x12 (wrap64 (x13 + 1)))) else (if 0 ≤ x10 then (if x10 < (x8.length : Int) then (ladderbackref34_Interval.l1 k x0 x1 x2 x7 (x8.set (x10 : Int).toNat x11) x9 (wrap64 (x10 + 1))) else (none)) else (none))
def ladderbackref34_Interval.l3 : Nat → List (List Int) → Int → List Bool → List Int → Int → Option (List Int)
 | 0, _, _, _, _, _ => none
 | k + 1, x0, x1, x8, x14, x15 => if x15 < (x0.length : Int) then (if 0 ≤ x15 then (if x15 < (x8.length : Int) then (if rdOf false x8 x15 = true then (if x15 = x1 then (ladderbackref34_Interval.l3 k x0 x1 x8 x14 (wrap64 (x15 + 1))) else (if x14.length < 17592186044416 then (ladderbackref34_Interval.l3 k x0 x1 x8 (x14 ++ [x15]) (wrap64 (x15 + 1))) else (none))) else (ladderbackref34_Interval.l3 k x0 x1 x8 x14 (wrap64 (x15 + 1)))) else (none)) else (none)) else (some x14)
end
def ladderbackref34_Interval.f (k : Nat) (l0 : List (List Int)) (a1 : Int) (l2 : List Bool) : Option (List Int) := (ladderbackref31_Reach.f k l0 0 (-1)).bind fun t236 => (if 0 ≤ (l0.length : Int) then (if ((l0.length : Int) : Int).toNat ≤ 281474976710656 then ((some (List.replicate ((l0.length : Int) : Int).toNat false : List Bool)).bind fun y239 => (if 0 ≤ a1 then (if a1 < (y239.length : Int) then (ladderbackref34_Interval.l0 k l0 a1 l2 t236 (y239.set (a1 : Int).toNat true) 0) else (none)) else (none))) else (none)) else (none))
theorem ladderbackref34_Interval.mono_l : ∀ k, (∀ y0 y1 y2 y3 y4 y5, LeO (ladderbackref34_Interval.l0 k y0 y1 y2 y3 y4 y5) (ladderbackref34_Interval.l0 (k + 1) y0 y1 y2 y3 y4 y5)) ∧ (∀ y0 y1 y2 y3 y4 y5 y6, LeO (ladderbackref34_Interval.l1 k y0 y1 y2 y3 y4 y5 y6) (ladderbackref34_Interval.l1 (k + 1) y0 y1 y2 y3 y4 y5 y6)) ∧ (∀ y0 y1 y2 y3 y4 y5 y6 y7, LeO (ladderbackref34_Interval.j2 k y0 y1 y2 y3 y4 y5 y6 y7) (ladderbackref34_Interval.j2 (k + 1) y0 y1 y2 y3 y4 y5 y6 y7)) ∧ (∀ y0 y1 y2 y3 y4 y5 y6 y7 y8 y9, LeO (ladderbackref34_Interval.l2 k y0 y1 y2 y3 y4 y5 y6 y7 y8 y9) (ladderbackref34_Interval.l2 (k + 1) y0 y1 y2 y3 y4 y5 y6 y7 y8 y9)) ∧ (∀ y0 y1 y2 y3 y4, LeO (ladderbackref34_Interval.l3 k y0 y1 y2 y3 y4) (ladderbackref34_Interval.l3 (k + 1) y0 y1 y2 y3 y4))
 | 0 => ⟨fun _ _ _ _ _ _ r h => by simp [ladderbackref34_Interval.l0] at h, fun _ _ _ _ _ _ _ r h => by simp [ladderbackref34_Interval.l1] at h, fun _ _ _ _ _ _ _ _ r h => by simp [ladderbackref34_Interval.j2] at h, fun _ _ _ _ _ _ _ _ _ _ r h => by simp [ladderbackref34_Interval.l2] at h, fun _ _ _ _ _ r h => by simp [ladderbackref34_Interval.l3] at h⟩
 | k + 1 => by
  obtain ⟨ih0, ih1, ih2, ih3, ih4⟩ := ladderbackref34_Interval.mono_l k
  refine ⟨?_, ?_, ?_, ?_, ?_⟩
  ·
   intro y0 y1 y2 y3 y4 y5
   unfold ladderbackref34_Interval.l0
   repeat' first
   | (with_reducible exact ih0 _ _ _ _ _ _)
   | (with_reducible exact ih1 _ _ _ _ _ _ _)
   | (with_reducible exact ih2 _ _ _ _ _ _ _ _)
   | (with_reducible exact ih3 _ _ _ _ _ _ _ _ _ _)
   | (with_reducible exact ih4 _ _ _ _ _)
   | (with_reducible exact ladderbackref31_Reach.mono _ _ _ _)
   | (with_reducible exact ladderbackref34_from.mono _ _ _)
   | (with_reducible exact LeO.refl _)
   | (with_reducible exact LeO.none _)
   | (with_reducible refine LeO.ite ?_ ?_)
   | (with_reducible refine LeO.bind ?_ (fun _ => ?_))
   | exact ih0 _ _ _ _ _ _
   | exact ih1 _ _ _ _ _ _ _
   | exact ih2 _ _ _ _ _ _ _ _
   | exact ih3 _ _ _ _ _ _ _ _ _ _
   | exact ih4 _ _ _ _ _
   | exact ladderbackref31_Reach.mono _ _ _ _
   | exact ladderbackref34_from.mono _ _ _
   | exact LeO.none _
   | refine LeO.ite ?_ ?_
   | refine LeO.bind ?_ (fun _ => ?_)
  ·
   intro y0 y1 y2 y3 y4 y5 y6
   unfold ladderbackref34_Interval.l1
   repeat' first
   | (with_reducible exact ih0 _ _ _ _ _ _)
   | (with_reducible exact ih1 _ _ _ _ _ _ _)
   | (with_reducible exact ih2 _ _ _ _ _ _ _ _)
   | (with_reducible exact ih3 _ _ _ _ _ _ _ _ _ _)
   | (with_reducible exact ih4 _ _ _ _ _)
   | (with_reducible exact ladderbackref31_Reach.mono _ _ _ _)
   | (with_reducible exact ladderbackref34_from.mono _ _ _)
   | (with_reducible exact LeO.refl _)
   | (with_reducible exact LeO.none _)
   | (with_reducible refine LeO.ite ?_ ?_)
   | (with_reducible refine LeO.bind ?_ (fun _ => ?_))
   | exact ih0 _ _ _ _ _ _
   | exact ih1 _ _ _ _ _ _ _
   | exact ih2 _ _ _ _ _ _ _ _
   | exact ih3 _ _ _ _ _ _ _ _ _ _
   | exact ih4 _ _ _ _ _
   | exact ladderbackref31_Reach.mono _ _ _ _
   | exact ladderbackref34_from.mono _ _ _
   | exact LeO.none _
   | refine LeO.ite ?_ ?_
   | refine LeO.bind ?_ (fun _ => ?_)
  ·
   intro y0 y1 y2 y3 y4 y5 y6 y7
   unfold ladderbackref34_Interval.j2
   repeat' first
   | (with_reducible exact ih0 _ _ _ _ _ _)
   | (with_reducible exact ih1 _ _ _ _ _ _ _)
   | (with_reducible exact ih2 _ _ _ _ _ _ _ _)
   | (with_reducible exact ih3 _ _ _ _ _ _ _ _ _ _)
   | (with_reducible exact ih4 _ _ _ _ _)
   | (with_reducible exact ladderbackref31_Reach.mono _ _ _ _)
   | (with_reducible exact ladderbackref34_from.mono _ _ _)
   | (with_reducible exact LeO.refl _)
   | (with_reducible exact LeO.none _)
   | (with_reducible refine LeO.ite ?_ ?_)
   | (with_reducible refine LeO.bind ?_ (fun _ => ?_))
   | exact ih0 _ _ _ _ _ _
   | exact ih1 _ _ _ _ _ _ _
   | exact ih2 _ _ _ _ _ _ _ _
   | exact ih3 _ _ _ _ _ _ _ _ _ _
   | exact ih4 _ _ _ _ _
   | exact ladderbackref31_Reach.mono _ _ _ _
   | exact ladderbackref34_from.mono _ _ _
   | exact LeO.none _
   | refine LeO.ite ?_ ?_
   | refine LeO.bind ?_ (fun _ => ?_)
  ·
   intro y0 y1 y2 y3 y4 y5 y6 y7 y8 y9
   unfold ladderbackref34_Interval.l2
   repeat' first
   | (with_reducible exact ih0 _ _ _ _ _ _)
   | (with_reducible exact ih1 _ _ _ _ _ _ _)
   | (with_reducible exact ih2 _ _ _ _ _ _ _ _)
   | (with_reducible exact ih3 _ _ _ _ _ _ _ _ _ _)
   | (with_reducible exact ih4 _ _ _ _ _)
   | (with_reducible exact ladderbackref31_Reach.mono _ _ _ _)
   | (with_reducible exact ladderbackref34_from.mono _ _ _)
   | (with_reducible exact LeO.refl _)
   | (with_reducible exact LeO.none _)
   | (with_reducible refine LeO.ite ?_ ?_)
   | (with_reducible refine LeO.bind ?_ (fun _ => ?_))
   | exact ih0 _ _ _ _ _ _
   | exact ih1 _ _ _ _ _ _ _
   | exact ih2 _ _ _ _ _ _ _ _
   | exact ih3 _ _ _ _ _ _ _ _ _ _
   | exact ih4 _ _ _ _ _
   | exact ladderbackref31_Reach.mono _ _ _ _
   | exact ladderbackref34_from.mono _ _ _
   | exact LeO.none _
   | refine LeO.ite ?_ ?_
   | refine LeO.bind ?_ (fun _ => ?_)
  ·
   intro y0 y1 y2 y3 y4
   unfold ladderbackref34_Interval.l3
   repeat' first
   | (with_reducible exact ih0 _ _ _ _ _ _)
   | (with_reducible exact ih1 _ _ _ _ _ _ _)
   | (with_reducible exact ih2 _ _ _ _ _ _ _ _)
   | (with_reducible exact ih3 _ _ _ _ _ _ _ _ _ _)
   | (with_reducible exact ih4 _ _ _ _ _)
   | (with_reducible exact ladderbackref31_Reach.mono _ _ _ _)
   | (with_reducible exact ladderbackref34_from.mono _ _ _)
   | (with_reducible exact LeO.refl _)
   | (with_reducible exact LeO.none _)
   | (with_reducible refine LeO.ite ?_ ?_)
   | (with_reducible refine LeO.bind ?_ (fun _ => ?_))
   | exact ih0 _ _ _ _ _ _
   | exact ih1 _ _ _ _ _ _ _
   | exact ih2 _ _ _ _ _ _ _ _
   | exact ih3 _ _ _ _ _ _ _ _ _ _
   | exact ih4 _ _ _ _ _
   | exact ladderbackref31_Reach.mono _ _ _ _
   | exact ladderbackref34_from.mono _ _ _
   | exact LeO.none _
   | refine LeO.ite ?_ ?_
   | refine LeO.bind ?_ (fun _ => ?_)
theorem ladderbackref34_Interval.mono : ∀ a0 a1 a2 k, LeO (ladderbackref34_Interval.f k a0 a1 a2) (ladderbackref34_Interval.f (k + 1) a0 a1 a2) := by
 intro a0 a1 a2 k
 obtain ⟨ih0, ih1, ih2, ih3, ih4⟩ := ladderbackref34_Interval.mono_l k
 unfold ladderbackref34_Interval.f
 repeat' first
   | (with_reducible exact ih0 _ _ _ _ _ _)
   | (with_reducible exact ih1 _ _ _ _ _ _ _)
   | (with_reducible exact ih2 _ _ _ _ _ _ _ _)
   | (with_reducible exact ih3 _ _ _ _ _ _ _ _ _ _)
   | (with_reducible exact ih4 _ _ _ _ _)
   | (with_reducible exact ladderbackref31_Reach.mono _ _ _ _)
   | (with_reducible exact ladderbackref34_from.mono _ _ _)
   | (with_reducible exact LeO.refl _)
   | (with_reducible exact LeO.none _)
   | (with_reducible refine LeO.ite ?_ ?_)
   | (with_reducible refine LeO.bind ?_ (fun _ => ?_))
   | exact ih0 _ _ _ _ _ _
   | exact ih1 _ _ _ _ _ _ _
   | exact ih2 _ _ _ _ _ _ _ _
   | exact ih3 _ _ _ _ _ _ _ _ _ _
   | exact ih4 _ _ _ _ _
   | exact ladderbackref31_Reach.mono _ _ _ _
   | exact ladderbackref34_from.mono _ _ _
   | exact LeO.none _
   | refine LeO.ite ?_ ?_
   | refine LeO.bind ?_ (fun _ => ?_)
set_option maxHeartbeats 8000000 in
set_option maxRecDepth 100000 in
theorem ladderbackref34_Interval.calls (k : Nat) (A0 : Option Addr) (c0 : Nat) (l0 : List (List Int)) (a1 : Int) (A2 : Option Addr) (c2 : Nat) (l2 : List Bool) (r : List Int) (w : World) (hr0 : Kd.C (Kd.slice 3 (Kd.int .i64)) w A0 l0.length l0) (hc0 : l0.length ≤ c0) (hr2 : Kd.C Kd.bool w A2 l2.length l2) (hc2 : l2.length ≤ c2) (h : ladderbackref34_Interval.f k l0 a1 l2 = some r) :
  Calls Try.prog 70 #[.slice A0 l0.length c0, .int .i64 a1, .slice A2 l2.length c2] w fun e w' => ∃ v0_ : Value, e = .returned (v0_) ∧ Kd.R (Kd.int .i64) 3 w' w.heap.size (fun _ => True) v0_ r ∧ Below w.heap.size w w' := by
 have HR0 := Aside0.mk hr0
 have HC0 := Aside0.mk hc0
 clear hr0 hc0
 have HR2 := Aside0.mk hr2
 have HC2 := Aside0.mk hc2
 clear hr2 hc2
 have HB := Aside0.mk (Below.refl w.heap.size w)
 have H : ((ladderbackref31_Reach.f k l0 0 (-1)).bind fun t236 => (if 0 ≤ (l0.length : Int) then (if ((l0.length : Int) : Int).toNat ≤ 281474976710656 then ((some (List.replicate ((l0.length : Int) : Int).toNat false : List Bool)).bind fun y239 => (if 0 ≤ a1 then (if a1 < (y239.length : Int) then (ladderbackref34_Interval.l0 k l0 a1 l2 t236 (y239.set (a1 : Int).toNat true) 0) else (none)) else (none))) else (none)) else (none))) = some r := h
 clear h
 replace H := Option.bind_eq_some_iff.mp H
 obtain ⟨t236, A40, H⟩ := H
 replace H : (if 0 ≤ (l0.length : Int) then (if ((l0.length : Int) : Int).toNat ≤ 281474976710656 then ((some (List.replicate ((l0.length : Int) : Int).toNat false : List Bool)).bind fun y239 => (if 0 ≤ a1 then (if a1 < (y239.length : Int) then (ladderbackref34_Interval.l0 k l0 a1 l2 t236 (y239.set (a1 : Int).toNat true) 0) else (none)) else (none))) else (none)) else (none)) = some r := H
 have A4 := Aside0.mk A40
 clear A40
 by_cases c5 : 0 ≤ (l0.length : Int)
 ·
  rw [if_pos c5] at H
  have c5b0 := eq_true c5
  have c5b1 : decide (0 ≤ (l0.length : Int)) = true := decide_eq_true c5
  clear c5
  by_cases c6 : ((l0.length : Int) : Int).toNat ≤ 281474976710656
  ·
   rw [if_pos c6] at H
   have c6b0 := eq_true c6
   have c6b1 : decide (((l0.length : Int) : Int).toNat ≤ 281474976710656) = true := decide_eq_true c6
   clear c6
   obtain ⟨y239, hy239⟩ : ∃ y_ : List Bool, y_ = (List.replicate ((l0.length : Int) : Int).toNat false) := ⟨_, rfl⟩
   replace H : (if 0 ≤ a1 then (if a1 < (y239.length : Int) then (ladderbackref34_Interval.l0 k l0 a1 l2 t236 (y239.set (a1 : Int).toNat true) 0) else (none)) else (none)) = some r := by first | (rw [hy239]; with_reducible exact H) | (have H2_ := (Option.bind_some _ _).symm.trans H; rw [hy239]; with_reducible exact H2_) | (have H2_ := (Option.bind_some _ _).symm.trans H; with_reducible exact H2_) | with_reducible exact H | (rw [hy239]; exact H) | exact H
   have Ny239 := Aside0.mk hy239
   clear hy239
   by_cases c7 : 0 ≤ a1
   ·
    rw [if_pos c7] at H
    have c7b0 : decide (0 ≤ a1) = true := decide_eq_true c7
    clear c7
    by_cases c8 : a1 < (y239.length : Int)
    ·
     rw [if_pos c8] at H
     have c8b0 : decide (a1 < (y239.length : Int)) = true := decide_eq_true c8
     clear c8
     obtain ⟨y242, hy242⟩ : ∃ y_ : List Bool, y_ = (y239.set (a1 : Int).toNat true) := ⟨_, rfl⟩
     replace H : (ladderbackref34_Interval.l0 k l0 a1 l2 t236 y242 0) = some r := by first | (rw [hy242]; with_reducible exact H) | (have H2_ := (Option.bind_some _ _).symm.trans H; rw [hy242]; with_reducible exact H2_) | (have H2_ := (Option.bind_some _ _).symm.trans H; with_reducible exact H2_) | with_reducible exact H | (rw [hy242]; exact H) | exact H
     have Ny242 := Aside0.mk hy242
     clear hy242
     have H' := Aside0.mk H
     clear H
     go_enter Try.func70, Try.ntmps70
     go_wp2_with (first | ((with_reducible refine gate_callee (f := 49) rfl ?_); refine goesL_ (some 17) rfl rfl Try.func49 (by kernel_rfl) rfl #[.slice A0 l0.length c0, .int .i64 0, .int .i64 (-1)] rfl p7_5 ?_; (with_reducible refine (ladderbackref31_Reach.calls k _ _ l0 0 (-1) t236 _ ?side1 ?side2 A4.out).mono ?_); (case side1 => repeat (first | exact HR0.out | (with_reducible refine Kd.C_alloc ?_ _) | (with_reducible refine Kd.C_drewN ?_ _) | (with_reducible refine Kd.C_drew ?_))); (case side2 => exact HC0.out); rintro e w10 ⟨v237, rfl, ho0, hb⟩; refine ⟨_, rfl, ?_⟩; have n0_ := Aside0.mk (Kd.R_lower ho0 (below_size p7_1)); have n1_ := Aside0.mk (below_step p7_1 hb); clear HB; have HO238 := n0_; have HB := n1_; clear n0_ n1_; (try clear hb); (try clear hb2); (try clear hk); (try clear hi); (try clear ho0)) | ((with_reducible refine gate_dst (N := 20) rfl ?_); refine Kd.R_make Kd.bool _ 4 rfl (N := 20) rfl 25 _ _ rfl (l0.length : Int) rfl rfl Try.underlying25 (.bool false) 1 info4 rfl (by decide) (by omega) false (ok := fun _ => True) (okp := fun _ => True) rfl (fun _ hk => hk) trivial (of_decide_eq_true p7_0) (Nat.le_trans (Nat.mul_le_mul_right _ (of_decide_eq_true p7_0 : (l0.length : Int).toNat ≤ 281474976710656)) (by omega)) (Below.refl _ _) (Nat.le_refl _) ?_; intro v240 w11 ho12 hb hg_ hnew_; clear hg_ hnew_; (first | rw [← Ny239.out] at ho12 | (simp only [Int.reduceToNat] at ho12; rw [← Ny239.out] at ho12)); have n0_ := Aside0.mk (Kd.R_elder' p7_3 (Kd.R_base ho12) hb); have n1_ := Aside0.mk (Kd.R_lower (Kd.R_new' ho12 (Kd.R_lt p7_3)) (below_size p7_1)); have n2_ := Aside0.mk (below_step p7_1 hb); clear HO238; clear HB; have HO238 := n0_; have HO241 := n1_; have HB := n2_; clear n0_ n1_ n2_; clear hb ho12; have p9 : 0 ≤ (a1 : Int) := of_decide_eq_true p7_0; have q9 : (a1 : Int) < ((y239.length : Int) : Int) := of_decide_eq_true p7_0; obtain ⟨go9, co9, eo9, gb9, gl9, cl9, HG9⟩ := Kd.R_form HO241.out (by omega); (first | cases eo9 | (injection eo9 with ea_ en_ ec_; (first | subst ea_ | (injection ea_ with ea_; subst ea_)); subst ec_; clear en_)); have GB9 := Aside0.mk gb9; have GG9 := Aside0.mk HG9; clear gb9 gl9 HG9; obtain ⟨hx9_0, hf9_0⟩ := Kd.R_celln false HO241.out (a1 : Int) p9 q9; replace p9 := eq_true p9; replace q9 := eq_true q9; have n_ := Aside0.mk (Kd.R_mono (ok' := (fun k_ => some k_ ≠ (v237 : Value).ownBlock)) HO241.out (fun k_ hk => hk.2)); clear HO241; have HO241 := n_; clear n_; obtain ⟨hy13_, hz13_⟩ := Kd.R_celln false HO241.out (a1 : Int) (of_decide_eq_true p7_0) (of_decide_eq_true p7_0); have HP13 := Kd.R_putg HO241.out (a1 : Int) true) | ((with_reducible refine gate_store (t := 4) (p := 23) rfl ?_); refine store_event (t := 4) (p := 23) (v := ?vo_w14) (w1 := (w11.setCell ⟨go9, (a1 : Int).toNat, none⟩ (.bool true))) ?hg ?ho ?hn ?hr ?_; (case ho => rfl); (case hg => rfl); (case hn => rfl); (case hr => first | (go_simp; done) | (go_simp; rfl)); intro w14 hw; have hg : w11.grownBy w14 (some go9) := (by rw [hw]; exact HP13.2); have hp_ : Kd.R Kd.bool 4 w14 w.heap.size (fun k_ => some k_ ≠ (v237 : Value).ownBlock) (.slice (some ⟨go9, 0, none⟩) y239.length co9) y242 := (by rw [hw, Ny242.out]; exact HP13.1); clear HP13; have n0_ := Aside0.mk (Kd.R_after (v := (.slice (some ⟨go9, 0, none⟩) y239.length co9)) (v1 := (.slice (some ⟨go9, 0, none⟩) y239.length co9)) (ok := (fun _ => True)) p7_3 hg (.inl rfl)); have n1_ := Aside0.mk (hp_); have n2_ := Aside0.mk ((by rw [hw]; exact below_set (HB.out) GB9.out : Below w.heap.size w w14)); clear HO238; clear HO241; clear HB; have HO238 := n0_; have HO241 := n1_; have HB := n2_; clear n0_ n1_ n2_; clear hg hw hp_))
     go_loopg [9] k (fun kq v9 w' => ∃ (x8_1 : List Bool) (x9_1 : Int), v9 = .int .i64 x9_1 ∧ Aside0 (ladderbackref34_Interval.l0 kq l0 a1 l2 t236 x8_1 x9_1 = some r) ∧ Aside0 (kq ≤ k) ∧ Aside0 (Kd.R Kd.bool 4 w' w.heap.size (fun k_ => some k_ ≠ ((.slice (some ⟨go9, 0, none⟩) y239.length co9) : Value).ownBlock) v237 t236) ∧ Aside0 (Kd.R Kd.bool 4 w' w.heap.size (fun k_ => some k_ ≠ (v237 : Value).ownBlock) (.slice (some ⟨go9, 0, none⟩) y239.length co9) x8_1) ∧ Aside0 (Below w.heap.size w w'))
     case atStart => exact ⟨(y242), (0), p7_2, H', ⟨Nat.le_refl _⟩, ⟨by (with_reducible repeat (first | apply Kd.R_alloc | apply Kd.R_drewN | apply Kd.R_drew)); exact Kd.R_mono HO238.out (fun _ hk => hk.2)⟩, ⟨by (with_reducible repeat (first | apply Kd.R_alloc | apply Kd.R_drewN | apply Kd.R_drew)); exact HO241.out⟩, ⟨by repeat (first | (with_reducible first | exact HB.out | apply below_alloc | apply pw_below_drewN | apply below_drew1) | exact HB.out)⟩⟩
     case round =>
      clear H'
      (try clear c2); (try clear c5); (try clear c5b0); (try clear c5b1); (try clear c6); (try clear c6b0); (try clear c6b1); (try clear c7); (try clear c7b0); (try clear c8); (try clear c8b0); (try clear p9); (try clear q9); (try clear hx9_0)
      obtain ⟨x8_1, x9_1, rfl, HA, HK1, HO_7, HO_8, HB⟩ := hrel
      have hl8_1 := (Kd.R_reads' HO_8.out).1
      rw [hl8_1] at HO_8
      (try simp only [hl8_1])
      (try simp only [hl8_1] at HO_7)
      cases gk with
      | zero => exact absurd HA.out (by simp [ladderbackref34_Interval.l0])
      | succ k1 =>
       have H := HA.out
       clear HA
       simp only [ladderbackref34_Interval.l0] at H
       by_cases c15 : x9_1 < (l0.length : Int)
       ·
        rw [if_pos c15] at H
        have c15b0 : decide (x9_1 < (l0.length : Int)) = true := decide_eq_true c15
        clear c15
        have H' := Aside0.mk H
        clear H
        go_wp2
        go_loopg [10] k1 (fun kq v10 w' => ∃ (x8_2 : List Bool) (x10_2 : Int), v10 = .int .i64 x10_2 ∧ Aside0 (ladderbackref34_Interval.l1 kq l0 a1 l2 t236 x8_2 x9_1 x10_2 = some r) ∧ Aside0 (kq ≤ k1) ∧ Aside0 (Kd.R Kd.bool 4 w' w.heap.size (fun k_ => some k_ ≠ ((.slice (some ⟨go9, 0, none⟩) x8_1.length co9) : Value).ownBlock) v237 t236) ∧ Aside0 (Kd.R Kd.bool 4 w' w.heap.size (fun k_ => some k_ ≠ (v237 : Value).ownBlock) (.slice (some ⟨go9, 0, none⟩) x8_1.length co9) x8_2) ∧ Aside0 (Below w.heap.size w w'))
        case atStart => exact ⟨(x8_1), (1), p7_2, H', ⟨Nat.le_refl _⟩, ⟨by (try simp only [hl8_1]); (with_reducible repeat (first | apply Kd.R_alloc | apply Kd.R_drewN | apply Kd.R_drew)); exact HO_7.out⟩, ⟨by (try simp only [hl8_1]); (with_reducible repeat (first | apply Kd.R_alloc | apply Kd.R_drewN | apply Kd.R_drew)); exact HO_8.out⟩, ⟨by repeat (first | (with_reducible first | exact HB.out | apply below_alloc | apply pw_below_drewN | apply below_drew1) | exact HB.out)⟩⟩
        case round =>
         clear H'
         (try clear c15); (try clear c15b0)
         obtain ⟨x8_2, x10_2, rfl, HA, HK2, HO_7, HO_8, HB⟩ := hrel
         have hl8_2 := (Kd.R_reads' HO_8.out).1
         rw [hl8_2] at HO_8
         (try simp only [hl8_2])
         (try simp only [hl8_2] at HO_7)
         cases gk with
         | zero => exact absurd HA.out (by simp [ladderbackref34_Interval.l1])
         | succ k2 =>
          have H := HA.out
          clear HA
          simp only [ladderbackref34_Interval.l1] at H
          by_cases c16 : x10_2 < (l0.length : Int)
          ·
           rw [if_pos c16] at H
           have c16b0 : decide (x10_2 < (l0.length : Int)) = true := decide_eq_true c16
           clear c16
           have HC17 := Aside0.mk H
           clear H
           go_upto_region 10 with (fail)
           go_cut [52] from 30 to 52 (fun v52 wc => ∃ (kq : Nat) (x52_16 : Bool), v52 = .bool x52_16 ∧ Aside0 (ladderbackref34_Interval.j2 kq l0 a1 l2 t236 x8_2 x9_1 x10_2 x52_16 = some r) ∧ Aside0 (kq ≤ k2) ∧ Aside0 (Kd.R Kd.bool 4 wc w.heap.size (fun k_ => some k_ ≠ ((.slice (some ⟨go9, 0, none⟩) x8_2.length co9) : Value).ownBlock) v237 t236) ∧ Aside0 (Kd.R Kd.bool 4 wc w.heap.size (fun k_ => some k_ ≠ (v237 : Value).ownBlock) (.slice (some ⟨go9, 0, none⟩) x8_2.length co9) x8_2) ∧ Aside0 (Below w.heap.size w wc))
           case first =>
            have H := HC17.out
            clear HC17
            by_cases c18 : 0 ≤ x10_2
            ·
             rw [if_pos c18] at H
             have c18b0 : decide (0 ≤ x10_2) = true := decide_eq_true c18
             clear c18
             (first | rw [c18b0] | (simp only [i64_w, i32_w]; rw [c18b0]) | rw [c18b1] | skip)
             by_cases c19 : x10_2 < (t236.length : Int)
             ·
              rw [if_pos c19] at H
              have c19b0 : decide (x10_2 < (t236.length : Int)) = true := decide_eq_true c19
              clear c19
              by_cases c20 : rdOf false t236 x10_2 = true
              ·
               rw [if_pos c20] at H
               have c20b0 : rdOf false t236 x10_2 = true := c20
               clear c20
               by_cases c21 : x10_2 < (l2.length : Int)
               ·
                rw [if_pos c21] at H
                have c21b0 : decide (x10_2 < (l2.length : Int)) = true := decide_eq_true c21
                clear c21
                by_cases c22 : rdOf false l2 x10_2 = true
                ·
                 rw [if_pos c22] at H
                 have c22b0 : rdOf false l2 x10_2 = true := c22
                 clear c22
                 have H' := Aside0.mk H
                 clear H
                 obtain ⟨Ao23, co23, eo23⟩ := Kd.R_slice HO_7.out
                 subst eo23
                 have p243 : 0 ≤ (x10_2 : Int) := of_decide_eq_true p7_0
                 have q243 : x10_2 < (t236.length : Int) := of_decide_eq_true p7_0
                 obtain ⟨ad243, e243, hx243_0⟩ := Kd.at_bool (Kd.R_reads' HO_7.out).2.2 x10_2 p243 q243
                 cases e243
                 replace p243 := eq_true p243
                 replace q243 := eq_true q243
                 have p244 : 0 ≤ (x10_2 : Int) := of_decide_eq_true p7_0
                 have q244 : x10_2 < (l2.length : Int) := of_decide_eq_true p7_0
                 obtain ⟨ad244, e244, hx244_0⟩ := Kd.at_bool HR2.out x10_2 p244 q244
                 cases e244
                 replace hx244_0 := (HB.out.cell (World.block_lt_of_cell? w _ hx244_0)).trans hx244_0
                 replace p244 := eq_true p244
                 replace q244 := eq_true q244
                 go_wp2
                 go_meet
                 case rel => exact ⟨_, (true), p7_2, H', ⟨by have := HK1.out; have := HK2.out; first | omega | exact Nat.le_refl _⟩, ⟨by (try simp only [hl8_1]); (try simp only [hl8_2]); (with_reducible repeat (first | apply Kd.R_alloc | apply Kd.R_drewN | apply Kd.R_drew)); exact HO_7.out⟩, ⟨by (try simp only [hl8_1]); (try simp only [hl8_2]); (with_reducible repeat (first | apply Kd.R_alloc | apply Kd.R_drewN | apply Kd.R_drew)); exact HO_8.out⟩, ⟨by repeat (first | (with_reducible first | exact HB.out | apply below_alloc | apply pw_below_drewN | apply below_drew1) | exact HB.out)⟩⟩
                ·
                 rw [if_neg c22] at H
                 have c22b0 : rdOf false l2 x10_2 = false := by simpa using c22
                 clear c22
                 by_cases c24 : x10_2 < (x8_2.length : Int)
                 ·
                  rw [if_pos c24] at H
                  have c24b0 : decide (x10_2 < (x8_2.length : Int)) = true := decide_eq_true c24
                  clear c24
                  have H' := Aside0.mk H
                  clear H
                  obtain ⟨Ao25, co25, eo25⟩ := Kd.R_slice HO_7.out
                  subst eo25
                  have p243 : 0 ≤ (x10_2 : Int) := of_decide_eq_true p7_0
                  have q243 : x10_2 < (t236.length : Int) := of_decide_eq_true p7_0
                  obtain ⟨ad243, e243, hx243_0⟩ := Kd.at_bool (Kd.R_reads' HO_7.out).2.2 x10_2 p243 q243
                  cases e243
                  replace p243 := eq_true p243
                  replace q243 := eq_true q243
                  have p244 : 0 ≤ (x10_2 : Int) := of_decide_eq_true p7_0
                  have q244 : x10_2 < (l2.length : Int) := of_decide_eq_true p7_0
                  obtain ⟨ad244, e244, hx244_0⟩ := Kd.at_bool HR2.out x10_2 p244 q244
                  cases e244
                  replace hx244_0 := (HB.out.cell (World.block_lt_of_cell? w _ hx244_0)).trans hx244_0
                  replace p244 := eq_true p244
                  replace q244 := eq_true q244
                  have p245 : 0 ≤ (x10_2 : Int) := of_decide_eq_true p7_0
                  have q245 : x10_2 < (x8_2.length : Int) := of_decide_eq_true p7_0
                  obtain ⟨ad245, e245, hx245_0⟩ := Kd.at_bool (Kd.R_reads' HO_8.out).2.2 x10_2 p245 q245
                  obtain rfl : (⟨go9, 0, none⟩ : Addr) = ad245 := (by injection e245)
                  (first | simp only [add_plain] at hx245_0 | simp only [add_at] at hx245_0 | simp only [Addr.add, Nat.zero_add] at hx245_0 | skip)
                  replace p245 := eq_true p245
                  replace q245 := eq_true q245
                  go_wp2
                  go_meet
                  case rel => exact ⟨_, (rdOf false x8_2 x10_2), p7_2, H', ⟨by have := HK1.out; have := HK2.out; first | omega | exact Nat.le_refl _⟩, ⟨by (try simp only [hl8_1]); (try simp only [hl8_2]); (with_reducible repeat (first | apply Kd.R_alloc | apply Kd.R_drewN | apply Kd.R_drew)); exact HO_7.out⟩, ⟨by (try simp only [hl8_1]); (try simp only [hl8_2]); (with_reducible repeat (first | apply Kd.R_alloc | apply Kd.R_drewN | apply Kd.R_drew)); exact HO_8.out⟩, ⟨by repeat (first | (with_reducible first | exact HB.out | apply below_alloc | apply pw_below_drewN | apply below_drew1) | exact HB.out)⟩⟩
                 ·
                  rw [if_neg c24] at H
                  exact absurd H (by simp)
               ·
                rw [if_neg c21] at H
                exact absurd H (by simp)
              ·
               rw [if_neg c20] at H
               have c20b0 : rdOf false t236 x10_2 = false := by simpa using c20
               clear c20
               have H' := Aside0.mk H
               clear H
               obtain ⟨Ao26, co26, eo26⟩ := Kd.R_slice HO_7.out
               subst eo26
               have p243 : 0 ≤ (x10_2 : Int) := of_decide_eq_true p7_0
               have q243 : x10_2 < (t236.length : Int) := of_decide_eq_true p7_0
               obtain ⟨ad243, e243, hx243_0⟩ := Kd.at_bool (Kd.R_reads' HO_7.out).2.2 x10_2 p243 q243
               cases e243
               replace p243 := eq_true p243
               replace q243 := eq_true q243
               go_wp2
               go_meet
               case rel => exact ⟨_, (true), p7_2, H', ⟨by have := HK1.out; have := HK2.out; first | omega | exact Nat.le_refl _⟩, ⟨by (try simp only [hl8_1]); (try simp only [hl8_2]); (with_reducible repeat (first | apply Kd.R_alloc | apply Kd.R_drewN | apply Kd.R_drew)); exact HO_7.out⟩, ⟨by (try simp only [hl8_1]); (try simp only [hl8_2]); (with_reducible repeat (first | apply Kd.R_alloc | apply Kd.R_drewN | apply Kd.R_drew)); exact HO_8.out⟩, ⟨by repeat (first | (with_reducible first | exact HB.out | apply below_alloc | apply pw_below_drewN | apply below_drew1) | exact HB.out)⟩⟩
             ·
              rw [if_neg c19] at H
              exact absurd H (by simp)
            ·
             rw [if_neg c18] at H
             exact absurd H (by simp)
           case rest =>
            clear HC17
            (try clear c16); (try clear c16b0)
            obtain ⟨kq, x52_16, rfl, HA, HJ16, HO_7, HO_8, HB⟩ := hcut
            cases kq with
            | zero => exact absurd HA.out (by simp [ladderbackref34_Interval.j2])
            | succ kj16 =>
             have H := HA.out
             clear HA
             simp only [ladderbackref34_Interval.j2] at H
             by_cases c27 : x52_16 = true
             ·
              subst c27
              have H1 : (ladderbackref34_Interval.l1 kj16 l0 a1 l2 t236 x8_2 x9_1 (wrap64 (x10_2 + 1))) = some r := by rw [if_pos rfl] at H; exact H
              clear H
              have H := H1
              clear H1
              have H' := Aside0.mk H
              clear H
              go_wp2
              (try simp only [← hl8_2])
              go_roundg kj16
              case measure => have := HK1.out; have := HK2.out; have := HJ16.out; omega
              case rel => exact ⟨(x8_2), (wrap64 (x10_2 + 1)), p7_2, H', ⟨by have := HK1.out; have := HK2.out; have := HJ16.out; omega⟩, ⟨by (try simp only [hl8_1]); (try simp only [hl8_2]); (with_reducible repeat (first | apply Kd.R_alloc | apply Kd.R_drewN | apply Kd.R_drew)); exact HO_7.out⟩, ⟨by (try simp only [hl8_1]); (try simp only [hl8_2]); (with_reducible repeat (first | apply Kd.R_alloc | apply Kd.R_drewN | apply Kd.R_drew)); exact HO_8.out⟩, ⟨by repeat (first | (with_reducible first | exact HB.out | apply below_alloc | apply pw_below_drewN | apply below_drew1) | exact HB.out)⟩⟩
             ·
              replace c27 := Bool.eq_false_iff.mpr c27
              subst c27
              have H1 : ((ladderbackref34_from.f kj16 l0 x10_2).bind fun t246 => (ladderbackref34_Interval.l2 kj16 l0 a1 l2 t236 x8_2 x9_1 x10_2 true t246 0)) = some r := by rw [if_neg (show ¬ (false = true) by decide)] at H; exact H
              clear H
              have H := H1
              clear H1
              replace H := Option.bind_eq_some_iff.mp H
              obtain ⟨t246, A280, H⟩ := H
              replace H : (ladderbackref34_Interval.l2 kj16 l0 a1 l2 t236 x8_2 x9_1 x10_2 true t246 0) = some r := H
              have A28 := Aside0.mk A280
              clear A280
              have H' := Aside0.mk H
              clear H
              go_wp2_with (first | ((with_reducible refine gate_callee (f := 71) rfl ?_); refine goesL_ (some 55) rfl rfl Try.func71 (by kernel_rfl) rfl #[.slice A0 l0.length c0, .int .i64 x10_2] rfl p7_5 ?_; (with_reducible refine (ladderbackref34_from.calls kj16 _ _ l0 x10_2 t246 _ ?side1 ?side2 A28.out).mono ?_); (case side1 => repeat (first | exact (Kd.C_below HR0.out HB.out) | (with_reducible refine Kd.C_alloc ?_ _) | (with_reducible refine Kd.C_drewN ?_ _) | (with_reducible refine Kd.C_drew ?_))); (case side2 => exact HC0.out); rintro e w29 ⟨v247, rfl, ho0, hb⟩; refine ⟨_, rfl, ?_⟩; have n0_ := Aside0.mk (Kd.R_below (by (with_reducible repeat (first | apply Kd.R_alloc | apply Kd.R_drewN | apply Kd.R_drew)); exact HO_7.out) hb); have n1_ := Aside0.mk (Kd.R_below p7_4 hb); have n2_ := Aside0.mk (Kd.R_lower ho0 (below_size p7_1)); have n3_ := Aside0.mk (below_step p7_1 hb); clear HO_7; clear HO_8; clear HB; have HO_7 := n0_; have HO_8 := n1_; have HO248 := n2_; have HB := n3_; clear n0_ n1_ n2_ n3_; (try clear hb); (try clear hb2); (try clear hk); (try clear hi); (try clear ho0)))
              go_loopg [11, 13] kj16 (fun kq v11 v13 w' => ∃ (x11_4 : Bool) (x13_4 : Int), v11 = .bool x11_4 ∧ v13 = .int .i64 x13_4 ∧ Aside0 (ladderbackref34_Interval.l2 kq l0 a1 l2 t236 x8_2 x9_1 x10_2 x11_4 t246 x13_4 = some r) ∧ Aside0 (kq ≤ kj16) ∧ Aside0 (Kd.R Kd.bool 4 w' w.heap.size (fun k_ => some k_ ≠ ((.slice (some ⟨go9, 0, none⟩) x8_2.length co9) : Value).ownBlock) v237 t236) ∧ Aside0 (Kd.R Kd.bool 4 w' w.heap.size (fun k_ => some k_ ≠ (v237 : Value).ownBlock) (.slice (some ⟨go9, 0, none⟩) x8_2.length co9) x8_2) ∧ Aside0 (Kd.R (Kd.int .i64) 3 w' w.heap.size (fun _ => True) v247 t246) ∧ Aside0 (Below w.heap.size w w'))
              case atStart => exact ⟨(true), (0), p7_2, p7_2, H', ⟨Nat.le_refl _⟩, ⟨by (try simp only [hl8_1]); (try simp only [hl8_2]); (with_reducible repeat (first | apply Kd.R_alloc | apply Kd.R_drewN | apply Kd.R_drew)); exact HO_7.out⟩, ⟨by (try simp only [hl8_1]); (try simp only [hl8_2]); (with_reducible repeat (first | apply Kd.R_alloc | apply Kd.R_drewN | apply Kd.R_drew)); exact HO_8.out⟩, ⟨by (try simp only [hl8_1]); (try simp only [hl8_2]); (with_reducible repeat (first | apply Kd.R_alloc | apply Kd.R_drewN | apply Kd.R_drew)); exact HO248.out⟩, ⟨by repeat (first | (with_reducible first | exact HB.out | apply below_alloc | apply pw_below_drewN | apply below_drew1) | exact HB.out)⟩⟩
              case round =>
               clear H'
               try clear c27
               obtain ⟨x11_4, x13_4, rfl, rfl, HA, HK4, HO_7, HO_8, HO_12, HB⟩ := hrel
               cases gk with
               | zero => exact absurd HA.out (by simp [ladderbackref34_Interval.l2])
               | succ k4 =>
                have H := HA.out
                clear HA
                simp only [ladderbackref34_Interval.l2] at H
                by_cases c30 : x13_4 < (t246.length : Int)
                ·
                 rw [if_pos c30] at H
                 have c30b0 : decide (x13_4 < (t246.length : Int)) = true := decide_eq_true c30
                 clear c30
                 by_cases c31 : x11_4 = true
                 ·
                  subst c31
                  have H1 : (if 0 ≤ x13_4 then (if 0 ≤ (rd t246 x13_4) then (if (rd t246 x13_4) < (x8_2.length : Int) then (if rdOf false x8_2 (rd t246 x13_4) = true then (ladderbackref34_Interval.l2 k4 l0 a1 l2 t236 x8_2 x9_1 x10_2 true t246 (wrap64 (x13_4 + 1))) else (ladderbackref34_Interval.l2 k4 l0 a1 l2 t236 x8_2 x9_1 x10_2 ((rd t246 x13_4) == x10_2) t246 (wrap64 (x13_4 + 1)))) else (none)) else (none)) else (none)) = some r := by rw [if_pos rfl] at H; exact H
                  clear H
                  have H := H1
                  clear H1
                  by_cases c32 : 0 ≤ x13_4
                  ·
                   rw [if_pos c32] at H
                   have c32b0 : decide (0 ≤ x13_4) = true := decide_eq_true c32
                   clear c32
                   by_cases c33 : 0 ≤ (rd t246 x13_4)
                   ·
                    rw [if_pos c33] at H
                    have c33b0 : decide (0 ≤ (rd t246 x13_4)) = true := decide_eq_true c33
                    clear c33
                    by_cases c34 : (rd t246 x13_4) < (x8_2.length : Int)
                    ·
                     rw [if_pos c34] at H
                     have c34b0 : decide ((rd t246 x13_4) < (x8_2.length : Int)) = true := decide_eq_true c34
                     clear c34
                     obtain ⟨bq35, hbq35⟩ : ∃ b_ : Bool, b_ = (rdOf false x8_2 (rd t246 x13_4)) := ⟨_, rfl⟩
                     replace H : (if bq35 = true then (ladderbackref34_Interval.l2 k4 l0 a1 l2 t236 x8_2 x9_1 x10_2 true t246 (wrap64 (x13_4 + 1))) else (ladderbackref34_Interval.l2 k4 l0 a1 l2 t236 x8_2 x9_1 x10_2 ((rd t246 x13_4) == x10_2) t246 (wrap64 (x13_4 + 1)))) = some r := by rw [← hbq35] at H; exact H
                     have Nbq35 := Aside0.mk hbq35
                     clear hbq35
                     (try rw [← Nbq35.out])
                     by_cases c36 : bq35 = true
                     ·
                      subst c36
                      have H1 : (ladderbackref34_Interval.l2 k4 l0 a1 l2 t236 x8_2 x9_1 x10_2 true t246 (wrap64 (x13_4 + 1))) = some r := by rw [if_pos rfl] at H; exact H
                      clear H
                      have H := H1
                      clear H1
                      have H' := Aside0.mk H
                      clear H
                      obtain ⟨Ao37, co37, eo37⟩ := Kd.R_slice HO_12.out
                      subst eo37
                      have p249 : 0 ≤ (x13_4 : Int) := of_decide_eq_true p7_0
                      have q249 : x13_4 < (t246.length : Int) := of_decide_eq_true p7_0
                      obtain ⟨ad249, e249, hx249_0⟩ := Kd.at_int (Kd.R_reads' HO_12.out).2.2 x13_4 p249 q249
                      cases e249
                      replace p249 := eq_true p249
                      replace q249 := eq_true q249
                      have p250 : 0 ≤ ((rd t246 x13_4) : Int) := of_decide_eq_true p7_0
                      have q250 : (rd t246 x13_4) < (x8_2.length : Int) := of_decide_eq_true p7_0
                      obtain ⟨ad250, e250, hx250_0⟩ := Kd.at_bool (Kd.R_reads' HO_8.out).2.2 (rd t246 x13_4) p250 q250
                      (try rw [← Nbq35.out] at hx250_0)
                      obtain rfl : (⟨go9, 0, none⟩ : Addr) = ad250 := (by injection e250)
                      (first | simp only [add_plain] at hx250_0 | simp only [add_at] at hx250_0 | simp only [Addr.add, Nat.zero_add] at hx250_0 | skip)
                      replace p250 := eq_true p250
                      replace q250 := eq_true q250
                      go_wp2
                      go_roundg k4
                      case measure => have := HK1.out; have := HK2.out; have := HJ16.out; have := HK4.out; omega
                      case rel => exact ⟨(true), (wrap64 (x13_4 + 1)), p7_2, p7_2, H', ⟨by have := HK1.out; have := HK2.out; have := HJ16.out; have := HK4.out; omega⟩, ⟨by (try simp only [hl8_1]); (try simp only [hl8_2]); (with_reducible repeat (first | apply Kd.R_alloc | apply Kd.R_drewN | apply Kd.R_drew)); exact HO_7.out⟩, ⟨by (try simp only [hl8_1]); (try simp only [hl8_2]); (with_reducible repeat (first | apply Kd.R_alloc | apply Kd.R_drewN | apply Kd.R_drew)); exact HO_8.out⟩, ⟨by (try simp only [hl8_1]); (try simp only [hl8_2]); (with_reducible repeat (first | apply Kd.R_alloc | apply Kd.R_drewN | apply Kd.R_drew)); exact HO_12.out⟩, ⟨by repeat (first | (with_reducible first | exact HB.out | apply below_alloc | apply pw_below_drewN | apply below_drew1) | exact HB.out)⟩⟩
                     ·
                      replace c36 := Bool.eq_false_iff.mpr c36
                      subst c36
                      have H1 : (ladderbackref34_Interval.l2 k4 l0 a1 l2 t236 x8_2 x9_1 x10_2 ((rd t246 x13_4) == x10_2) t246 (wrap64 (x13_4 + 1))) = some r := by rw [if_neg (show ¬ (false = true) by decide)] at H; exact H
                      clear H
                      have H := H1
                      clear H1
                      have H' := Aside0.mk H
                      clear H
                      obtain ⟨Ao38, co38, eo38⟩ := Kd.R_slice HO_12.out
                      subst eo38
                      have p249 : 0 ≤ (x13_4 : Int) := of_decide_eq_true p7_0
                      have q249 : x13_4 < (t246.length : Int) := of_decide_eq_true p7_0
                      obtain ⟨ad249, e249, hx249_0⟩ := Kd.at_int (Kd.R_reads' HO_12.out).2.2 x13_4 p249 q249
                      cases e249
                      replace p249 := eq_true p249
                      replace q249 := eq_true q249
                      have p250 : 0 ≤ ((rd t246 x13_4) : Int) := of_decide_eq_true p7_0
                      have q250 : (rd t246 x13_4) < (x8_2.length : Int) := of_decide_eq_true p7_0
                      obtain ⟨ad250, e250, hx250_0⟩ := Kd.at_bool (Kd.R_reads' HO_8.out).2.2 (rd t246 x13_4) p250 q250
                      (try rw [← Nbq35.out] at hx250_0)
                      obtain rfl : (⟨go9, 0, none⟩ : Addr) = ad250 := (by injection e250)
                      (first | simp only [add_plain] at hx250_0 | simp only [add_at] at hx250_0 | simp only [Addr.add, Nat.zero_add] at hx250_0 | skip)
                      replace p250 := eq_true p250
                      replace q250 := eq_true q250
                      have p251 : 0 ≤ (x13_4 : Int) := of_decide_eq_true p7_0
                      have q251 : x13_4 < (t246.length : Int) := of_decide_eq_true p7_0
                      obtain ⟨ad251, e251, hx251_0⟩ := Kd.at_int (Kd.R_reads' HO_12.out).2.2 x13_4 p251 q251
                      obtain rfl : ad249 = ad251 := (by injection e251)
                      replace p251 := eq_true p251
                      replace q251 := eq_true q251
                      go_wp2
                      go_roundg k4
                      case measure => have := HK1.out; have := HK2.out; have := HJ16.out; have := HK4.out; omega
                      case rel => exact ⟨(((rd t246 x13_4) == x10_2)), (wrap64 (x13_4 + 1)), p7_2, p7_2, H', ⟨by have := HK1.out; have := HK2.out; have := HJ16.out; have := HK4.out; omega⟩, ⟨by (try simp only [hl8_1]); (try simp only [hl8_2]); (with_reducible repeat (first | apply Kd.R_alloc | apply Kd.R_drewN | apply Kd.R_drew)); exact HO_7.out⟩, ⟨by (try simp only [hl8_1]); (try simp only [hl8_2]); (with_reducible repeat (first | apply Kd.R_alloc | apply Kd.R_drewN | apply Kd.R_drew)); exact HO_8.out⟩, ⟨by (try simp only [hl8_1]); (try simp only [hl8_2]); (with_reducible repeat (first | apply Kd.R_alloc | apply Kd.R_drewN | apply Kd.R_drew)); exact HO_12.out⟩, ⟨by repeat (first | (with_reducible first | exact HB.out | apply below_alloc | apply pw_below_drewN | apply below_drew1) | exact HB.out)⟩⟩
                    ·
                     rw [if_neg c34] at H
                     exact absurd H (by simp)
                   ·
                    rw [if_neg c33] at H
                    exact absurd H (by simp)
                  ·
                   rw [if_neg c32] at H
                   exact absurd H (by simp)
                 ·
                  replace c31 := Bool.eq_false_iff.mpr c31
                  subst c31
                  have H1 : (ladderbackref34_Interval.l2 k4 l0 a1 l2 t236 x8_2 x9_1 x10_2 false t246 (wrap64 (x13_4 + 1))) = some r := by rw [if_neg (show ¬ (false = true) by decide)] at H; exact H
                  clear H
                  have H := H1
                  clear H1
                  have H' := Aside0.mk H
                  clear H
                  obtain ⟨Ao39, co39, eo39⟩ := Kd.R_slice HO_12.out
                  subst eo39
                  go_wp2
                  go_roundg k4
                  case measure => have := HK1.out; have := HK2.out; have := HJ16.out; have := HK4.out; omega
                  case rel => exact ⟨(false), (wrap64 (x13_4 + 1)), p7_2, p7_2, H', ⟨by have := HK1.out; have := HK2.out; have := HJ16.out; have := HK4.out; omega⟩, ⟨by (try simp only [hl8_1]); (try simp only [hl8_2]); (with_reducible repeat (first | apply Kd.R_alloc | apply Kd.R_drewN | apply Kd.R_drew)); exact HO_7.out⟩, ⟨by (try simp only [hl8_1]); (try simp only [hl8_2]); (with_reducible repeat (first | apply Kd.R_alloc | apply Kd.R_drewN | apply Kd.R_drew)); exact HO_8.out⟩, ⟨by (try simp only [hl8_1]); (try simp only [hl8_2]); (with_reducible repeat (first | apply Kd.R_alloc | apply Kd.R_drewN | apply Kd.R_drew)); exact HO_12.out⟩, ⟨by repeat (first | (with_reducible first | exact HB.out | apply below_alloc | apply pw_below_drewN | apply below_drew1) | exact HB.out)⟩⟩
                ·
                 rw [if_neg c30] at H
                 have c30b0 : decide (x13_4 < (t246.length : Int)) = false := decide_eq_false c30
                 clear c30
                 by_cases c40 : 0 ≤ x10_2
                 ·
                  rw [if_pos c40] at H
                  have c40b0 : decide (0 ≤ x10_2) = true := decide_eq_true c40
                  clear c40
                  by_cases c41 : x10_2 < (x8_2.length : Int)
                  ·
                   rw [if_pos c41] at H
                   have c41b0 : decide (x10_2 < (x8_2.length : Int)) = true := decide_eq_true c41
                   clear c41
                   obtain ⟨y252, hy252⟩ : ∃ y_ : List Bool, y_ = (x8_2.set (x10_2 : Int).toNat x11_4) := ⟨_, rfl⟩
                   replace H : (ladderbackref34_Interval.l1 k4 l0 a1 l2 t236 y252 x9_1 (wrap64 (x10_2 + 1))) = some r := by first | (rw [hy252]; with_reducible exact H) | (have H2_ := (Option.bind_some _ _).symm.trans H; rw [hy252]; with_reducible exact H2_) | (have H2_ := (Option.bind_some _ _).symm.trans H; with_reducible exact H2_) | with_reducible exact H | (rw [hy252]; exact H) | exact H
                   have Ny252 := Aside0.mk hy252
                   clear hy252
                   have H' := Aside0.mk H
                   clear H
                   obtain ⟨Ao43, co43, eo43⟩ := Kd.R_slice HO_12.out
                   subst eo43
                   have p42 : 0 ≤ (x10_2 : Int) := of_decide_eq_true p7_0
                   have q42 : (x10_2 : Int) < ((x8_2.length : Int) : Int) := of_decide_eq_true p7_0
                   obtain ⟨hx42_0, hf42_0⟩ := Kd.R_celln false HO_8.out (x10_2 : Int) p42 q42
                   replace p42 := eq_true p42
                   replace q42 := eq_true q42
                   have HP44 := Kd.R_putg HO_8.out (x10_2 : Int) x11_4
                   go_wp2_with (first | ((with_reducible refine gate_store (t := 4) (p := 83) rfl ?_); refine store_event (t := 4) (p := 83) (v := ?vo_w45) (w1 := (wr.setCell ⟨go9, (x10_2 : Int).toNat, none⟩ (.bool x11_4))) ?hg ?ho ?hn ?hr ?_; (case ho => rfl); (case hg => rfl); (case hn => rfl); (case hr => first | (go_simp; done) | (go_simp; rfl)); intro w45 hw; have hg : wr.grownBy w45 (some go9) := (by rw [hw]; exact HP44.2); have hp_ : Kd.R Kd.bool 4 w45 w.heap.size (fun k_ => some k_ ≠ (v237 : Value).ownBlock) (.slice (some ⟨go9, 0, none⟩) x8_2.length co9) y252 := (by rw [hw, Ny252.out]; exact HP44.1); clear HP44; have n0_ := Aside0.mk (Kd.R_after (v := (.slice (some ⟨go9, 0, none⟩) x8_2.length co9)) (v1 := (.slice (some ⟨go9, 0, none⟩) x8_2.length co9)) (ok := (fun _ => True)) (by (with_reducible repeat (first | apply Kd.R_alloc | apply Kd.R_drewN | apply Kd.R_drew)); exact Kd.R_mono HO_7.out (fun _ hk => ⟨trivial, hk⟩)) hg (.inl rfl)); have n1_ := Aside0.mk (hp_); have n2_ := Aside0.mk (Kd.R_over' (v := (.slice (some ⟨go9, 0, none⟩) x8_2.length co9)) (by (with_reducible repeat (first | apply Kd.R_alloc | apply Kd.R_drewN | apply Kd.R_drew)); exact HO_12.out) (Kd.R_typed HO_8.out) (by decide) hg); have n3_ := Aside0.mk ((by rw [hw]; exact below_set (HB.out) GB9.out : Below w.heap.size w w45)); clear HO_7; clear HO_8; clear HO_12; clear HB; have HO_7 := n0_; have HO_8 := n1_; have HO_12 := n2_; have HB := n3_; clear n0_ n1_ n2_ n3_; clear hg hw hp_))
                   (try simp only [← hl8_2])
                   go_roundg k4
                   case measure => have := HK1.out; have := HK2.out; have := HJ16.out; have := HK4.out; omega
                   case rel => exact ⟨(y252), (wrap64 (x10_2 + 1)), p7_2, H', ⟨by have := HK1.out; have := HK2.out; have := HJ16.out; have := HK4.out; omega⟩, ⟨by (try simp only [hl8_1]); (try simp only [hl8_2]); (with_reducible repeat (first | apply Kd.R_alloc | apply Kd.R_drewN | apply Kd.R_drew)); exact Kd.R_mono HO_7.out (fun _ hk => hk.2)⟩, ⟨by (try simp only [hl8_1]); (try simp only [hl8_2]); (with_reducible repeat (first | apply Kd.R_alloc | apply Kd.R_drewN | apply Kd.R_drew)); exact HO_8.out⟩, ⟨by repeat (first | (with_reducible first | exact HB.out | apply below_alloc | apply pw_below_drewN | apply below_drew1) | exact HB.out)⟩⟩
                  ·
                   rw [if_neg c41] at H
                   exact absurd H (by simp)
                 ·
                  rw [if_neg c40] at H
                  exact absurd H (by simp)
          ·
           rw [if_neg c16] at H
           have c16b0 : decide (x10_2 < (l0.length : Int)) = false := decide_eq_false c16
           clear c16
           have H' := Aside0.mk H
           clear H
           go_wp2
           (try simp only [← hl8_1, ← hl8_2])
           go_roundg k2
           case measure => have := HK1.out; have := HK2.out; omega
           case rel => exact ⟨(x8_2), (wrap64 (x9_1 + 1)), p7_2, H', ⟨by have := HK1.out; have := HK2.out; omega⟩, ⟨by (try simp only [hl8_1]); (try simp only [hl8_2]); (with_reducible repeat (first | apply Kd.R_alloc | apply Kd.R_drewN | apply Kd.R_drew)); exact HO_7.out⟩, ⟨by (try simp only [hl8_1]); (try simp only [hl8_2]); (with_reducible repeat (first | apply Kd.R_alloc | apply Kd.R_drewN | apply Kd.R_drew)); exact HO_8.out⟩, ⟨by repeat (first | (with_reducible first | exact HB.out | apply below_alloc | apply pw_below_drewN | apply below_drew1) | exact HB.out)⟩⟩
       ·
        rw [if_neg c15] at H
        have c15b0 : decide (x9_1 < (l0.length : Int)) = false := decide_eq_false c15
        clear c15
        obtain ⟨y253, hy253⟩ : ∃ y_ : List Int, y_ = (([a1] : List Int)) := ⟨_, rfl⟩
        replace H : (ladderbackref34_Interval.l3 k1 l0 a1 x8_1 y253 0) = some r := by first | (rw [hy253]; with_reducible exact H) | (have H2_ := (Option.bind_some _ _).symm.trans H; rw [hy253]; with_reducible exact H2_) | (have H2_ := (Option.bind_some _ _).symm.trans H; with_reducible exact H2_) | with_reducible exact H | (rw [hy253]; exact H) | exact H
        have Ny253 := Aside0.mk hy253
        clear hy253
        have H' := Aside0.mk H
        clear H
        go_wp2_with (first | ((with_reducible refine gate_dst (N := 85) rfl ?_); refine Kd.R_lit (Kd.int .i64) _ 3 ?hg (N := 85) ?hd (xs := ([a1] : List Int)) (inner := [.int .i64 a1]) (ok := fun _ => True) (okp := fun _ => True) ?hr ?hp (fun _ hk => hk) trivial (Below.refl _ _) (Nat.le_refl _) (by simp) ?_; (case hd => rfl); (case hg => rfl); (case hr => first | (go_simp; done) | (go_simp; rfl)); (case hp => exact (Reps.one (show Kd.M (Kd.int .i64) _ _ _ a1 [.int .i64 a1] from rfl) (Reps.none _ _))); intro v254 w46 ho47 hb hg_ hnew_; clear hg_ hnew_; (first | rw [← Ny253.out] at ho47 | (simp only [Int.reduceToNat] at ho47; rw [← Ny253.out] at ho47)); have n0_ := Aside0.mk (Kd.R_below (by (with_reducible repeat (first | apply Kd.R_alloc | apply Kd.R_drewN | apply Kd.R_drew)); exact HO_7.out) hb); have n1_ := Aside0.mk (Kd.R_below p7_4 hb); have n2_ := Aside0.mk (Kd.R_lower ho47 (below_size p7_1)); have n3_ := Aside0.mk (below_step p7_1 hb); clear HO_7; clear HO_8; clear HB; have HO_7 := n0_; have HO_8 := n1_; have HO255 := n2_; have HB := n3_; clear n0_ n1_ n2_ n3_; clear hb ho47))
        go_loopg [14, 15] k1 (fun kq v14 v15 w' => ∃ (x14_2 : List Int) (x15_2 : Int), v15 = .int .i64 x15_2 ∧ Aside0 (ladderbackref34_Interval.l3 kq l0 a1 x8_1 x14_2 x15_2 = some r) ∧ Aside0 (kq ≤ k1) ∧ Aside0 (Kd.R Kd.bool 4 w' w.heap.size (fun _ => True) (.slice (some ⟨go9, 0, none⟩) x8_1.length co9) x8_1) ∧ Aside0 (Kd.R (Kd.int .i64) 3 w' w.heap.size (fun _ => True) v14 x14_2) ∧ Aside0 (Below w.heap.size w w'))
        case atStart => exact ⟨(y253), (0), p7_2, H', ⟨Nat.le_refl _⟩, ⟨by (try simp only [hl8_1]); (with_reducible repeat (first | apply Kd.R_alloc | apply Kd.R_drewN | apply Kd.R_drew)); exact Kd.R_mono HO_8.out (fun _ hk => trivial)⟩, ⟨by (try simp only [hl8_1]); (with_reducible repeat (first | apply Kd.R_alloc | apply Kd.R_drewN | apply Kd.R_drew)); exact HO255.out⟩, ⟨by repeat (first | (with_reducible first | exact HB.out | apply below_alloc | apply pw_below_drewN | apply below_drew1) | exact HB.out)⟩⟩
        case round =>
         clear H'
         (try clear c15); (try clear c15b0)
         obtain ⟨x14_2, x15_2, rfl, HA, HK2, HO_8, HO_14, HB⟩ := hrel
         cases gk with
         | zero => exact absurd HA.out (by simp [ladderbackref34_Interval.l3])
         | succ k2 =>
          have H := HA.out
          clear HA
          simp only [ladderbackref34_Interval.l3] at H
          by_cases c48 : x15_2 < (l0.length : Int)
          ·
           rw [if_pos c48] at H
           have c48b0 : decide (x15_2 < (l0.length : Int)) = true := decide_eq_true c48
           clear c48
           by_cases c49 : 0 ≤ x15_2
           ·
            rw [if_pos c49] at H
            have c49b0 : decide (0 ≤ x15_2) = true := decide_eq_true c49
            clear c49
            by_cases c50 : x15_2 < (x8_1.length : Int)
            ·
             rw [if_pos c50] at H
             have c50b0 : decide (x15_2 < (x8_1.length : Int)) = true := decide_eq_true c50
             clear c50
             obtain ⟨bq51, hbq51⟩ : ∃ b_ : Bool, b_ = (rdOf false x8_1 x15_2) := ⟨_, rfl⟩
             replace H : (if bq51 = true then (if x15_2 = a1 then (ladderbackref34_Interval.l3 k2 l0 a1 x8_1 x14_2 (wrap64 (x15_2 + 1))) else (if x14_2.length < 17592186044416 then (ladderbackref34_Interval.l3 k2 l0 a1 x8_1 (x14_2 ++ [x15_2]) (wrap64 (x15_2 + 1))) else (none))) else (ladderbackref34_Interval.l3 k2 l0 a1 x8_1 x14_2 (wrap64 (x15_2 + 1)))) = some r := by rw [← hbq51] at H; exact H
             have Nbq51 := Aside0.mk hbq51
             clear hbq51
             (try rw [← Nbq51.out])
             by_cases c52 : bq51 = true
             ·
              subst c52
              have H1 : (if x15_2 = a1 then (ladderbackref34_Interval.l3 k2 l0 a1 x8_1 x14_2 (wrap64 (x15_2 + 1))) else (if x14_2.length < 17592186044416 then (ladderbackref34_Interval.l3 k2 l0 a1 x8_1 (x14_2 ++ [x15_2]) (wrap64 (x15_2 + 1))) else (none))) = some r := by rw [if_pos rfl] at H; exact H
              clear H
              have H := H1
              clear H1
              by_cases c53 : x15_2 = a1
              ·
               rw [if_pos c53] at H
               have c53b0 : (x15_2 == a1) = true := beq_iff_eq.mpr c53
               have c53b1 : (x15_2 != a1) = false := bne_eq_false_iff_eq.mpr c53
               clear c53
               have H' := Aside0.mk H
               clear H
               have p256 : 0 ≤ (x15_2 : Int) := of_decide_eq_true p7_0
               have q256 : x15_2 < (x8_1.length : Int) := of_decide_eq_true p7_0
               obtain ⟨ad256, e256, hx256_0⟩ := Kd.at_bool (Kd.R_reads' HO_8.out).2.2 x15_2 p256 q256
               (try rw [← Nbq51.out] at hx256_0)
               obtain rfl : (⟨go9, 0, none⟩ : Addr) = ad256 := (by injection e256)
               (first | simp only [add_plain] at hx256_0 | simp only [add_at] at hx256_0 | simp only [Addr.add, Nat.zero_add] at hx256_0 | skip)
               replace p256 := eq_true p256
               replace q256 := eq_true q256
               go_wp2
               go_roundg k2
               case measure => have := HK1.out; have := HK2.out; omega
               case rel => exact ⟨(x14_2), (wrap64 (x15_2 + 1)), p7_2, H', ⟨by have := HK1.out; have := HK2.out; omega⟩, ⟨by (try simp only [hl8_1]); (with_reducible repeat (first | apply Kd.R_alloc | apply Kd.R_drewN | apply Kd.R_drew)); exact HO_8.out⟩, ⟨by (try simp only [hl8_1]); (with_reducible repeat (first | apply Kd.R_alloc | apply Kd.R_drewN | apply Kd.R_drew)); exact HO_14.out⟩, ⟨by repeat (first | (with_reducible first | exact HB.out | apply below_alloc | apply pw_below_drewN | apply below_drew1) | exact HB.out)⟩⟩
              ·
               rw [if_neg c53] at H
               have c53b0 : (x15_2 == a1) = false := beq_eq_false_iff_ne.mpr c53
               have c53b1 : (x15_2 != a1) = true := bne_iff_ne.mpr c53
               by_cases c54 : x14_2.length < 17592186044416
               ·
                rw [if_pos c54] at H
                have LMc54 := Aside0.mk c54
                clear c54
                obtain ⟨y257, hy257⟩ : ∃ y_ : List Int, y_ = (x14_2 ++ [x15_2]) := ⟨_, rfl⟩
                replace H : (ladderbackref34_Interval.l3 k2 l0 a1 x8_1 y257 (wrap64 (x15_2 + 1))) = some r := by first | (rw [hy257]; with_reducible exact H) | (have H2_ := (Option.bind_some _ _).symm.trans H; rw [hy257]; with_reducible exact H2_) | (have H2_ := (Option.bind_some _ _).symm.trans H; with_reducible exact H2_) | with_reducible exact H | (rw [hy257]; exact H) | exact H
                have Ny257 := Aside0.mk hy257
                clear hy257
                have H' := Aside0.mk H
                clear H
                have p256 : 0 ≤ (x15_2 : Int) := of_decide_eq_true p7_0
                have q256 : x15_2 < (x8_1.length : Int) := of_decide_eq_true p7_0
                obtain ⟨ad256, e256, hx256_0⟩ := Kd.at_bool (Kd.R_reads' HO_8.out).2.2 x15_2 p256 q256
                (try rw [← Nbq51.out] at hx256_0)
                obtain rfl : (⟨go9, 0, none⟩ : Addr) = ad256 := (by injection e256)
                (first | simp only [add_plain] at hx256_0 | simp only [add_at] at hx256_0 | simp only [Addr.add, Nat.zero_add] at hx256_0 | skip)
                replace p256 := eq_true p256
                replace q256 := eq_true q256
                go_wp2_with (first | ((with_reducible refine gate_builtin (b := .append) (xs := #[.tmp 101, .tmp 103]) rfl ?_); at_builtin; refine Kd.R_append (Kd.int .i64) (w0 := w) w.heap.size rfl (.tmp 101) (.tmp 103) 27 3 (.int .i64 0) 8 rfl Try.underlying27 info3 rfl (by decide) (by omega) u14 x14_2 x15_2 [.int .i64 x15_2] (fun _ => True) (fun _ => False) rfl rfl ?aP (fun _ hk => hk.elim) ?aF ?aO ?aB ?aS ?aL ?_; (case aP => exact rfl); (case aB => exact p7_1); (case aF => exact (fun _ _ => trivial)); (case aO => exact (by (with_reducible repeat (first | apply Kd.R_alloc | apply Kd.R_drewN | apply Kd.R_drew)); exact HO_14.out)); (case aS => exact (below_size p7_1)); (case aL => have := LMc54.out; omega); intro v258 w55 ho hb hg hat; rw [← Ny257.out] at ho; have n0_ := Aside0.mk (Kd.R_over' p7_4 (Kd.R_typed (by (with_reducible repeat (first | apply Kd.R_alloc | apply Kd.R_drewN | apply Kd.R_drew)); exact HO_14.out)) (by decide) hg); have n1_ := Aside0.mk (hb); have n2_ := Aside0.mk (ho); clear HO_8; clear HB; clear HO_14; have HO_8 := n0_; have HB := n1_; have HO259 := n2_; clear n0_ n1_ n2_; clear ho hb hg hat))
                go_roundg k2
                case measure => have := HK1.out; have := HK2.out; omega
                case rel => exact ⟨(y257), (wrap64 (x15_2 + 1)), p7_2, H', ⟨by have := HK1.out; have := HK2.out; omega⟩, ⟨by (try simp only [hl8_1]); (with_reducible repeat (first | apply Kd.R_alloc | apply Kd.R_drewN | apply Kd.R_drew)); exact HO_8.out⟩, ⟨by (try simp only [hl8_1]); (with_reducible repeat (first | apply Kd.R_alloc | apply Kd.R_drewN | apply Kd.R_drew)); exact HO259.out⟩, ⟨by repeat (first | (with_reducible first | exact HB.out | apply below_alloc | apply pw_below_drewN | apply below_drew1) | exact HB.out)⟩⟩
               ·
                rw [if_neg c54] at H
                exact absurd H (by simp)
             ·
              replace c52 := Bool.eq_false_iff.mpr c52
              subst c52
              have H1 : (ladderbackref34_Interval.l3 k2 l0 a1 x8_1 x14_2 (wrap64 (x15_2 + 1))) = some r := by rw [if_neg (show ¬ (false = true) by decide)] at H; exact H
              clear H
              have H := H1
              clear H1
              have H' := Aside0.mk H
              clear H
              have p256 : 0 ≤ (x15_2 : Int) := of_decide_eq_true p7_0
              have q256 : x15_2 < (x8_1.length : Int) := of_decide_eq_true p7_0
              obtain ⟨ad256, e256, hx256_0⟩ := Kd.at_bool (Kd.R_reads' HO_8.out).2.2 x15_2 p256 q256
              (try rw [← Nbq51.out] at hx256_0)
              obtain rfl : (⟨go9, 0, none⟩ : Addr) = ad256 := (by injection e256)
              (first | simp only [add_plain] at hx256_0 | simp only [add_at] at hx256_0 | simp only [Addr.add, Nat.zero_add] at hx256_0 | skip)
              replace p256 := eq_true p256
              replace q256 := eq_true q256
              go_wp2
              go_roundg k2
              case measure => have := HK1.out; have := HK2.out; omega
              case rel => exact ⟨(x14_2), (wrap64 (x15_2 + 1)), p7_2, H', ⟨by have := HK1.out; have := HK2.out; omega⟩, ⟨by (try simp only [hl8_1]); (with_reducible repeat (first | apply Kd.R_alloc | apply Kd.R_drewN | apply Kd.R_drew)); exact HO_8.out⟩, ⟨by (try simp only [hl8_1]); (with_reducible repeat (first | apply Kd.R_alloc | apply Kd.R_drewN | apply Kd.R_drew)); exact HO_14.out⟩, ⟨by repeat (first | (with_reducible first | exact HB.out | apply below_alloc | apply pw_below_drewN | apply below_drew1) | exact HB.out)⟩⟩
            ·
             rw [if_neg c50] at H
             exact absurd H (by simp)
           ·
            rw [if_neg c49] at H
            exact absurd H (by simp)
          ·
           rw [if_neg c48] at H
           have c48b0 : decide (x15_2 < (l0.length : Int)) = false := decide_eq_false c48
           clear c48
           obtain rfl := Option.some.inj H
           go_wp2
           go_ret
           exact ⟨_, by first | rfl | (simp [errW_none, errW_some] <;> rfl) | (simp [*, errW_none, errW_some] <;> rfl), by (with_reducible repeat (first | apply Kd.R_alloc | apply Kd.R_drewN | apply Kd.R_drew)); exact HO_14.out, by repeat (first | (with_reducible first | exact HB.out | apply below_alloc | apply pw_below_drewN | apply below_drew1) | exact HB.out)⟩
    ·
     rw [if_neg c8] at H
     exact absurd H (by simp)
   ·
    rw [if_neg c7] at H
    exact absurd H (by simp)
  ·
   rw [if_neg c6] at H
   exact absurd H (by simp)
 ·
  rw [if_neg c5] at H
  exact absurd H (by simp)

end Go.Proofs.Ytfiffhcpgojkhaa.QInterParts
