-- Printed by a program of this session's over the kit's printer (wip/patch_print.py).
import Derived.Test.YtfiffhcpgojkhaaQInterOncex0
import Derived.Test.YtfiffhcpgojkhaaQInterOncex1
import Derived.Test.YtfiffhcpgojkhaaQInterOncex3
import Derived.Test.YtfiffhcpgojkhaaQInterOncex4
namespace Go.Proofs.Ytfiffhcpgojkhaa.QInterOnce
open Go.RowKit Go.Proofs.Ytfiffhcpgojkhaa Go.Proofs.YtfiffhcpgojkhaaW.PrintWords Go.Proofs.YtfiffhcpgojkhaaW.PrintLast Go.Proofs.YtfiffhcpgojkhaaW.PrintMore
attribute [local go_sem] setCell_drewN0 max2_int min2_int max_two min_two max_three min_three max_four min_four   -- for this text's walks alone
set_option linter.unusedVariables false
set_option linter.unusedSimpArgs false

/-! ### ladderbacklaw34_InterOnce: function 12 -/
theorem p5_0 {P : Prop} (h : P := by first | (with_reducible assumption) | assumption) : P := h
theorem p5_1 {P : Prop} (h : P := by repeat (first | (with_reducible first | exact HB.out | apply below_alloc | apply pw_below_drewN | apply below_drew1) | exact HB.out)) : P := h
theorem p5_2 {P : Prop} (h : P := by (try simp only [List.map_toArray, List.map_cons, List.map_nil]); first | done | rfl | (simp only [List.length_drop, List.length_take]; rfl)) : P := h
theorem p5_3 {P : Prop} (h : P := by first | rfl | (simp; done) | (simp [*]; done)) : P := h
theorem p5_4 {P : Prop} (h : P := by (with_reducible repeat (first | apply Kd.R_alloc | apply Kd.R_drewN | apply Kd.R_drew)); exact HO_4.out) : P := h
theorem p5_5 {P : Prop} (h : P := by (with_reducible repeat (first | apply Kd.V_alloc | apply Kd.V_drewN | apply Kd.V_drew)); exact Kd.V_mono HL245_0.out (fun _ hk => ⟨⟨hk.2, hk.1.1⟩, hk.1.2⟩)) : P := h
theorem p5_6 {P : Prop} (h : P := by (with_reducible repeat (first | apply Kd.N_alloc | apply Kd.N_drewN | apply Kd.N_drew)); exact HO233.out) : P := h
theorem p5_7 {P : Prop} (h : P := by (with_reducible repeat (first | apply Kd.N_alloc | apply Kd.N_drewN | apply Kd.N_drew)); exact HO_3.out) : P := h
theorem p5_8 {P : Prop} (h : P := by (with_reducible repeat (first | apply Kd.R_alloc | apply Kd.R_drewN | apply Kd.R_drew)); exact HO_5.out) : P := h
theorem p5_9 {P : Prop} (h : P := by repeat (first | (with_reducible exact HR241_0.out) | (with_reducible refine Kd.C_alloc ?_ _) | (with_reducible refine Kd.C_drewN ?_ _) | (with_reducible refine Kd.C_drew ?_) | exact HR241_0.out)) : P := h
theorem p5_10 {P : Prop} (h : P := by repeat (first | (with_reducible exact HR245_0.out) | (with_reducible refine Kd.C_alloc ?_ _) | (with_reducible refine Kd.C_drewN ?_ _) | (with_reducible refine Kd.C_drew ?_) | exact HR245_0.out)) : P := h
theorem p5_11 {P : Prop} (h : P := by repeat (first | (with_reducible exact HR249_0.out) | (with_reducible refine Kd.C_alloc ?_ _) | (with_reducible refine Kd.C_drewN ?_ _) | (with_reducible refine Kd.C_drew ?_) | exact HR249_0.out)) : P := h
theorem p5_12 {P : Prop} (h : P := by repeat (first | (with_reducible exact HR251_0.out) | (with_reducible refine Kd.C_alloc ?_ _) | (with_reducible refine Kd.C_drewN ?_ _) | (with_reducible refine Kd.C_drew ?_) | exact HR251_0.out)) : P := h
mutual
def ladderbacklaw34_InterOnce.l0 : Nat → List (List Int) → List (List Int) → List Bool → List Int → Int → Option (Bool)
 | 0, _, _, _, _, _ => none
 | k + 1, x0, x3, x4, x5, x6 => if x6 < (x3.length : Int) then (ladderbacklaw34_InterOnce.l1 k x0 x3 x4 x5 x6 0) else (ladderbacklaw34_InterOnce.l2 k x0 x3 x4 x5 0 0)
def ladderbacklaw34_InterOnce.l1 : Nat → List (List Int) → List (List Int) → List Bool → List Int → Int → Int → Option (Bool)
 | 0, _, _, _, _, _, _ => none
 | k + 1, x0, x3, x4, x5, x6, x7 => if 0 ≤ x6 then (if x6 < (x3.length : Int) then (if x7 < ((rd_L1 x3 x6).length : Int) then (if 0 ≤ x7 then (if (rd (rd_L1 x3 x6) x7) < 0 then (ladderbacklaw34_InterOnce.j2 k x0 x3 x4 x5 x6 x7 true) else (ladderbacklaw34_InterOnce.j2 k x0 x3 x4 x5 x6 x7 (decide ((rd (rd_L1 x3 x6) x7) ≥ (x0.length : Int))))) else (none)) else (ladderbacklaw34_InterOnce.l0 k x0 x3 x4 x5 (wrap64 (x6 + 1)))) else (none)) else (none)
def ladderbacklaw34_InterOnce.j2 : Nat → List (List Int) → List (List Int) → List Bool → List Int → Int → Int → Bool → Option (Bool)
 | 0, _, _, _, _, _, _, _ => none
 | k + 1, x0, x3, x4, x5, x6, x7, x56 => if x56 = true then (some false) else (if 0 ≤ x6 then (if x6 < (x3.length : Int) then (if 0 ≤ x7 then (if x7 < ((rd_L1 x3 x6).length : Int) then (if 0 ≤ (rd (rd_L1 x3 x6) x7) then (if (rd (rd_L1 x3 x6) x7) < (x5.length : Int) then ((some (x5.set ((rd (rd_L1 x3 x6) x7) : Int).toNat (wrap64 ((rd x5 (rd (rd_L1 x3 x6) x7)) + (wrap64 (x6 + 1)))) : List Int)).bind fun y248 => (if x7 > 0 then (if 0 < ((rd_L1 x3 x6).length : Int) then ((ladderbackref31_Dominates.f k x0 (rd (rd_L1 x3 x6) 0) (rd (rd_L1 x3 x6) x7)).bind fun t253 => (if t253 = true then (ladderbacklaw34_InterOnce.l1 k x0 x3 x4 y248 x6 (wrap64 (x7 + 1))) else (some false))) else (none)) else (ladderbacklaw34_InterOnce.l1 k x0 x3 x4 y248 x6 (wrap64 (x7 + 1))))) else (none)) else (none)) else (none)) else (none)) else (none)) else (none))
def ladderbacklaw34_InterOnce.l2 : Nat → List (List Int) → List (List Int) → List Bool → List Int → Int → Int → Option (Bool)
 | 0, _, _, _, _, _, _ => none
 | k + 1, x0, x3, x4, x5, x8, x9 => if x9 < (x3.length : Int) then (if 0 ≤ x9 then (ladderbacklaw34_InterOnce.l2 k x0 x3 x4 x5 (wrap64 (x8 + ((rd_L1 x3 x9).length : Int))) (wrap64 (x9 + 1))) else (none)) else (ladderbacklaw34_InterOnce.l3 k x0 x4 x5 x8 0)
def ladderbacklaw34_InterOnce.l3 : Nat → List (List Int) → List Bool → List Int → Int → Int → Option (Bool)
 | 0, _, _, _, _, _ => none
 | k + 1, x0, x4, x5, x8, x10 => if x10 < (x0.length : Int) then (if 0 ≤ x10 then (if x10 < (x4.length : Int) then (if x10 < (x5.length : Int) then (if ((rdOf false x4 x10) != (decide ((rd x5 x10) > 0))) = true then (some false) else (if rdOf false x4 x10 = true then (ladderbacklaw34_InterOnce.l3 k x0 x4 x5 (wrap64 (x8 - 1)) (wrap64 (x10 + 1))) else (ladderbacklaw34_InterOnce.l3 k x0 x4 x5 x8 (wrap64 (x10 + 1))))) else (none)) else (none)) else (none)) else (if x8 = 0 then ((ladderbacklaw34_awake.f k).bind fun t255 => (some t255)) else (some false))
end
def ladderbacklaw34_InterOnce.f (k : Nat) (l0 : List (List Int)) : Option (Bool) := (ladderbackref31_Few.f k l0 16).bind fun t229 => (if t229 = true then ((inter_Parts.f k l0).bind fun t231 => ((ladderbackref31_Reach.f k l0 0 (-1)).bind fun t234 => (if 0 ≤ (l0.length : Int) then (if ((l0.length : Int) : Int).toNat ≤ 35184372088832 then (ladderbacklaw34_InterOnce.l0 k l0 t231 t234 (List.replicate ((l0.length : Int) : Int).toNat 0) 0) else (none)) else (none)))) else ((ladderbacklaw34_awake.f k).bind fun t230 => (some t230)))
theorem ladderbacklaw34_InterOnce.mono_l : ∀ k, (∀ y0 y1 y2 y3 y4, LeO (ladderbacklaw34_InterOnce.l0 k y0 y1 y2 y3 y4) (ladderbacklaw34_InterOnce.l0 (k + 1) y0 y1 y2 y3 y4)) ∧ (∀ y0 y1 y2 y3 y4 y5, LeO (ladderbacklaw34_InterOnce.l1 k y0 y1 y2 y3 y4 y5) (ladderbacklaw34_InterOnce.l1 (k + 1) y0 y1 y2 y3 y4 y5)) ∧ (∀ y0 y1 y2 y3 y4 y5 y6, LeO (ladderbacklaw34_InterOnce.j2 k y0 y1 y2 y3 y4 y5 y6) (ladderbacklaw34_InterOnce.j2 (k + 1) y0 y1 y2 y3 y4 y5 y6)) ∧ (∀ y0 y1 y2 y3 y4 y5, LeO (ladderbacklaw34_InterOnce.l2 k y0 y1 y2 y3 y4 y5) (ladderbacklaw34_InterOnce.l2 (k + 1) y0 y1 y2 y3 y4 y5)) ∧ (∀ y0 y1 y2 y3 y4, LeO (ladderbacklaw34_InterOnce.l3 k y0 y1 y2 y3 y4) (ladderbacklaw34_InterOnce.l3 (k + 1) y0 y1 y2 y3 y4))
 | 0 => ⟨fun _ _ _ _ _ r h => by simp [ladderbacklaw34_InterOnce.l0] at h, fun _ _ _ _ _ _ r h => by simp [ladderbacklaw34_InterOnce.l1] at h, fun _ _ _ _ _ _ _ r h => by simp [ladderbacklaw34_InterOnce.j2] at h, fun _ _ _ _ _ _ r h => by simp [ladderbacklaw34_InterOnce.l2] at h, fun _ _ _ _ _ r h => by simp [ladderbacklaw34_InterOnce.l3] at h⟩
 | k + 1 => by
  obtain ⟨ih0, ih1, ih2, ih3, ih4⟩ := ladderbacklaw34_InterOnce.mono_l k
  refine ⟨?_, ?_, ?_, ?_, ?_⟩
  ·
   intro y0 y1 y2 y3 y4
   unfold ladderbacklaw34_InterOnce.l0
   repeat' first
   | (with_reducible exact ih0 _ _ _ _ _)
   | (with_reducible exact ih1 _ _ _ _ _ _)
   | (with_reducible exact ih2 _ _ _ _ _ _ _)
   | (with_reducible exact ih3 _ _ _ _ _ _)
   | (with_reducible exact ih4 _ _ _ _ _)
   | (with_reducible exact inter_Parts.mono _ _)
   | (with_reducible exact ladderbacklaw34_awake.mono _)
   | (with_reducible exact ladderbackref31_Dominates.mono _ _ _ _)
   | (with_reducible exact ladderbackref31_Few.mono _ _ _)
   | (with_reducible exact ladderbackref31_Reach.mono _ _ _ _)
   | (with_reducible exact LeO.refl _)
   | (with_reducible exact LeO.none _)
   | (with_reducible refine LeO.ite ?_ ?_)
   | (with_reducible refine LeO.bind ?_ (fun _ => ?_))
   | exact ih0 _ _ _ _ _
   | exact ih1 _ _ _ _ _ _
   | exact ih2 _ _ _ _ _ _ _
   | exact ih3 _ _ _ _ _ _
   | exact ih4 _ _ _ _ _
   | exact inter_Parts.mono _ _
   | exact ladderbacklaw34_awake.mono _
   | exact ladderbackref31_Dominates.mono _ _ _ _
   | exact ladderbackref31_Few.mono _ _ _
   | exact ladderbackref31_Reach.mono _ _ _ _
   | exact LeO.none _
   | refine LeO.ite ?_ ?_
   | refine LeO.bind ?_ (fun _ => ?_)
  ·
   intro y0 y1 y2 y3 y4 y5
   unfold ladderbacklaw34_InterOnce.l1
   repeat' first
   | (with_reducible exact ih0 _ _ _ _ _)
   | (with_reducible exact ih1 _ _ _ _ _ _)
   | (with_reducible exact ih2 _ _ _ _ _ _ _)
   | (with_reducible exact ih3 _ _ _ _ _ _)
   | (with_reducible exact ih4 _ _ _ _ _)
   | (with_reducible exact inter_Parts.mono _ _)
   | (with_reducible exact ladderbacklaw34_awake.mono _)
   | (with_reducible exact ladderbackref31_Dominates.mono _ _ _ _)
   | (with_reducible exact ladderbackref31_Few.mono _ _ _)
   | (with_reducible exact ladderbackref31_Reach.mono _ _ _ _)
   | (with_reducible exact LeO.refl _)
   | (with_reducible exact LeO.none _)
   | (with_reducible refine LeO.ite ?_ ?_)
   | (with_reducible refine LeO.bind ?_ (fun _ => ?_))
   | exact ih0 _ _ _ _ _
   | exact ih1 _ _ _ _ _ _
   | exact ih2 _ _ _ _ _ _ _
   | exact ih3 _ _ _ _ _ _
   | exact ih4 _ _ _ _ _
   | exact inter_Parts.mono _ _
   | exact ladderbacklaw34_awake.mono _
   | exact ladderbackref31_Dominates.mono _ _ _ _
   | exact ladderbackref31_Few.mono _ _ _
   | exact ladderbackref31_Reach.mono _ _ _ _
   | exact LeO.none _
   | refine LeO.ite ?_ ?_
   | refine LeO.bind ?_ (fun _ => ?_)
  ·
   intro y0 y1 y2 y3 y4 y5 y6
   unfold ladderbacklaw34_InterOnce.j2
   repeat' first
   | (with_reducible exact ih0 _ _ _ _ _)
   | (with_reducible exact ih1 _ _ _ _ _ _)
   | (with_reducible exact ih2 _ _ _ _ _ _ _)
   | (with_reducible exact ih3 _ _ _ _ _ _)
   | (with_reducible exact ih4 _ _ _ _ _)
   | (with_reducible exact inter_Parts.mono _ _)
   | (with_reducible exact ladderbacklaw34_awake.mono _)
   | (with_reducible exact ladderbackref31_Dominates.mono _ _ _ _)
   | (with_reducible exact ladderbackref31_Few.mono _ _ _)
   | (with_reducible exact ladderbackref31_Reach.mono _ _ _ _)
   | (with_reducible exact LeO.refl _)
   | (with_reducible exact LeO.none _)
   | (with_reducible refine LeO.ite ?_ ?_)
   | (with_reducible refine LeO.bind ?_ (fun _ => ?_))
   | exact ih0 _ _ _ _ _
   | exact ih1 _ _ _ _ _ _
   | exact ih2 _ _ _ _ _ _ _
   | exact ih3 _ _ _ _ _ _
   | exact ih4 _ _ _ _ _
   | exact inter_Parts.mono _ _
   | exact ladderbacklaw34_awake.mono _
   | exact ladderbackref31_Dominates.mono _ _ _ _
   | exact ladderbackref31_Few.mono _ _ _
   | exact ladderbackref31_Reach.mono _ _ _ _
   | exact LeO.none _
   | refine LeO.ite ?_ ?_
   | refine LeO.bind ?_ (fun _ => ?_)
  ·
   intro y0 y1 y2 y3 y4 y5
   unfold ladderbacklaw34_InterOnce.l2
   repeat' first
   | (with_reducible exact ih0 _ _ _ _ _)
   | (with_reducible exact ih1 _ _ _ _ _ _)
   | (with_reducible exact ih2 _ _ _ _ _ _ _)
   | (with_reducible exact ih3 _ _ _ _ _ _)
   | (with_reducible exact ih4 _ _ _ _ _)
   | (with_reducible exact inter_Parts.mono _ _)
   | (with_reducible exact ladderbacklaw34_awake.mono _)
   | (with_reducible exact ladderbackref31_Dominates.mono _ _ _ _)
   | (with_reducible exact ladderbackref31_Few.mono _ _ _)
   | (with_reducible exact ladderbackref31_Reach.mono _ _ _ _)
   | (with_reducible exact LeO.refl _)
   | (with_reducible exact LeO.none _)
   | (with_reducible refine LeO.ite ?_ ?_)
   | (with_reducible refine LeO.bind ?_ (fun _ => ?_))
   | exact ih0 _ _ _ _ _
   | exact ih1 _ _ _ _ _ _
   | exact ih2 _ _ _ _ _ _ _
   | exact ih3 _ _ _ _ _ _
   | exact ih4 _ _ _ _ _
   | exact inter_Parts.mono _ _
   | exact ladderbacklaw34_awake.mono _
   | exact ladderbackref31_Dominates.mono _ _ _ _
   | exact ladderbackref31_Few.mono _ _ _
   | exact ladderbackref31_Reach.mono _ _ _ _
   | exact LeO.none _
   | refine LeO.ite ?_ ?_
   | refine LeO.bind ?_ (fun _ => ?_)
  ·
   intro y0 y1 y2 y3 y4
   unfold ladderbacklaw34_InterOnce.l3
   repeat' first
   | (with_reducible exact ih0 _ _ _ _ _)
   | (with_reducible exact ih1 _ _ _ _ _ _)
   | (with_reducible exact ih2 _ _ _ _ _ _ _)
   | (with_reducible exact ih3 _ _ _ _ _ _)
   | (with_reducible exact ih4 _ _ _ _ _)
   | (with_reducible exact inter_Parts.mono _ _)
   | (with_reducible exact ladderbacklaw34_awake.mono _)
   | (with_reducible exact ladderbackref31_Dominates.mono _ _ _ _)
   | (with_reducible exact ladderbackref31_Few.mono _ _ _)
   | (with_reducible exact ladderbackref31_Reach.mono _ _ _ _)
   | (with_reducible exact LeO.refl _)
   | (with_reducible exact LeO.none _)
   | (with_reducible refine LeO.ite ?_ ?_)
   | (with_reducible refine LeO.bind ?_ (fun _ => ?_))
   | exact ih0 _ _ _ _ _
   | exact ih1 _ _ _ _ _ _
   | exact ih2 _ _ _ _ _ _ _
   | exact ih3 _ _ _ _ _ _
   | exact ih4 _ _ _ _ _
   | exact inter_Parts.mono _ _
   | exact ladderbacklaw34_awake.mono _
   | exact ladderbackref31_Dominates.mono _ _ _ _
   | exact ladderbackref31_Few.mono _ _ _
   | exact ladderbackref31_Reach.mono _ _ _ _
   | exact LeO.none _
   | refine LeO.ite ?_ ?_
   | refine LeO.bind ?_ (fun _ => ?_)
theorem ladderbacklaw34_InterOnce.mono : ∀ a0 k, LeO (ladderbacklaw34_InterOnce.f k a0) (ladderbacklaw34_InterOnce.f (k + 1) a0) := by
 intro a0 k
 obtain ⟨ih0, ih1, ih2, ih3, ih4⟩ := ladderbacklaw34_InterOnce.mono_l k
 unfold ladderbacklaw34_InterOnce.f
 repeat' first
   | (with_reducible exact ih0 _ _ _ _ _)
   | (with_reducible exact ih1 _ _ _ _ _ _)
   | (with_reducible exact ih2 _ _ _ _ _ _ _)
   | (with_reducible exact ih3 _ _ _ _ _ _)
   | (with_reducible exact ih4 _ _ _ _ _)
   | (with_reducible exact inter_Parts.mono _ _)
   | (with_reducible exact ladderbacklaw34_awake.mono _)
   | (with_reducible exact ladderbackref31_Dominates.mono _ _ _ _)
   | (with_reducible exact ladderbackref31_Few.mono _ _ _)
   | (with_reducible exact ladderbackref31_Reach.mono _ _ _ _)
   | (with_reducible exact LeO.refl _)
   | (with_reducible exact LeO.none _)
   | (with_reducible refine LeO.ite ?_ ?_)
   | (with_reducible refine LeO.bind ?_ (fun _ => ?_))
   | exact ih0 _ _ _ _ _
   | exact ih1 _ _ _ _ _ _
   | exact ih2 _ _ _ _ _ _ _
   | exact ih3 _ _ _ _ _ _
   | exact ih4 _ _ _ _ _
   | exact inter_Parts.mono _ _
   | exact ladderbacklaw34_awake.mono _
   | exact ladderbackref31_Dominates.mono _ _ _ _
   | exact ladderbackref31_Few.mono _ _ _
   | exact ladderbackref31_Reach.mono _ _ _ _
   | exact LeO.none _
   | refine LeO.ite ?_ ?_
   | refine LeO.bind ?_ (fun _ => ?_)
def ladderbacklaw34_InterOnce.T15 : Bool × List (List Nat × List Nat) := (true, [([], []), ([0], [0]), ([1], [1]), ([2], [2]), ([2], [2]), ([2], [2]), ([4, 5, 2], [2, 4, 5]), ([6, 2], [2, 6]), ([7, 2], [2, 7]), ([8, 2], [2, 8]), ([2], [2]), ([2], [2]), ([10, 11, 2], [2, 10, 11]), ([12, 2], [2, 12]), ([2], [2]), ([13, 14, 2], [2, 13, 14]), ([15, 2], [2, 15]), ([3, 9, 16, 2, 2], [2, 3, 9, 16]), ([17, 2], [2, 17]), ([2, 18], [2, 18])])
def ladderbacklaw34_InterOnce.B15 : List Nat := [0, 1, 3, 7, 7, 7, 55, 119, 247, 503, 7, 7, 3079, 7175, 7, 31751, 64519, 131071, 262143, 524287]
theorem ladderbacklaw34_InterOnce.tab15 : rtab .any (opsOf Try.f12 15) = ladderbacklaw34_InterOnce.T15 := by kernel_rfl
theorem ladderbacklaw34_InterOnce.bits15 : waitsOk ladderbacklaw34_InterOnce.T15.2 ladderbacklaw34_InterOnce.B15 = true := by kernel_rfl
set_option maxHeartbeats 8000000 in
set_option maxRecDepth 100000 in
theorem ladderbacklaw34_InterOnce.calls (k : Nat) (A0 : Option Addr) (c0 : Nat) (l0 : List (List Int)) (r : Bool) (w : World) (hr0 : Kd.C (Kd.slice 3 (Kd.int .i64)) w A0 l0.length l0) (hc0 : l0.length ≤ c0) (h : ladderbacklaw34_InterOnce.f k l0 = some r) (hrt_ : r = true := by rfl) :
  Calls Try.prog 12 #[.slice A0 l0.length c0] w fun e w' => e = .returned (.bool r) ∧ Below w.heap.size w w' := by
 have HR0 := Aside0.mk hr0
 have HC0 := Aside0.mk hc0
 clear hr0 hc0
 have HB := Aside0.mk (Below.refl w.heap.size w)
 have H : ((ladderbackref31_Few.f k l0 16).bind fun t229 => (if t229 = true then ((inter_Parts.f k l0).bind fun t231 => ((ladderbackref31_Reach.f k l0 0 (-1)).bind fun t234 => (if 0 ≤ (l0.length : Int) then (if ((l0.length : Int) : Int).toNat ≤ 35184372088832 then (ladderbacklaw34_InterOnce.l0 k l0 t231 t234 (List.replicate ((l0.length : Int) : Int).toNat 0) 0) else (none)) else (none)))) else ((ladderbacklaw34_awake.f k).bind fun t230 => (some t230)))) = some r := h
 clear h
 have HRT := Aside0.mk hrt_
 clear hrt_
 replace H := Option.bind_eq_some_iff.mp H
 obtain ⟨t229, A20, H⟩ := H
 replace H : (if t229 = true then ((inter_Parts.f k l0).bind fun t231 => ((ladderbackref31_Reach.f k l0 0 (-1)).bind fun t234 => (if 0 ≤ (l0.length : Int) then (if ((l0.length : Int) : Int).toNat ≤ 35184372088832 then (ladderbacklaw34_InterOnce.l0 k l0 t231 t234 (List.replicate ((l0.length : Int) : Int).toNat 0) 0) else (none)) else (none)))) else ((ladderbacklaw34_awake.f k).bind fun t230 => (some t230))) = some r := H
 have A2 := Aside0.mk A20
 clear A20
 by_cases c3 : t229 = true
 ·
  subst c3
  have H1 : ((inter_Parts.f k l0).bind fun t231 => ((ladderbackref31_Reach.f k l0 0 (-1)).bind fun t234 => (if 0 ≤ (l0.length : Int) then (if ((l0.length : Int) : Int).toNat ≤ 35184372088832 then (ladderbacklaw34_InterOnce.l0 k l0 t231 t234 (List.replicate ((l0.length : Int) : Int).toNat 0) 0) else (none)) else (none)))) = some r := by rw [if_pos rfl] at H; exact H
  clear H
  have H := H1
  clear H1
  replace H := Option.bind_eq_some_iff.mp H
  obtain ⟨t231, A40, H⟩ := H
  replace H : ((ladderbackref31_Reach.f k l0 0 (-1)).bind fun t234 => (if 0 ≤ (l0.length : Int) then (if ((l0.length : Int) : Int).toNat ≤ 35184372088832 then (ladderbacklaw34_InterOnce.l0 k l0 t231 t234 (List.replicate ((l0.length : Int) : Int).toNat 0) 0) else (none)) else (none))) = some r := H
  have A4 := Aside0.mk A40
  clear A40
  replace H := Option.bind_eq_some_iff.mp H
  obtain ⟨t234, A50, H⟩ := H
  replace H : (if 0 ≤ (l0.length : Int) then (if ((l0.length : Int) : Int).toNat ≤ 35184372088832 then (ladderbacklaw34_InterOnce.l0 k l0 t231 t234 (List.replicate ((l0.length : Int) : Int).toNat 0) 0) else (none)) else (none)) = some r := H
  have A5 := Aside0.mk A50
  clear A50
  by_cases c6 : 0 ≤ (l0.length : Int)
  ·
   rw [if_pos c6] at H
   have c6b0 := eq_true c6
   have c6b1 : decide (0 ≤ (l0.length : Int)) = true := decide_eq_true c6
   clear c6
   by_cases c7 : ((l0.length : Int) : Int).toNat ≤ 35184372088832
   ·
    rw [if_pos c7] at H
    have c7b0 := eq_true c7
    have c7b1 : decide (((l0.length : Int) : Int).toNat ≤ 35184372088832) = true := decide_eq_true c7
    clear c7
    obtain ⟨y237, hy237⟩ : ∃ y_ : List Int, y_ = (List.replicate ((l0.length : Int) : Int).toNat 0) := ⟨_, rfl⟩
    replace H : (ladderbacklaw34_InterOnce.l0 k l0 t231 t234 y237 0) = some r := by first | (rw [hy237]; with_reducible exact H) | (have H2_ := (Option.bind_some _ _).symm.trans H; rw [hy237]; with_reducible exact H2_) | (have H2_ := (Option.bind_some _ _).symm.trans H; with_reducible exact H2_) | with_reducible exact H | (rw [hy237]; exact H) | exact H
    have Ny237 := Aside0.mk hy237
    clear hy237
    have H' := Aside0.mk H
    clear H
    go_enter Try.func12, Try.ntmps12
    try go_wp2_with (first | ((with_reducible refine gate_callee (f := 13) rfl ?_); refine goesL_ (some 12) rfl rfl Try.func13 (by kernel_rfl) rfl #[.slice A0 l0.length c0, .int .i64 16] rfl p5_2 ?_; (with_reducible refine (ladderbackref31_Few.calls k _ _ l0 16 true _ ?side1 ?side2 A2.out).mono ?_); (case side1 => repeat (first | exact HR0.out | (with_reducible refine Kd.C_alloc ?_ _) | (with_reducible refine Kd.C_drewN ?_ _) | (with_reducible refine Kd.C_drew ?_))); (case side2 => exact HC0.out); rintro e w' ⟨rfl, ⟨nd, rfl⟩⟩; refine ⟨_, rfl, ?_⟩) | ((with_reducible refine gate_callee (f := 44) rfl ?_); refine goesL_ (some 16) rfl rfl Try.func44 (by kernel_rfl) rfl #[.slice A0 l0.length c0] rfl p5_2 ?_; (with_reducible refine (inter_Parts.calls k (fun k_ => k_ < w.heap.size) _ _ l0 t231 _ ?side1 A4.out).mono ?_); (case side1 => exact Kd.V_mk HC0.out (Kd.F_below (Kd.C_F (Kd.heap_slice 3 (Kd.heap_int .i64)) HR0.out) p5_1)); rintro e w8 ⟨v232, rfl, ho0, hb⟩; refine ⟨_, rfl, ?_⟩; have n0_ := Aside0.mk (Kd.N_lower (Kd.N_mono (ok' := fun k_ => True) ho0 (fun k_ hk_ => trivial)) (below_size p5_1)); have n1_ := Aside0.mk (below_step p5_1 hb); clear HB; have HO233 := n0_; have HB := n1_; clear n0_ n1_; (try clear hb); (try clear hb2); (try clear hk); (try clear hi); (try clear ho0)) | ((with_reducible refine gate_callee (f := 49) rfl ?_); refine goesL_ (some 18) rfl rfl Try.func49 (by kernel_rfl) rfl #[.slice A0 l0.length c0, .int .i64 0, .int .i64 (-1)] rfl p5_2 ?_; (with_reducible refine (ladderbackref31_Reach.calls k _ _ l0 0 (-1) t234 _ ?side1 ?side2 A5.out).mono ?_); (case side1 => repeat (first | exact (Kd.C_below HR0.out HB.out) | (with_reducible refine Kd.C_alloc ?_ _) | (with_reducible refine Kd.C_drewN ?_ _) | (with_reducible refine Kd.C_drew ?_))); (case side2 => exact HC0.out); rintro e w9 ⟨v235, rfl, ho0, hb⟩; refine ⟨_, rfl, ?_⟩; have n0_ := Aside0.mk (Kd.N_elder' p5_6 (Kd.R_base ho0) hb); have n1_ := Aside0.mk (Kd.R_lower ho0 (below_size p5_1)); have n2_ := Aside0.mk (below_step p5_1 hb); clear HO233; clear HB; have HO233 := n0_; have HO236 := n1_; have HB := n2_; clear n0_ n1_ n2_; (try clear hb); (try clear hb2); (try clear hk); (try clear hi); (try clear ho0)) | ((with_reducible refine gate_dst (N := 21) rfl ?_); (try (refine gate_guard (by rfl) ?_; dsimp only)); refine Kd.R_make (Kd.int .i64) _ 3 rfl (N := 21) rfl 27 _ _ rfl (l0.length : Int) rfl rfl Try.underlying27 (.int .i64 0) 8 info3 rfl (by decide) (by omega) 0 (ok := fun _ => True) (okp := fun _ => True) rfl (fun _ hk => hk) trivial (of_decide_eq_true p5_0) (Nat.le_trans (Nat.mul_le_mul_right _ (of_decide_eq_true p5_0 : (l0.length : Int).toNat ≤ 35184372088832)) (by omega)) (Below.refl _ _) (Nat.le_refl _) ?_; intro v238 w10 ho11 hb hg_ hnew_; clear hg_ hnew_; (first | rw [← Ny237.out] at ho11 | (simp only [Int.reduceToNat] at ho11; rw [← Ny237.out] at ho11)); have n0_ := Aside0.mk (Kd.N_elder' p5_6 (Kd.R_base ho11) hb); have n1_ := Aside0.mk (Kd.R_below (by (with_reducible repeat (first | apply Kd.R_alloc | apply Kd.R_drewN | apply Kd.R_drew)); exact HO236.out) hb); have n2_ := Aside0.mk (Kd.R_lower ho11 (below_size p5_1)); have n3_ := Aside0.mk (below_step p5_1 hb); clear HO233; clear HO236; clear HB; have HO233 := n0_; have HO236 := n1_; have HO239 := n2_; have HB := n3_; clear n0_ n1_ n2_ n3_; clear hb ho11))
    repeat (go_quiet (fail); try go_wp2_with (first | ((with_reducible refine gate_callee (f := 13) rfl ?_); refine goesL_ (some 12) rfl rfl Try.func13 (by kernel_rfl) rfl #[.slice A0 l0.length c0, .int .i64 16] rfl p5_2 ?_; (with_reducible refine (ladderbackref31_Few.calls k _ _ l0 16 true _ ?side1 ?side2 A2.out).mono ?_); (case side1 => repeat (first | exact HR0.out | (with_reducible refine Kd.C_alloc ?_ _) | (with_reducible refine Kd.C_drewN ?_ _) | (with_reducible refine Kd.C_drew ?_))); (case side2 => exact HC0.out); rintro e w' ⟨rfl, ⟨nd, rfl⟩⟩; refine ⟨_, rfl, ?_⟩) | ((with_reducible refine gate_callee (f := 44) rfl ?_); refine goesL_ (some 16) rfl rfl Try.func44 (by kernel_rfl) rfl #[.slice A0 l0.length c0] rfl p5_2 ?_; (with_reducible refine (inter_Parts.calls k (fun k_ => k_ < w.heap.size) _ _ l0 t231 _ ?side1 A4.out).mono ?_); (case side1 => exact Kd.V_mk HC0.out (Kd.F_below (Kd.C_F (Kd.heap_slice 3 (Kd.heap_int .i64)) HR0.out) p5_1)); rintro e w8 ⟨v232, rfl, ho0, hb⟩; refine ⟨_, rfl, ?_⟩; have n0_ := Aside0.mk (Kd.N_lower (Kd.N_mono (ok' := fun k_ => True) ho0 (fun k_ hk_ => trivial)) (below_size p5_1)); have n1_ := Aside0.mk (below_step p5_1 hb); clear HB; have HO233 := n0_; have HB := n1_; clear n0_ n1_; (try clear hb); (try clear hb2); (try clear hk); (try clear hi); (try clear ho0)) | ((with_reducible refine gate_callee (f := 49) rfl ?_); refine goesL_ (some 18) rfl rfl Try.func49 (by kernel_rfl) rfl #[.slice A0 l0.length c0, .int .i64 0, .int .i64 (-1)] rfl p5_2 ?_; (with_reducible refine (ladderbackref31_Reach.calls k _ _ l0 0 (-1) t234 _ ?side1 ?side2 A5.out).mono ?_); (case side1 => repeat (first | exact (Kd.C_below HR0.out HB.out) | (with_reducible refine Kd.C_alloc ?_ _) | (with_reducible refine Kd.C_drewN ?_ _) | (with_reducible refine Kd.C_drew ?_))); (case side2 => exact HC0.out); rintro e w9 ⟨v235, rfl, ho0, hb⟩; refine ⟨_, rfl, ?_⟩; have n0_ := Aside0.mk (Kd.N_elder' p5_6 (Kd.R_base ho0) hb); have n1_ := Aside0.mk (Kd.R_lower ho0 (below_size p5_1)); have n2_ := Aside0.mk (below_step p5_1 hb); clear HO233; clear HB; have HO233 := n0_; have HO236 := n1_; have HB := n2_; clear n0_ n1_ n2_; (try clear hb); (try clear hb2); (try clear hk); (try clear hi); (try clear ho0)) | ((with_reducible refine gate_dst (N := 21) rfl ?_); (try (refine gate_guard (by rfl) ?_; dsimp only)); refine Kd.R_make (Kd.int .i64) _ 3 rfl (N := 21) rfl 27 _ _ rfl (l0.length : Int) rfl rfl Try.underlying27 (.int .i64 0) 8 info3 rfl (by decide) (by omega) 0 (ok := fun _ => True) (okp := fun _ => True) rfl (fun _ hk => hk) trivial (of_decide_eq_true p5_0) (Nat.le_trans (Nat.mul_le_mul_right _ (of_decide_eq_true p5_0 : (l0.length : Int).toNat ≤ 35184372088832)) (by omega)) (Below.refl _ _) (Nat.le_refl _) ?_; intro v238 w10 ho11 hb hg_ hnew_; clear hg_ hnew_; (first | rw [← Ny237.out] at ho11 | (simp only [Int.reduceToNat] at ho11; rw [← Ny237.out] at ho11)); have n0_ := Aside0.mk (Kd.N_elder' p5_6 (Kd.R_base ho11) hb); have n1_ := Aside0.mk (Kd.R_below (by (with_reducible repeat (first | apply Kd.R_alloc | apply Kd.R_drewN | apply Kd.R_drew)); exact HO236.out) hb); have n2_ := Aside0.mk (Kd.R_lower ho11 (below_size p5_1)); have n3_ := Aside0.mk (below_step p5_1 hb); clear HO233; clear HO236; clear HB; have HO233 := n0_; have HO236 := n1_; have HO239 := n2_; have HB := n3_; clear n0_ n1_ n2_ n3_; clear hb ho11)))
    go_loopg [6] k (fun kq v6 w' => ∃ (x5_1 : List Int) (x6_1 : Int), v6 = .int .i64 x6_1 ∧ Aside0 (ladderbacklaw34_InterOnce.l0 kq l0 t231 t234 x5_1 x6_1 = some r) ∧ Aside0 (kq ≤ k) ∧ Aside0 (Kd.N (Kd.slice 3 (Kd.int .i64)) 27 w' w.heap.size (fun k_ => some k_ ≠ (v235 : Value).ownBlock ∧ some k_ ≠ (v238 : Value).ownBlock) v232 t231) ∧ Aside0 (Kd.R Kd.bool 4 w' w.heap.size (fun _ => True) v235 t234) ∧ Aside0 (Kd.R (Kd.int .i64) 3 w' w.heap.size (fun _ => True) v238 x5_1) ∧ Aside0 (Below w.heap.size w w'))
    case atStart => exact ⟨(y237), (0), p5_3, H', ⟨Nat.le_refl _⟩, ⟨by (with_reducible repeat (first | apply Kd.N_alloc | apply Kd.N_drewN | apply Kd.N_drew)); exact Kd.N_mono HO233.out (fun _ hk => ⟨hk.1.2, hk.2⟩)⟩, ⟨by (with_reducible repeat (first | apply Kd.R_alloc | apply Kd.R_drewN | apply Kd.R_drew)); exact HO236.out⟩, ⟨by (with_reducible repeat (first | apply Kd.R_alloc | apply Kd.R_drewN | apply Kd.R_drew)); exact HO239.out⟩, ⟨by repeat (first | (with_reducible first | exact HB.out | apply below_alloc | apply pw_below_drewN | apply below_drew1) | exact HB.out)⟩⟩
    case round =>
     clear H'
     (try clear c3); (try clear c6); (try clear c6b0); (try clear c6b1); (try clear c7); (try clear c7b0); (try clear c7b1)
     obtain ⟨x5_1, x6_1, rfl, HA, HK1, HO_3, HO_4, HO_5, HB⟩ := hrel
     cases gk with
     | zero => exact absurd HA.out (by simp [ladderbacklaw34_InterOnce.l0])
     | succ k1 =>
      have H := HA.out
      clear HA
      simp only [ladderbacklaw34_InterOnce.l0] at H
      by_cases c12 : x6_1 < (t231.length : Int)
      ·
       rw [if_pos c12] at H
       have c12b0 : decide (x6_1 < (t231.length : Int)) = true := decide_eq_true c12
       clear c12
       have H' := Aside0.mk H
       clear H
       obtain ⟨Ao13, co13, eo13⟩ := Kd.N_slice HO_3.out
       subst eo13
       try go_wp2
       repeat (go_quiet (fail); try go_wp2)
       go_loopg [7] k1 (fun kq v7 w' => ∃ (x5_2 : List Int) (x7_2 : Int), v7 = .int .i64 x7_2 ∧ Aside0 (ladderbacklaw34_InterOnce.l1 kq l0 t231 t234 x5_2 x6_1 x7_2 = some r) ∧ Aside0 (kq ≤ k1) ∧ Aside0 (Kd.N (Kd.slice 3 (Kd.int .i64)) 27 w' w.heap.size (fun k_ => some k_ ≠ (v235 : Value).ownBlock ∧ some k_ ≠ (v238 : Value).ownBlock) (.slice Ao13 t231.length co13) t231) ∧ Aside0 (Kd.R Kd.bool 4 w' w.heap.size (fun _ => True) v235 t234) ∧ Aside0 (Kd.R (Kd.int .i64) 3 w' w.heap.size (fun _ => True) v238 x5_2) ∧ Aside0 (Below w.heap.size w w'))
       case atStart => exact ⟨(x5_1), (0), p5_3, H', ⟨Nat.le_refl _⟩, ⟨by (with_reducible repeat (first | apply Kd.N_alloc | apply Kd.N_drewN | apply Kd.N_drew)); exact HO_3.out⟩, ⟨by (with_reducible repeat (first | apply Kd.R_alloc | apply Kd.R_drewN | apply Kd.R_drew)); exact HO_4.out⟩, ⟨by (with_reducible repeat (first | apply Kd.R_alloc | apply Kd.R_drewN | apply Kd.R_drew)); exact HO_5.out⟩, ⟨by repeat (first | (with_reducible first | exact HB.out | apply below_alloc | apply pw_below_drewN | apply below_drew1) | exact HB.out)⟩⟩
       case round =>
        clear H'
        (try clear c12); (try clear c12b0)
        obtain ⟨x5_2, x7_2, rfl, HA, HK2, HO_3, HO_4, HO_5, HB⟩ := hrel
        cases gk with
        | zero => exact absurd HA.out (by simp [ladderbacklaw34_InterOnce.l1])
        | succ k2 =>
         have H := HA.out
         clear HA
         simp only [ladderbacklaw34_InterOnce.l1] at H
         by_cases c14 : 0 ≤ x6_1
         ·
          rw [if_pos c14] at H
          have c14b0 : decide (0 ≤ x6_1) = true := decide_eq_true c14
          clear c14
          by_cases c15 : x6_1 < (t231.length : Int)
          ·
           rw [if_pos c15] at H
           have c15b0 : decide (x6_1 < (t231.length : Int)) = true := decide_eq_true c15
           clear c15
           by_cases c16 : x7_2 < ((rd_L1 t231 x6_1).length : Int)
           ·
            rw [if_pos c16] at H
            have c16b0 : decide (x7_2 < ((rd_L1 t231 x6_1).length : Int)) = true := decide_eq_true c16
            clear c16
            have HC17 := Aside0.mk H
            clear H
            have p240 : 0 ≤ (x6_1 : Int) := of_decide_eq_true p5_0
            have q240 : x6_1 < (t231.length : Int) := of_decide_eq_true p5_0
            obtain ⟨ad240, A240_0, c240_0, e240, hx240_0, hl240_0, hi240_0⟩ := at_L1 (Kd.N_reads' HO_3.out).2.2 x6_1 p240 q240
            cases e240
            obtain ⟨ce240, hce240, hMe240, hcc240⟩ := Kd.N_get HO_3.out [] x6_1 p240 (by first | exact q240 | exact of_decide_eq_true p5_0 | (have e_ := (Kd.N_reads' HO_3.out).1; omega))
            obtain ⟨ua240_0, uc240_0, rfl, ul240_0, ge240_0⟩ := Kd.FK_slice_open hMe240
            have hv240_0 := hcc240 0 _ rfl
            rw [Nat.add_zero, show ((Kd.slice 3 (Kd.int .i64))).sz = 1 from rfl, Nat.mul_one] at hv240_0
            replace hv240_0 := Option.some.inj (hv240_0.symm.trans hx240_0)
            injection hv240_0 with hva_ hvn_ hvc_
            rw [hva_] at ge240_0
            rw [hvc_] at ul240_0
            have HL240_0 := Aside0.mk (show Kd.V (Kd.int .i64) 3 _ w.heap.size _ _ (rd_L1 t231 x6_1) from Kd.V_mk ul240_0 ge240_0)
            clear hva_ hvn_ hvc_ ge240_0 ul240_0
            clear hcc240 hce240
            have HR240_0 := Aside0.mk hi240_0
            have HC240_0 := Aside0.mk hl240_0
            clear hi240_0 hl240_0
            replace p240 := eq_true p240
            replace q240 := eq_true q240
            go_upto_region 12 with (fail)
            repeat (go_quiet (fail); go_upto_region 12 with (fail))
            go_cut [56] from 28 to 56 (fun v56 wc => ∃ (kq : Nat) (x56_16 : Bool), v56 = .bool x56_16 ∧ Aside0 (ladderbacklaw34_InterOnce.j2 kq l0 t231 t234 x5_2 x6_1 x7_2 x56_16 = some r) ∧ Aside0 (kq ≤ k2) ∧ Aside0 (Kd.N (Kd.slice 3 (Kd.int .i64)) 27 wc w.heap.size (fun k_ => some k_ ≠ (v235 : Value).ownBlock ∧ some k_ ≠ (v238 : Value).ownBlock) (.slice (some ad240) t231.length co13) t231) ∧ Aside0 (Kd.R Kd.bool 4 wc w.heap.size (fun _ => True) v235 t234) ∧ Aside0 (Kd.R (Kd.int .i64) 3 wc w.heap.size (fun _ => True) v238 x5_2) ∧ Aside0 (Kd.C (Kd.int .i64) wc A240_0 (rd_L1 t231 x6_1).length (rd_L1 t231 x6_1)) ∧ Aside0 (Below w.heap.size w wc))
            case first =>
             have H := HC17.out
             clear HC17
             by_cases c18 : 0 ≤ x7_2
             ·
              rw [if_pos c18] at H
              have c18b0 : decide (0 ≤ x7_2) = true := decide_eq_true c18
              clear c18
              (first | rw [c18b0] | (simp only [i64_w, i32_w]; rw [c18b0]) | rw [c18b1] | skip)
              by_cases c19 : (rd (rd_L1 t231 x6_1) x7_2) < 0
              ·
               rw [if_pos c19] at H
               have c19b0 : decide ((rd (rd_L1 t231 x6_1) x7_2) < 0) = true := decide_eq_true c19
               clear c19
               have H' := Aside0.mk H
               clear H
               have p241 : 0 ≤ (x6_1 : Int) := of_decide_eq_true p5_0
               have q241 : x6_1 < (t231.length : Int) := of_decide_eq_true p5_0
               obtain ⟨ad241, A241_0, c241_0, e241, hx241_0, hl241_0, hi241_0⟩ := at_L1 (Kd.N_reads' HO_3.out).2.2 x6_1 p241 q241
               obtain rfl : ad240 = ad241 := (by injection e241)
               (try clear hx240_0)
               obtain ⟨ce241, hce241, hMe241, hcc241⟩ := Kd.N_get HO_3.out [] x6_1 p241 (by first | exact q241 | exact of_decide_eq_true p5_0 | (have e_ := (Kd.N_reads' HO_3.out).1; omega))
               obtain ⟨ua241_0, uc241_0, rfl, ul241_0, ge241_0⟩ := Kd.FK_slice_open hMe241
               have hv241_0 := hcc241 0 _ rfl
               rw [Nat.add_zero, show ((Kd.slice 3 (Kd.int .i64))).sz = 1 from rfl, Nat.mul_one] at hv241_0
               replace hv241_0 := Option.some.inj (hv241_0.symm.trans hx241_0)
               injection hv241_0 with hva_ hvn_ hvc_
               rw [hva_] at ge241_0
               rw [hvc_] at ul241_0
               have HL241_0 := Aside0.mk (show Kd.V (Kd.int .i64) 3 _ w.heap.size _ _ (rd_L1 t231 x6_1) from Kd.V_mk ul241_0 ge241_0)
               clear hva_ hvn_ hvc_ ge241_0 ul241_0
               clear hcc241 hce241
               have HR241_0 := Aside0.mk hi241_0
               have HC241_0 := Aside0.mk hl241_0
               clear hi241_0 hl241_0
               replace p241 := eq_true p241
               replace q241 := eq_true q241
               have p242 : 0 ≤ (x7_2 : Int) := of_decide_eq_true p5_0
               have q242 : x7_2 < ((rd_L1 t231 x6_1).length : Int) := of_decide_eq_true p5_0
               obtain ⟨ad242, e242, hx242_0⟩ := Kd.at_int p5_9 x7_2 p242 q242
               cases e242
               replace p242 := eq_true p242
               replace q242 := eq_true q242
               try go_wp2
               repeat (go_quiet (fail); try go_wp2)
               go_meet
               case rel => exact ⟨_, (true), p5_3, H', ⟨by have := HK1.out; have := HK2.out; first | omega | exact Nat.le_refl _⟩, ⟨by (with_reducible repeat (first | apply Kd.N_alloc | apply Kd.N_drewN | apply Kd.N_drew)); exact HO_3.out⟩, ⟨by (with_reducible repeat (first | apply Kd.R_alloc | apply Kd.R_drewN | apply Kd.R_drew)); exact HO_4.out⟩, ⟨by (with_reducible repeat (first | apply Kd.R_alloc | apply Kd.R_drewN | apply Kd.R_drew)); exact HO_5.out⟩, ⟨by repeat (first | (with_reducible exact HR240_0.out) | (with_reducible refine Kd.C_alloc ?_ _) | (with_reducible refine Kd.C_drewN ?_ _) | (with_reducible refine Kd.C_drew ?_) | exact HR240_0.out)⟩, ⟨by repeat (first | (with_reducible first | exact HB.out | apply below_alloc | apply pw_below_drewN | apply below_drew1) | exact HB.out)⟩⟩
              ·
               rw [if_neg c19] at H
               have c19b0 : decide ((rd (rd_L1 t231 x6_1) x7_2) < 0) = false := decide_eq_false c19
               clear c19
               have H' := Aside0.mk H
               clear H
               have p241 : 0 ≤ (x6_1 : Int) := of_decide_eq_true p5_0
               have q241 : x6_1 < (t231.length : Int) := of_decide_eq_true p5_0
               obtain ⟨ad241, A241_0, c241_0, e241, hx241_0, hl241_0, hi241_0⟩ := at_L1 (Kd.N_reads' HO_3.out).2.2 x6_1 p241 q241
               obtain rfl : ad240 = ad241 := (by injection e241)
               (try clear hx240_0)
               obtain ⟨ce241, hce241, hMe241, hcc241⟩ := Kd.N_get HO_3.out [] x6_1 p241 (by first | exact q241 | exact of_decide_eq_true p5_0 | (have e_ := (Kd.N_reads' HO_3.out).1; omega))
               obtain ⟨ua241_0, uc241_0, rfl, ul241_0, ge241_0⟩ := Kd.FK_slice_open hMe241
               have hv241_0 := hcc241 0 _ rfl
               rw [Nat.add_zero, show ((Kd.slice 3 (Kd.int .i64))).sz = 1 from rfl, Nat.mul_one] at hv241_0
               replace hv241_0 := Option.some.inj (hv241_0.symm.trans hx241_0)
               injection hv241_0 with hva_ hvn_ hvc_
               rw [hva_] at ge241_0
               rw [hvc_] at ul241_0
               have HL241_0 := Aside0.mk (show Kd.V (Kd.int .i64) 3 _ w.heap.size _ _ (rd_L1 t231 x6_1) from Kd.V_mk ul241_0 ge241_0)
               clear hva_ hvn_ hvc_ ge241_0 ul241_0
               clear hcc241 hce241
               have HR241_0 := Aside0.mk hi241_0
               have HC241_0 := Aside0.mk hl241_0
               clear hi241_0 hl241_0
               replace p241 := eq_true p241
               replace q241 := eq_true q241
               have p242 : 0 ≤ (x7_2 : Int) := of_decide_eq_true p5_0
               have q242 : x7_2 < ((rd_L1 t231 x6_1).length : Int) := of_decide_eq_true p5_0
               obtain ⟨ad242, e242, hx242_0⟩ := Kd.at_int p5_9 x7_2 p242 q242
               cases e242
               replace p242 := eq_true p242
               replace q242 := eq_true q242
               have p243 : 0 ≤ (x6_1 : Int) := of_decide_eq_true p5_0
               have q243 : x6_1 < (t231.length : Int) := of_decide_eq_true p5_0
               obtain ⟨ad243, A243_0, c243_0, e243, hx243_0, hl243_0, hi243_0⟩ := at_L1 (Kd.N_reads' HO_3.out).2.2 x6_1 p243 q243
               obtain rfl : ad240 = ad243 := (by injection e243)
               (try clear hx240_0)
               obtain ⟨ce243, hce243, hMe243, hcc243⟩ := Kd.N_get HO_3.out [] x6_1 p243 (by first | exact q243 | exact of_decide_eq_true p5_0 | (have e_ := (Kd.N_reads' HO_3.out).1; omega))
               obtain ⟨ua243_0, uc243_0, rfl, ul243_0, ge243_0⟩ := Kd.FK_slice_open hMe243
               have hv243_0 := hcc243 0 _ rfl
               rw [Nat.add_zero, show ((Kd.slice 3 (Kd.int .i64))).sz = 1 from rfl, Nat.mul_one] at hv243_0
               replace hv243_0 := Option.some.inj (hv243_0.symm.trans hx243_0)
               injection hv243_0 with hva_ hvn_ hvc_
               rw [hva_] at ge243_0
               rw [hvc_] at ul243_0
               have HL243_0 := Aside0.mk (show Kd.V (Kd.int .i64) 3 _ w.heap.size _ _ (rd_L1 t231 x6_1) from Kd.V_mk ul243_0 ge243_0)
               clear hva_ hvn_ hvc_ ge243_0 ul243_0
               clear hcc243 hce243
               have HR243_0 := Aside0.mk hi243_0
               have HC243_0 := Aside0.mk hl243_0
               clear hi243_0 hl243_0
               replace p243 := eq_true p243
               replace q243 := eq_true q243
               have ea_ := Option.some.inj (hx241_0.symm.trans hx243_0)
               injection ea_ with ea_ en_ ec_
               subst ea_
               subst ec_
               clear en_
               have p244 : 0 ≤ (x7_2 : Int) := of_decide_eq_true p5_0
               have q244 : x7_2 < ((rd_L1 t231 x6_1).length : Int) := of_decide_eq_true p5_0
               obtain ⟨ad244, e244, hx244_0⟩ := Kd.at_int (by repeat (first | (with_reducible exact HR243_0.out) | (with_reducible refine Kd.C_alloc ?_ _) | (with_reducible refine Kd.C_drewN ?_ _) | (with_reducible refine Kd.C_drew ?_) | exact HR243_0.out)) x7_2 p244 q244
               cases e244
               replace p244 := eq_true p244
               replace q244 := eq_true q244
               try go_wp2
               repeat (go_quiet (fail); try go_wp2)
               go_meet
               case rel => exact ⟨_, (decide ((rd (rd_L1 t231 x6_1) x7_2) ≥ (l0.length : Int))), p5_3, H', ⟨by have := HK1.out; have := HK2.out; first | omega | exact Nat.le_refl _⟩, ⟨by (with_reducible repeat (first | apply Kd.N_alloc | apply Kd.N_drewN | apply Kd.N_drew)); exact HO_3.out⟩, ⟨by (with_reducible repeat (first | apply Kd.R_alloc | apply Kd.R_drewN | apply Kd.R_drew)); exact HO_4.out⟩, ⟨by (with_reducible repeat (first | apply Kd.R_alloc | apply Kd.R_drewN | apply Kd.R_drew)); exact HO_5.out⟩, ⟨by repeat (first | (with_reducible exact HR240_0.out) | (with_reducible refine Kd.C_alloc ?_ _) | (with_reducible refine Kd.C_drewN ?_ _) | (with_reducible refine Kd.C_drew ?_) | exact HR240_0.out)⟩, ⟨by repeat (first | (with_reducible first | exact HB.out | apply below_alloc | apply pw_below_drewN | apply below_drew1) | exact HB.out)⟩⟩
             ·
              rw [if_neg c18] at H
              exact absurd H (by simp)
            case rest =>
             clear HC17
             (try clear c14); (try clear c14b0); (try clear c15); (try clear c15b0); (try clear c16); (try clear c16b0); (try clear hx240_0); (try clear p240); (try clear q240)
             obtain ⟨kq, x56_16, rfl, HA, HJ16, HO_3, HO_4, HO_5, HR240_0, HB⟩ := hcut
             cases kq with
             | zero => exact absurd HA.out (by simp [ladderbacklaw34_InterOnce.j2])
             | succ kj16 =>
              have H := HA.out
              clear HA
              simp only [ladderbacklaw34_InterOnce.j2] at H
              by_cases c20 : x56_16 = true
              ·
               subst c20
               have H1 : (some false) = some r := by rw [if_pos rfl] at H; exact H
               clear H
               have H := H1
               clear H1
               exact absurd (Option.some.inj H) (by rw [HRT.out]; decide)
              ·
               replace c20 := Bool.eq_false_iff.mpr c20
               subst c20
               have H1 : (if 0 ≤ x6_1 then (if x6_1 < (t231.length : Int) then (if 0 ≤ x7_2 then (if x7_2 < ((rd_L1 t231 x6_1).length : Int) then (if 0 ≤ (rd (rd_L1 t231 x6_1) x7_2) then (if (rd (rd_L1 t231 x6_1) x7_2) < (x5_2.length : Int) then ((some (x5_2.set ((rd (rd_L1 t231 x6_1) x7_2) : Int).toNat (wrap64 ((rd x5_2 (rd (rd_L1 t231 x6_1) x7_2)) + (wrap64 (x6_1 + 1)))) : List Int)).bind fun y248 => (if x7_2 > 0 then (if 0 < ((rd_L1 t231 x6_1).length : Int) then ((ladderbackref31_Dominates.f kj16 l0 (rd (rd_L1 t231 x6_1) 0) (rd (rd_L1 t231 x6_1) x7_2)).bind fun t253 => (if t253 = true then (ladderbacklaw34_InterOnce.l1 kj16 l0 t231 t234 y248 x6_1 (wrap64 (x7_2 + 1))) else (some false))) else (none)) else (ladderbacklaw34_InterOnce.l1 kj16 l0 t231 t234 y248 x6_1 (wrap64 (x7_2 + 1))))) else (none)) else (none)) else (none)) else (none)) else (none)) else (none)) = some r := by rw [if_neg (show ¬ (false = true) by decide)] at H; exact H
               clear H
               have H := H1
               clear H1
               by_cases c21 : 0 ≤ x6_1
               ·
                rw [if_pos c21] at H
                have c21b0 : decide (0 ≤ x6_1) = true := decide_eq_true c21
                clear c21
                by_cases c22 : x6_1 < (t231.length : Int)
                ·
                 rw [if_pos c22] at H
                 have c22b0 : decide (x6_1 < (t231.length : Int)) = true := decide_eq_true c22
                 clear c22
                 by_cases c23 : 0 ≤ x7_2
                 ·
                  rw [if_pos c23] at H
                  have c23b0 : decide (0 ≤ x7_2) = true := decide_eq_true c23
                  clear c23
                  by_cases c24 : x7_2 < ((rd_L1 t231 x6_1).length : Int)
                  ·
                   rw [if_pos c24] at H
                   have c24b0 : decide (x7_2 < ((rd_L1 t231 x6_1).length : Int)) = true := decide_eq_true c24
                   clear c24
                   by_cases c25 : 0 ≤ (rd (rd_L1 t231 x6_1) x7_2)
                   ·
                    rw [if_pos c25] at H
                    have c25b0 : decide (0 ≤ (rd (rd_L1 t231 x6_1) x7_2)) = true := decide_eq_true c25
                    clear c25
                    by_cases c26 : (rd (rd_L1 t231 x6_1) x7_2) < (x5_2.length : Int)
                    ·
                     rw [if_pos c26] at H
                     have c26b0 : decide ((rd (rd_L1 t231 x6_1) x7_2) < (x5_2.length : Int)) = true := decide_eq_true c26
                     clear c26
                     obtain ⟨y248, hy248⟩ : ∃ y_ : List Int, y_ = (x5_2.set ((rd (rd_L1 t231 x6_1) x7_2) : Int).toNat (wrap64 ((rd x5_2 (rd (rd_L1 t231 x6_1) x7_2)) + (wrap64 (x6_1 + 1))))) := ⟨_, rfl⟩
                     replace H : (if x7_2 > 0 then (if 0 < ((rd_L1 t231 x6_1).length : Int) then ((ladderbackref31_Dominates.f kj16 l0 (rd (rd_L1 t231 x6_1) 0) (rd (rd_L1 t231 x6_1) x7_2)).bind fun t253 => (if t253 = true then (ladderbacklaw34_InterOnce.l1 kj16 l0 t231 t234 y248 x6_1 (wrap64 (x7_2 + 1))) else (some false))) else (none)) else (ladderbacklaw34_InterOnce.l1 kj16 l0 t231 t234 y248 x6_1 (wrap64 (x7_2 + 1)))) = some r := by first | (rw [hy248]; with_reducible exact H) | (have H2_ := (Option.bind_some _ _).symm.trans H; rw [hy248]; with_reducible exact H2_) | (have H2_ := (Option.bind_some _ _).symm.trans H; with_reducible exact H2_) | with_reducible exact H | (rw [hy248]; exact H) | exact H
                     have Ny248 := Aside0.mk hy248
                     clear hy248
                     by_cases c28 : x7_2 > 0
                     ·
                      rw [if_pos c28] at H
                      have c28b0 : decide (0 < x7_2) = true := decide_eq_true c28
                      clear c28
                      by_cases c29 : 0 < ((rd_L1 t231 x6_1).length : Int)
                      ·
                       rw [if_pos c29] at H
                       have c29b0 : decide (0 < ((rd_L1 t231 x6_1).length : Int)) = true := decide_eq_true c29
                       have c29b1 : decide (0 < (rd_L1 t231 x6_1).length) = true := decide_eq_true (by omega)
                       clear c29
                       replace H := Option.bind_eq_some_iff.mp H
                       obtain ⟨t253, A300, H⟩ := H
                       replace H : (if t253 = true then (ladderbacklaw34_InterOnce.l1 kj16 l0 t231 t234 y248 x6_1 (wrap64 (x7_2 + 1))) else (some false)) = some r := H
                       have A30 := Aside0.mk A300
                       clear A300
                       by_cases c31 : t253 = true
                       ·
                        subst c31
                        have H1 : (ladderbacklaw34_InterOnce.l1 kj16 l0 t231 t234 y248 x6_1 (wrap64 (x7_2 + 1))) = some r := by rw [if_pos rfl] at H; exact H
                        clear H
                        have H := H1
                        clear H1
                        have H' := Aside0.mk H
                        clear H
                        have p245 : 0 ≤ (x6_1 : Int) := of_decide_eq_true p5_0
                        have q245 : x6_1 < (t231.length : Int) := of_decide_eq_true p5_0
                        obtain ⟨ad245, A245_0, c245_0, e245, hx245_0, hl245_0, hi245_0⟩ := at_L1 (Kd.N_reads' HO_3.out).2.2 x6_1 p245 q245
                        obtain rfl : ad240 = ad245 := (by injection e245)
                        (try clear hx240_0)
                        obtain ⟨ce245, hce245, hMe245, hcc245⟩ := Kd.N_get HO_3.out [] x6_1 p245 (by first | exact q245 | exact of_decide_eq_true p5_0 | (have e_ := (Kd.N_reads' HO_3.out).1; omega))
                        obtain ⟨ua245_0, uc245_0, rfl, ul245_0, ge245_0⟩ := Kd.FK_slice_open hMe245
                        have hv245_0 := hcc245 0 _ rfl
                        rw [Nat.add_zero, show ((Kd.slice 3 (Kd.int .i64))).sz = 1 from rfl, Nat.mul_one] at hv245_0
                        replace hv245_0 := Option.some.inj (hv245_0.symm.trans hx245_0)
                        injection hv245_0 with hva_ hvn_ hvc_
                        rw [hva_] at ge245_0
                        rw [hvc_] at ul245_0
                        have HL245_0 := Aside0.mk (show Kd.V (Kd.int .i64) 3 _ w.heap.size _ _ (rd_L1 t231 x6_1) from Kd.V_mk ul245_0 ge245_0)
                        clear hva_ hvn_ hvc_ ge245_0 ul245_0
                        clear hcc245 hce245
                        have HR245_0 := Aside0.mk hi245_0
                        have HC245_0 := Aside0.mk hl245_0
                        clear hi245_0 hl245_0
                        replace p245 := eq_true p245
                        replace q245 := eq_true q245
                        have p246 : 0 ≤ (x7_2 : Int) := of_decide_eq_true p5_0
                        have q246 : x7_2 < ((rd_L1 t231 x6_1).length : Int) := of_decide_eq_true p5_0
                        obtain ⟨ad246, e246, hx246_0⟩ := Kd.at_int p5_10 x7_2 p246 q246
                        cases e246
                        replace p246 := eq_true p246
                        replace q246 := eq_true q246
                        obtain ⟨Ao32, co32, eo32⟩ := Kd.R_slice HO_5.out
                        subst eo32
                        have p247 : 0 ≤ ((rd (rd_L1 t231 x6_1) x7_2) : Int) := of_decide_eq_true p5_0
                        have q247 : (rd (rd_L1 t231 x6_1) x7_2) < (x5_2.length : Int) := of_decide_eq_true p5_0
                        obtain ⟨ad247, e247, hx247_0⟩ := Kd.at_int (Kd.R_reads' HO_5.out).2.2 (rd (rd_L1 t231 x6_1) x7_2) p247 q247
                        cases e247
                        replace p247 := eq_true p247
                        replace q247 := eq_true q247
                        have p27 : 0 ≤ ((rd (rd_L1 t231 x6_1) x7_2) : Int) := of_decide_eq_true p5_0
                        have q27 : ((rd (rd_L1 t231 x6_1) x7_2) : Int) < ((x5_2.length : Int) : Int) := of_decide_eq_true p5_0
                        obtain ⟨go27, co27, eo27, gb27, gl27, cl27, HG27⟩ := Kd.R_form HO_5.out (by omega)
                        (first | cases eo27 | (injection eo27 with ea_ en_ ec_; (first | subst ea_ | (injection ea_ with ea_; subst ea_)); subst ec_; clear en_))
                        have GB27 := Aside0.mk gb27
                        have GG27 := Aside0.mk HG27
                        clear gb27 gl27 HG27
                        (first | simp only [add_plain] at hx247_0 | skip)
                        obtain ⟨hx27_0, hf27_0⟩ := Kd.R_celln 0 HO_5.out ((rd (rd_L1 t231 x6_1) x7_2) : Int) p27 q27
                        replace p27 := eq_true p27
                        replace q27 := eq_true q27
                        have HP33 := Kd.R_putg HO_5.out ((rd (rd_L1 t231 x6_1) x7_2) : Int) (wrap64 ((rd x5_2 (rd (rd_L1 t231 x6_1) x7_2)) + (wrap64 (x6_1 + 1))))
                        try go_wp2_with (first | ((with_reducible refine gate_store (t := 3) (p := 70) rfl ?_); refine store_event (t := 3) (p := 70) (v := ?vo_w34) (w1 := (wc.setCell ⟨go27, ((rd (rd_L1 t231 x6_1) x7_2) : Int).toNat, none⟩ (.int .i64 (wrap64 ((rd x5_2 (rd (rd_L1 t231 x6_1) x7_2)) + (wrap64 (x6_1 + 1))))))) ?hg ?ho ?hn ?hr ?_; (case ho => rfl); (case hg => rfl); (case hn => rfl); (case hr => first | (go_simp; done) | (go_simp; rfl)); intro w34 hw; have hg : wc.grownBy w34 (some go27) := (by rw [hw]; exact HP33.2); have hp_ : Kd.R (Kd.int .i64) 3 w34 w.heap.size (fun _ => True) (.slice (some ⟨go27, 0, none⟩) x5_2.length co32) y248 := (by rw [hw, Ny248.out]; exact HP33.1); clear HP33; have n0_ := Aside0.mk (Kd.N_afterv (v := (.slice (some ⟨go27, 0, none⟩) x5_2.length co32)) (v1 := (.slice (some ⟨go27, 0, none⟩) x5_2.length co32)) (ok := (fun k_ => some k_ ≠ (v235 : Value).ownBlock)) p5_7 hg (.inl rfl)); have n1_ := Aside0.mk (Kd.R_over' (v := (.slice (some ⟨go27, 0, none⟩) x5_2.length co32)) p5_4 (Kd.R_typed HO_5.out) (by decide) hg); have n2_ := Aside0.mk (hp_); have n3_ := Aside0.mk (Kd.V_afterv (v := (.slice (some ⟨go27, 0, none⟩) x5_2.length co32)) (v1 := (.slice (some ⟨go27, 0, none⟩) x5_2.length co32)) (ok := (fun k_ => some k_ ≠ (.slice (some ad240) t231.length co13 : Value).ownBlock ∧ some k_ ≠ (v235 : Value).ownBlock)) p5_5 hg (.inl rfl)); have n4_ := Aside0.mk ((by rw [hw]; exact below_set (HB.out) GB27.out : Below w.heap.size w w34)); clear HO_3; clear HO_4; clear HO_5; clear HL245_0; clear HB; have HO_3 := n0_; have HO_4 := n1_; have HO_5 := n2_; have HL245_0 := n3_; have HB := n4_; clear n0_ n1_ n2_ n3_ n4_; clear hg hw hp_))
                        repeat (go_quiet (fail); try go_wp2_with (first | ((with_reducible refine gate_store (t := 3) (p := 70) rfl ?_); refine store_event (t := 3) (p := 70) (v := ?vo_w34) (w1 := (wc.setCell ⟨go27, ((rd (rd_L1 t231 x6_1) x7_2) : Int).toNat, none⟩ (.int .i64 (wrap64 ((rd x5_2 (rd (rd_L1 t231 x6_1) x7_2)) + (wrap64 (x6_1 + 1))))))) ?hg ?ho ?hn ?hr ?_; (case ho => rfl); (case hg => rfl); (case hn => rfl); (case hr => first | (go_simp; done) | (go_simp; rfl)); intro w34 hw; have hg : wc.grownBy w34 (some go27) := (by rw [hw]; exact HP33.2); have hp_ : Kd.R (Kd.int .i64) 3 w34 w.heap.size (fun _ => True) (.slice (some ⟨go27, 0, none⟩) x5_2.length co32) y248 := (by rw [hw, Ny248.out]; exact HP33.1); clear HP33; have n0_ := Aside0.mk (Kd.N_afterv (v := (.slice (some ⟨go27, 0, none⟩) x5_2.length co32)) (v1 := (.slice (some ⟨go27, 0, none⟩) x5_2.length co32)) (ok := (fun k_ => some k_ ≠ (v235 : Value).ownBlock)) p5_7 hg (.inl rfl)); have n1_ := Aside0.mk (Kd.R_over' (v := (.slice (some ⟨go27, 0, none⟩) x5_2.length co32)) p5_4 (Kd.R_typed HO_5.out) (by decide) hg); have n2_ := Aside0.mk (hp_); have n3_ := Aside0.mk (Kd.V_afterv (v := (.slice (some ⟨go27, 0, none⟩) x5_2.length co32)) (v1 := (.slice (some ⟨go27, 0, none⟩) x5_2.length co32)) (ok := (fun k_ => some k_ ≠ (.slice (some ad240) t231.length co13 : Value).ownBlock ∧ some k_ ≠ (v235 : Value).ownBlock)) p5_5 hg (.inl rfl)); have n4_ := Aside0.mk ((by rw [hw]; exact below_set (HB.out) GB27.out : Below w.heap.size w w34)); clear HO_3; clear HO_4; clear HO_5; clear HL245_0; clear HB; have HO_3 := n0_; have HO_4 := n1_; have HO_5 := n2_; have HL245_0 := n3_; have HB := n4_; clear n0_ n1_ n2_ n3_ n4_; clear hg hw hp_)))
                        have n0_ := Aside0.mk (Kd.N_drew HO_3.out)
                        have n1_ := Aside0.mk (Kd.R_drew HO_4.out)
                        have n2_ := Aside0.mk (Kd.R_drew HO_5.out)
                        have n3_ := Aside0.mk (Kd.V_drew HL245_0.out)
                        have n4_ := Aside0.mk (below_drew1 HB.out)
                        clear HO_3
                        clear HO_4
                        clear HO_5
                        clear HL245_0
                        clear HB
                        have HO_3 := n0_
                        have HO_4 := n1_
                        have HO_5 := n2_
                        have HL245_0 := n3_
                        have HB := n4_
                        clear n0_ n1_ n2_ n3_ n4_
                        have p249 : 0 ≤ (x6_1 : Int) := of_decide_eq_true p5_0
                        have q249 : x6_1 < (t231.length : Int) := of_decide_eq_true p5_0
                        obtain ⟨ad249, A249_0, c249_0, e249, hx249_0, hl249_0, hi249_0⟩ := at_L1 (Kd.N_reads' HO_3.out).2.2 x6_1 p249 q249
                        obtain rfl : ad240 = ad249 := (by injection e249)
                        (try clear hx240_0)
                        obtain ⟨ce249, hce249, hMe249, hcc249⟩ := Kd.N_get HO_3.out [] x6_1 p249 (by first | exact q249 | exact of_decide_eq_true p5_0 | (have e_ := (Kd.N_reads' HO_3.out).1; omega))
                        obtain ⟨ua249_0, uc249_0, rfl, ul249_0, ge249_0⟩ := Kd.FK_slice_open hMe249
                        have hv249_0 := hcc249 0 _ rfl
                        rw [Nat.add_zero, show ((Kd.slice 3 (Kd.int .i64))).sz = 1 from rfl, Nat.mul_one] at hv249_0
                        replace hv249_0 := Option.some.inj (hv249_0.symm.trans hx249_0)
                        injection hv249_0 with hva_ hvn_ hvc_
                        rw [hva_] at ge249_0
                        rw [hvc_] at ul249_0
                        have HL249_0 := Aside0.mk (show Kd.V (Kd.int .i64) 3 _ w.heap.size _ _ (rd_L1 t231 x6_1) from Kd.V_mk ul249_0 ge249_0)
                        clear hva_ hvn_ hvc_ ge249_0 ul249_0
                        clear hcc249 hce249
                        have HR249_0 := Aside0.mk hi249_0
                        have HC249_0 := Aside0.mk hl249_0
                        clear hi249_0 hl249_0
                        replace p249 := eq_true p249
                        replace q249 := eq_true q249
                        have p250 : 0 ≤ (0 : Int) := (by omega)
                        have q250 : 0 < ((rd_L1 t231 x6_1).length : Int) := of_decide_eq_true p5_0
                        obtain ⟨ad250, e250, hx250_0⟩ := Kd.at_int p5_11 0 p250 q250
                        cases e250
                        have qi250 : (0 < (rd_L1 t231 x6_1).length) = True := eq_true (by omega)
                        (try rw [show ((0 : Int)).toNat = 0 from rfl] at hx250_0)
                        (try rw [Addr.add_zero'] at hx250_0)
                        replace p250 := eq_true p250
                        replace q250 := eq_true q250
                        have p251 : 0 ≤ (x6_1 : Int) := of_decide_eq_true p5_0
                        have q251 : x6_1 < (t231.length : Int) := of_decide_eq_true p5_0
                        obtain ⟨ad251, A251_0, c251_0, e251, hx251_0, hl251_0, hi251_0⟩ := at_L1 (Kd.N_reads' HO_3.out).2.2 x6_1 p251 q251
                        obtain rfl : ad240 = ad251 := (by injection e251)
                        (try clear hx240_0)
                        obtain ⟨ce251, hce251, hMe251, hcc251⟩ := Kd.N_get HO_3.out [] x6_1 p251 (by first | exact q251 | exact of_decide_eq_true p5_0 | (have e_ := (Kd.N_reads' HO_3.out).1; omega))
                        obtain ⟨ua251_0, uc251_0, rfl, ul251_0, ge251_0⟩ := Kd.FK_slice_open hMe251
                        have hv251_0 := hcc251 0 _ rfl
                        rw [Nat.add_zero, show ((Kd.slice 3 (Kd.int .i64))).sz = 1 from rfl, Nat.mul_one] at hv251_0
                        replace hv251_0 := Option.some.inj (hv251_0.symm.trans hx251_0)
                        injection hv251_0 with hva_ hvn_ hvc_
                        rw [hva_] at ge251_0
                        rw [hvc_] at ul251_0
                        have HL251_0 := Aside0.mk (show Kd.V (Kd.int .i64) 3 _ w.heap.size _ _ (rd_L1 t231 x6_1) from Kd.V_mk ul251_0 ge251_0)
                        clear hva_ hvn_ hvc_ ge251_0 ul251_0
                        clear hcc251 hce251
                        have HR251_0 := Aside0.mk hi251_0
                        have HC251_0 := Aside0.mk hl251_0
                        clear hi251_0 hl251_0
                        replace p251 := eq_true p251
                        replace q251 := eq_true q251
                        have ea_ := Option.some.inj (hx249_0.symm.trans hx251_0)
                        injection ea_ with ea_ en_ ec_
                        subst ea_
                        subst ec_
                        clear en_
                        have p252 : 0 ≤ (x7_2 : Int) := of_decide_eq_true p5_0
                        have q252 : x7_2 < ((rd_L1 t231 x6_1).length : Int) := of_decide_eq_true p5_0
                        obtain ⟨ad252, e252, hx252_0⟩ := Kd.at_int p5_12 x7_2 p252 q252
                        cases e252
                        replace p252 := eq_true p252
                        replace q252 := eq_true q252
                        refine start_ (n := 20) (S := fun w' => w'.cell? (ad240.add (x6_1).toNat) = some (.slice (some ad250) (rd_L1 t231 x6_1).length c249_0) ∧ w'.cell? ad250 = some (.int .i64 (rd (rd_L1 t231 x6_1) 0)) ∧ w'.cell? (ad240.add (x6_1).toNat) = some (.slice (some ad250) (rd_L1 t231 x6_1).length c249_0) ∧ w'.cell? (ad250.add (x7_2).toNat) = some (.int .i64 (rd (rd_L1 t231 x6_1) x7_2))) (ds := []) #[false, false, false, false, false, false, false, false, false, false, false, false, false, false, false, false, false, false, false, false] (by kernel_rfl) rfl rfl ⟨hx249_0, hx250_0, hx251_0, hx252_0⟩ (fun hHeld => ?_); refine with_tabW ladderbacklaw34_InterOnce.tab15 ladderbacklaw34_InterOnce.bits15 (fun HT_ HW_ => ?_)
                        generalize w34.drew = w35 at HO_3 HO_4 HO_5 HL245_0 HB HL249_0 HL251_0 HR249_0 HR251_0 hx249_0 hx250_0 hx251_0 hx252_0 hHeld ⊢
                        refine pure_ (i := 0) (N := some 71) (v := ?_) (a' := ?_) #[true, false, false, false, false, false, false, false, false, false, false, false, false, false, false, false, false, false, false, false] rfl rfl (any_of HT_.out (by kernel_rfl)) (fun _ _ _ h => h) (Or.inl ⟨by rfl, ?_⟩) ?_ ?_
                        rotate_left
                        ·
                         intro w'
                         go_simp
                         with_reducible rfl
                        rotate_left
                        ·
                         simp only [Act.put, List.setIfInBounds_toArray, List.set_cons_zero, List.set_cons_succ, i64_w, i32_w]
                         rfl
                        refine pure_ (i := 1) (N := some 72) (v := ?_) (a' := ?_) #[true, true, false, false, false, false, false, false, false, false, false, false, false, false, false, false, false, false, false, false] rfl rfl (any_of HT_.out (by kernel_rfl)) (fun _ _ _ h => h) (Or.inl ⟨by rfl, ?_⟩) ?_ ?_
                        rotate_left
                        ·
                         intro w'
                         go_simp
                         with_reducible rfl
                        rotate_left
                        ·
                         simp only [Act.put, List.setIfInBounds_toArray, List.set_cons_zero, List.set_cons_succ, i64_w, i32_w]
                         rfl
                        refine pure_ (i := 2) (N := some 73) (v := ?_) (a' := ?_) #[true, true, true, false, false, false, false, false, false, false, false, false, false, false, false, false, false, false, false, false] rfl rfl (any_of HT_.out (by kernel_rfl)) (fun _ _ _ h => h) (Or.inl ⟨by rfl, ?_⟩) ?_ ?_
                        rotate_left
                        ·
                         intro w'
                         go_simp
                         with_reducible rfl
                        rotate_left
                        ·
                         simp only [Act.put, List.setIfInBounds_toArray, List.set_cons_zero, List.set_cons_succ, i64_w, i32_w]
                         rfl
                        refine pure_ (i := 3) (N := some 74) (v := ?_) (a' := ?_) #[true, true, true, true, false, false, false, false, false, false, false, false, false, false, false, false, false, false, false, false] rfl rfl (any_of HT_.out (by kernel_rfl)) (fun _ _ _ h => h) (Or.inl ⟨by rfl, ?_⟩) ?_ ?_
                        rotate_left
                        ·
                         intro w'
                         go_simp
                         with_reducible rfl
                        rotate_left
                        ·
                         simp only [Act.put, List.setIfInBounds_toArray, List.set_cons_zero, List.set_cons_succ, i64_w, i32_w]
                         rfl
                        refine pure_ (i := 4) (N := some 75) (v := ?_) (a' := ?_) #[true, true, true, true, true, false, false, false, false, false, false, false, false, false, false, false, false, false, false, false] rfl rfl (any_of HT_.out (by kernel_rfl)) (fun _ _ _ h => h) (Or.inl ⟨by rfl, ?_⟩) ?_ ?_
                        rotate_left
                        ·
                         intro w'
                         go_simp
                         with_reducible rfl
                        rotate_left
                        ·
                         simp only [Act.put, List.setIfInBounds_toArray, List.set_cons_zero, List.set_cons_succ, i64_w, i32_w]
                         rfl
                        refine pure_ (i := 5) (N := some 76) (v := ?_) (a' := ?_) #[true, true, true, true, true, true, false, false, false, false, false, false, false, false, false, false, false, false, false, false] rfl rfl (any_of HT_.out (by kernel_rfl)) (fun _ _ _ h => h) (Or.inl ⟨by rfl, ?_⟩) ?_ ?_
                        rotate_left
                        ·
                         intro w'
                         go_simp
                         with_reducible rfl
                        rotate_left
                        ·
                         simp only [Act.put, List.setIfInBounds_toArray, List.set_cons_zero, List.set_cons_succ, i64_w, i32_w]
                         rfl
                        refine pure_ (i := 6) (N := some 77) (v := ?_) (a' := ?_) #[true, true, true, true, true, true, true, false, false, false, false, false, false, false, false, false, false, false, false, false] rfl rfl (any_of HT_.out (by kernel_rfl)) (fun _ _ _ h => h) (Or.inl ⟨by rfl, ?_⟩) ?_ ?_
                        rotate_left
                        ·
                         intro w'
                         go_simp
                         with_reducible rfl
                        rotate_left
                        ·
                         simp only [Act.put, List.setIfInBounds_toArray, List.set_cons_zero, List.set_cons_succ, i64_w, i32_w]
                         rfl
                        refine pure_ (i := 10) (N := some 81) (v := ?_) (a' := ?_) #[true, true, true, true, true, true, true, false, false, false, true, false, false, false, false, false, false, false, false, false] rfl rfl (any_of HT_.out (by kernel_rfl)) (fun _ _ _ h => h) (Or.inl ⟨by rfl, ?_⟩) ?_ ?_
                        rotate_left
                        ·
                         intro w'
                         go_simp
                         with_reducible rfl
                        rotate_left
                        ·
                         simp only [Act.put, List.setIfInBounds_toArray, List.set_cons_zero, List.set_cons_succ, i64_w, i32_w]
                         rfl
                        refine pure_ (i := 11) (N := some 82) (v := ?_) (a' := ?_) #[true, true, true, true, true, true, true, false, false, false, true, true, false, false, false, false, false, false, false, false] rfl rfl (any_of HT_.out (by kernel_rfl)) (fun _ _ _ h => h) (Or.inl ⟨by rfl, ?_⟩) ?_ ?_
                        rotate_left
                        ·
                         intro w'
                         go_simp
                         with_reducible rfl
                        rotate_left
                        ·
                         simp only [Act.put, List.setIfInBounds_toArray, List.set_cons_zero, List.set_cons_succ, i64_w, i32_w]
                         rfl
                        refine pure_ (i := 12) (N := some 83) (v := ?_) (a' := ?_) #[true, true, true, true, true, true, true, false, false, false, true, true, true, false, false, false, false, false, false, false] rfl rfl (any_of HT_.out (by kernel_rfl)) (fun _ _ _ h => h) (Or.inl ⟨by rfl, ?_⟩) ?_ ?_
                        rotate_left
                        ·
                         intro w'
                         go_simp
                         with_reducible rfl
                        rotate_left
                        ·
                         simp only [Act.put, List.setIfInBounds_toArray, List.set_cons_zero, List.set_cons_succ, i64_w, i32_w]
                         rfl
                        refine pure_ (i := 14) (N := some 85) (v := ?_) (a' := ?_) #[true, true, true, true, true, true, true, false, false, false, true, true, true, false, true, false, false, false, false, false] rfl rfl (any_of HT_.out (by kernel_rfl)) (fun _ _ _ h => h) (Or.inl ⟨by rfl, ?_⟩) ?_ ?_
                        rotate_left
                        ·
                         intro w'
                         go_simp
                         with_reducible rfl
                        rotate_left
                        ·
                         simp only [Act.put, List.setIfInBounds_toArray, List.set_cons_zero, List.set_cons_succ, i64_w, i32_w]
                         rfl
                        refine take_ (i := 7) (N := some 78) (v := ?_) (a' := ?_) #[true, true, true, true, true, true, true, true, false, false, true, true, true, false, true, false, false, false, false, false] rfl rfl (take_ofW HT_.out HW_.out (by kernel_rfl)) (fun _ _ _ h => h) (Or.inl ⟨by rfl, ?_⟩) hHeld ?_ ?_
                        rotate_left
                        ·
                         rintro w' ⟨s0, s1, s2, s3⟩
                         go_simp
                         with_reducible rfl
                        rotate_left
                        ·
                         simp only [Act.put, List.setIfInBounds_toArray, List.set_cons_zero, List.set_cons_succ, i64_w, i32_w]
                         rfl
                        refine pure_ (i := 8) (N := some 79) (v := ?_) (a' := ?_) #[true, true, true, true, true, true, true, true, true, false, true, true, true, false, true, false, false, false, false, false] rfl rfl (any_of HT_.out (by kernel_rfl)) (fun _ _ _ h => h) (Or.inl ⟨by rfl, ?_⟩) ?_ ?_
                        rotate_left
                        ·
                         intro w'
                         go_simp
                         with_reducible rfl
                        rotate_left
                        ·
                         simp only [Act.put, List.setIfInBounds_toArray, List.set_cons_zero, List.set_cons_succ, i64_w, i32_w]
                         rfl
                        refine take_ (i := 9) (N := some 80) (v := ?_) (a' := ?_) #[true, true, true, true, true, true, true, true, true, true, true, true, true, false, true, false, false, false, false, false] rfl rfl (take_ofW HT_.out HW_.out (by kernel_rfl)) (fun _ _ _ h => h) (Or.inl ⟨by rfl, ?_⟩) hHeld ?_ ?_
                        rotate_left
                        ·
                         rintro w' ⟨s0, s1, s2, s3⟩
                         go_simp
                         with_reducible rfl
                        rotate_left
                        ·
                         simp only [Act.put, List.setIfInBounds_toArray, List.set_cons_zero, List.set_cons_succ, i64_w, i32_w]
                         rfl
                        refine take_ (i := 13) (N := some 84) (v := ?_) (a' := ?_) #[true, true, true, true, true, true, true, true, true, true, true, true, true, true, true, false, false, false, false, false] rfl rfl (take_ofW HT_.out HW_.out (by kernel_rfl)) (fun _ _ _ h => h) (Or.inl ⟨by rfl, ?_⟩) hHeld ?_ ?_
                        rotate_left
                        ·
                         rintro w' ⟨s0, s1, s2, s3⟩
                         go_simp
                         with_reducible rfl
                        rotate_left
                        ·
                         simp only [Act.put, List.setIfInBounds_toArray, List.set_cons_zero, List.set_cons_succ, i64_w, i32_w]
                         rfl
                        refine pure_ (i := 15) (N := some 86) (v := ?_) (a' := ?_) #[true, true, true, true, true, true, true, true, true, true, true, true, true, true, true, true, false, false, false, false] rfl rfl (any_of HT_.out (by kernel_rfl)) (fun _ _ _ h => h) (Or.inl ⟨by rfl, ?_⟩) ?_ ?_
                        rotate_left
                        ·
                         intro w'
                         go_simp
                         with_reducible rfl
                        rotate_left
                        ·
                         simp only [Act.put, List.setIfInBounds_toArray, List.set_cons_zero, List.set_cons_succ, i64_w, i32_w]
                         rfl
                        refine take_ (i := 16) (N := some 87) (v := ?_) (a' := ?_) #[true, true, true, true, true, true, true, true, true, true, true, true, true, true, true, true, true, false, false, false] rfl rfl (take_ofW HT_.out HW_.out (by kernel_rfl)) (fun _ _ _ h => h) (Or.inl ⟨by rfl, ?_⟩) hHeld ?_ ?_
                        rotate_left
                        ·
                         rintro w' ⟨s0, s1, s2, s3⟩
                         go_simp
                         with_reducible rfl
                        rotate_left
                        ·
                         simp only [Act.put, List.setIfInBounds_toArray, List.set_cons_zero, List.set_cons_succ, i64_w, i32_w]
                         rfl
                        refine one_ (i := 17) (N := some 88) #[true, true, true, true, true, true, true, true, true, true, true, true, true, true, true, true, true, true, false, false] rfl rfl (one_of HT_.out (by kernel_rfl)) (by decide) (fun K hK => ?_)
                        refine goes_ Try.func52 (by kernel_rfl) rfl #[.slice A0 l0.length c0, .int .i64 (rd (rd_L1 t231 x6_1) 0), .int .i64 (rd (rd_L1 t231 x6_1) x7_2)] (by rfl) rfl rfl p5_2 ?_
                        with_reducible refine (ladderbackref31_Dominates.calls kj16 _ _ l0 (rd (rd_L1 t231 x6_1) 0) (rd (rd_L1 t231 x6_1) x7_2) true _ ?side1 ?side2 A30.out).mono ?_
                        (case side1 => repeat (first | exact (Kd.C_below HR0.out HB.out) | (with_reducible refine Kd.C_alloc ?_ _) | (with_reducible refine Kd.C_drewN ?_ _) | (with_reducible refine Kd.C_drew ?_)))
                        (case side2 => exact HC0.out)
                        rintro e w36 ⟨rfl, hb⟩
                        have HS0_ := (hb.cell (World.block_lt_of_cell? _ _ (hHeld.1))).trans (hHeld.1)
                        have HS1_ := (hb.cell (World.block_lt_of_cell? _ _ (hHeld.2.1))).trans (hHeld.2.1)
                        have HS2_ := (hb.cell (World.block_lt_of_cell? _ _ (hHeld.2.2.1))).trans (hHeld.2.2.1)
                        have HS3_ := (hb.cell (World.block_lt_of_cell? _ _ (hHeld.2.2.2))).trans (hHeld.2.2.2)
                        refine ⟨_, rfl, ?_⟩
                        have n0_ := Aside0.mk (Kd.N_below p5_7 hb)
                        have n1_ := Aside0.mk (Kd.R_below p5_4 hb)
                        have n2_ := Aside0.mk (Kd.R_below p5_8 hb)
                        have n3_ := Aside0.mk (Kd.V_below (by (with_reducible repeat (first | apply Kd.V_alloc | apply Kd.V_drewN | apply Kd.V_drew)); exact HL245_0.out) hb)
                        have n4_ := Aside0.mk (Kd.V_below (by (with_reducible repeat (first | apply Kd.V_alloc | apply Kd.V_drewN | apply Kd.V_drew)); exact HL249_0.out) hb)
                        have n5_ := Aside0.mk (Kd.V_below (by (with_reducible repeat (first | apply Kd.V_alloc | apply Kd.V_drewN | apply Kd.V_drew)); exact HL251_0.out) hb)
                        have n6_ := Aside0.mk (Kd.C_below p5_11 hb)
                        have n7_ := Aside0.mk (Kd.C_below p5_12 hb)
                        have n8_ := Aside0.mk (below_step p5_1 hb)
                        clear HO_3
                        clear HO_4
                        clear HO_5
                        clear HL245_0
                        clear HL249_0
                        clear HL251_0
                        clear HR249_0
                        clear HR251_0
                        clear HB
                        have HO_3 := n0_
                        have HO_4 := n1_
                        have HO_5 := n2_
                        have HL245_0 := n3_
                        have HL249_0 := n4_
                        have HL251_0 := n5_
                        have HR249_0 := n6_
                        have HR251_0 := n7_
                        have HB := n8_
                        clear n0_ n1_ n2_ n3_ n4_ n5_ n6_ n7_ n8_
                        (try clear hb)
                        (try clear hb2)
                        (try clear hk)
                        (try clear hi)
                        refine hK.out _ _ ⟨HS0_, HS1_, HS2_, HS3_⟩ (fun hHeld => ?_)
                        clear hK K
                        refine norm_ (a' := ?_) ?_ ?_
                        rotate_left
                        ·
                         show Act.put _ (some 88) _ = _
                         simp only [Act.put, List.setIfInBounds_toArray, List.set_cons_zero, List.set_cons_succ, i64_w, i32_w]
                         rfl
                        refine pure_ (i := 18) (N := some 89) (v := ?_) (a' := ?_) #[true, true, true, true, true, true, true, true, true, true, true, true, true, true, true, true, true, true, true, false] rfl rfl (any_of HT_.out (by kernel_rfl)) (fun _ _ _ h => h) (Or.inl ⟨by rfl, ?_⟩) ?_ ?_
                        rotate_left
                        ·
                         intro w'
                         go_simp
                         with_reducible rfl
                        rotate_left
                        ·
                         simp only [Act.put, List.setIfInBounds_toArray, List.set_cons_zero, List.set_cons_succ, i64_w, i32_w]
                         rfl
                        refine pure_ (i := 19) (N := some 90) (v := ?_) (a' := ?_) #[true, true, true, true, true, true, true, true, true, true, true, true, true, true, true, true, true, true, true, true] rfl rfl (any_of HT_.out (by kernel_rfl)) (fun _ _ _ h => h) (Or.inl ⟨by rfl, ?_⟩) ?_ ?_
                        rotate_left
                        ·
                         intro w'
                         go_simp
                         with_reducible rfl
                        rotate_left
                        ·
                         simp only [Act.put, List.setIfInBounds_toArray, List.set_cons_zero, List.set_cons_succ, i64_w, i32_w]
                         rfl
                        refine done_ (done_of HT_.out (by kernel_rfl)) ?_
                        try go_wp2
                        repeat (go_quiet (fail); try go_wp2)
                        go_roundg kj16
                        case measure => have := HK1.out; have := HK2.out; have := HJ16.out; omega
                        case rel => exact ⟨(y248), (wrap64 (x7_2 + 1)), p5_3, H', ⟨by have := HK1.out; have := HK2.out; have := HJ16.out; omega⟩, ⟨by (with_reducible repeat (first | apply Kd.N_alloc | apply Kd.N_drewN | apply Kd.N_drew)); exact HO_3.out⟩, ⟨by (with_reducible repeat (first | apply Kd.R_alloc | apply Kd.R_drewN | apply Kd.R_drew)); exact HO_4.out⟩, ⟨by (with_reducible repeat (first | apply Kd.R_alloc | apply Kd.R_drewN | apply Kd.R_drew)); exact HO_5.out⟩, ⟨by repeat (first | (with_reducible first | exact HB.out | apply below_alloc | apply pw_below_drewN | apply below_drew1) | exact HB.out)⟩⟩
                       ·
                        replace c31 := Bool.eq_false_iff.mpr c31
                        subst c31
                        have H1 : (some false) = some r := by rw [if_neg (show ¬ (false = true) by decide)] at H; exact H
                        clear H
                        have H := H1
                        clear H1
                        exact absurd (Option.some.inj H) (by rw [HRT.out]; decide)
                      ·
                       rw [if_neg c29] at H
                       exact absurd H (by simp)
                     ·
                      rw [if_neg c28] at H
                      have c28b0 : decide (0 < x7_2) = false := decide_eq_false c28
                      clear c28
                      have H' := Aside0.mk H
                      clear H
                      have p245 : 0 ≤ (x6_1 : Int) := of_decide_eq_true p5_0
                      have q245 : x6_1 < (t231.length : Int) := of_decide_eq_true p5_0
                      obtain ⟨ad245, A245_0, c245_0, e245, hx245_0, hl245_0, hi245_0⟩ := at_L1 (Kd.N_reads' HO_3.out).2.2 x6_1 p245 q245
                      obtain rfl : ad240 = ad245 := (by injection e245)
                      (try clear hx240_0)
                      obtain ⟨ce245, hce245, hMe245, hcc245⟩ := Kd.N_get HO_3.out [] x6_1 p245 (by first | exact q245 | exact of_decide_eq_true p5_0 | (have e_ := (Kd.N_reads' HO_3.out).1; omega))
                      obtain ⟨ua245_0, uc245_0, rfl, ul245_0, ge245_0⟩ := Kd.FK_slice_open hMe245
                      have hv245_0 := hcc245 0 _ rfl
                      rw [Nat.add_zero, show ((Kd.slice 3 (Kd.int .i64))).sz = 1 from rfl, Nat.mul_one] at hv245_0
                      replace hv245_0 := Option.some.inj (hv245_0.symm.trans hx245_0)
                      injection hv245_0 with hva_ hvn_ hvc_
                      rw [hva_] at ge245_0
                      rw [hvc_] at ul245_0
                      have HL245_0 := Aside0.mk (show Kd.V (Kd.int .i64) 3 _ w.heap.size _ _ (rd_L1 t231 x6_1) from Kd.V_mk ul245_0 ge245_0)
                      clear hva_ hvn_ hvc_ ge245_0 ul245_0
                      clear hcc245 hce245
                      have HR245_0 := Aside0.mk hi245_0
                      have HC245_0 := Aside0.mk hl245_0
                      clear hi245_0 hl245_0
                      replace p245 := eq_true p245
                      replace q245 := eq_true q245
                      have p246 : 0 ≤ (x7_2 : Int) := of_decide_eq_true p5_0
                      have q246 : x7_2 < ((rd_L1 t231 x6_1).length : Int) := of_decide_eq_true p5_0
                      obtain ⟨ad246, e246, hx246_0⟩ := Kd.at_int p5_10 x7_2 p246 q246
                      cases e246
                      replace p246 := eq_true p246
                      replace q246 := eq_true q246
                      obtain ⟨Ao37, co37, eo37⟩ := Kd.R_slice HO_5.out
                      subst eo37
                      have p247 : 0 ≤ ((rd (rd_L1 t231 x6_1) x7_2) : Int) := of_decide_eq_true p5_0
                      have q247 : (rd (rd_L1 t231 x6_1) x7_2) < (x5_2.length : Int) := of_decide_eq_true p5_0
                      obtain ⟨ad247, e247, hx247_0⟩ := Kd.at_int (Kd.R_reads' HO_5.out).2.2 (rd (rd_L1 t231 x6_1) x7_2) p247 q247
                      cases e247
                      replace p247 := eq_true p247
                      replace q247 := eq_true q247
                      have p27 : 0 ≤ ((rd (rd_L1 t231 x6_1) x7_2) : Int) := of_decide_eq_true p5_0
                      have q27 : ((rd (rd_L1 t231 x6_1) x7_2) : Int) < ((x5_2.length : Int) : Int) := of_decide_eq_true p5_0
                      obtain ⟨go27, co27, eo27, gb27, gl27, cl27, HG27⟩ := Kd.R_form HO_5.out (by omega)
                      (first | cases eo27 | (injection eo27 with ea_ en_ ec_; (first | subst ea_ | (injection ea_ with ea_; subst ea_)); subst ec_; clear en_))
                      have GB27 := Aside0.mk gb27
                      have GG27 := Aside0.mk HG27
                      clear gb27 gl27 HG27
                      (first | simp only [add_plain] at hx247_0 | skip)
                      obtain ⟨hx27_0, hf27_0⟩ := Kd.R_celln 0 HO_5.out ((rd (rd_L1 t231 x6_1) x7_2) : Int) p27 q27
                      replace p27 := eq_true p27
                      replace q27 := eq_true q27
                      have HP38 := Kd.R_putg HO_5.out ((rd (rd_L1 t231 x6_1) x7_2) : Int) (wrap64 ((rd x5_2 (rd (rd_L1 t231 x6_1) x7_2)) + (wrap64 (x6_1 + 1))))
                      try go_wp2_with (first | ((with_reducible refine gate_store (t := 3) (p := 70) rfl ?_); refine store_event (t := 3) (p := 70) (v := ?vo_w39) (w1 := (wc.setCell ⟨go27, ((rd (rd_L1 t231 x6_1) x7_2) : Int).toNat, none⟩ (.int .i64 (wrap64 ((rd x5_2 (rd (rd_L1 t231 x6_1) x7_2)) + (wrap64 (x6_1 + 1))))))) ?hg ?ho ?hn ?hr ?_; (case ho => rfl); (case hg => rfl); (case hn => rfl); (case hr => first | (go_simp; done) | (go_simp; rfl)); intro w39 hw; have hg : wc.grownBy w39 (some go27) := (by rw [hw]; exact HP38.2); have hp_ : Kd.R (Kd.int .i64) 3 w39 w.heap.size (fun _ => True) (.slice (some ⟨go27, 0, none⟩) x5_2.length co37) y248 := (by rw [hw, Ny248.out]; exact HP38.1); clear HP38; have n0_ := Aside0.mk (Kd.N_afterv (v := (.slice (some ⟨go27, 0, none⟩) x5_2.length co37)) (v1 := (.slice (some ⟨go27, 0, none⟩) x5_2.length co37)) (ok := (fun k_ => some k_ ≠ (v235 : Value).ownBlock)) p5_7 hg (.inl rfl)); have n1_ := Aside0.mk (Kd.R_over' (v := (.slice (some ⟨go27, 0, none⟩) x5_2.length co37)) p5_4 (Kd.R_typed HO_5.out) (by decide) hg); have n2_ := Aside0.mk (hp_); have n3_ := Aside0.mk (Kd.V_afterv (v := (.slice (some ⟨go27, 0, none⟩) x5_2.length co37)) (v1 := (.slice (some ⟨go27, 0, none⟩) x5_2.length co37)) (ok := (fun k_ => some k_ ≠ (.slice (some ad240) t231.length co13 : Value).ownBlock ∧ some k_ ≠ (v235 : Value).ownBlock)) p5_5 hg (.inl rfl)); have n4_ := Aside0.mk ((by rw [hw]; exact below_set (HB.out) GB27.out : Below w.heap.size w w39)); clear HO_3; clear HO_4; clear HO_5; clear HL245_0; clear HB; have HO_3 := n0_; have HO_4 := n1_; have HO_5 := n2_; have HL245_0 := n3_; have HB := n4_; clear n0_ n1_ n2_ n3_ n4_; clear hg hw hp_))
                      have n0_ := Aside0.mk (Kd.N_drew HO_3.out)
                      have n1_ := Aside0.mk (Kd.R_drew HO_4.out)
                      have n2_ := Aside0.mk (Kd.R_drew HO_5.out)
                      have n3_ := Aside0.mk (Kd.V_drew HL245_0.out)
                      have n4_ := Aside0.mk (below_drew1 HB.out)
                      clear HO_3
                      clear HO_4
                      clear HO_5
                      clear HL245_0
                      clear HB
                      have HO_3 := n0_
                      have HO_4 := n1_
                      have HO_5 := n2_
                      have HL245_0 := n3_
                      have HB := n4_
                      clear n0_ n1_ n2_ n3_ n4_
                      refine start_ (n := 20) (S := fun w' => True) (ds := []) #[false, false, false, false, false, false, false, false, false, false, false, false, false, false, false, false, false, false, false, false] (by kernel_rfl) rfl rfl trivial (fun hHeld => ?_); refine with_tabW ladderbacklaw34_InterOnce.tab15 ladderbacklaw34_InterOnce.bits15 (fun HT_ HW_ => ?_)
                      generalize w39.drew = w40 at HO_3 HO_4 HO_5 HL245_0 HB hHeld ⊢
                      refine pure_ (i := 0) (N := some 71) (v := ?_) (a' := ?_) #[true, false, false, false, false, false, false, false, false, false, false, false, false, false, false, false, false, false, false, false] rfl rfl (any_of HT_.out (by kernel_rfl)) (fun _ _ _ h => h) (Or.inl ⟨by rfl, ?_⟩) ?_ ?_
                      rotate_left
                      ·
                       intro w'
                       go_simp
                       with_reducible rfl
                      rotate_left
                      ·
                       simp only [Act.put, List.setIfInBounds_toArray, List.set_cons_zero, List.set_cons_succ, i64_w, i32_w]
                       rfl
                      refine pure_ (i := 1) (N := some 72) (v := ?_) (a' := ?_) #[true, true, false, false, false, false, false, false, false, false, false, false, false, false, false, false, false, false, false, false] rfl rfl (any_of HT_.out (by kernel_rfl)) (fun _ _ _ h => h) (Or.inl ⟨by rfl, ?_⟩) ?_ ?_
                      rotate_left
                      ·
                       intro w'
                       go_simp
                       with_reducible rfl
                      rotate_left
                      ·
                       simp only [Act.put, List.setIfInBounds_toArray, List.set_cons_zero, List.set_cons_succ, i64_w, i32_w]
                       rfl
                      refine pure_ (i := 2) (N := some 73) (v := ?_) (a' := ?_) #[true, true, true, false, false, false, false, false, false, false, false, false, false, false, false, false, false, false, false, false] rfl rfl (any_of HT_.out (by kernel_rfl)) (fun _ _ _ h => h) (Or.inl ⟨by rfl, ?_⟩) ?_ ?_
                      rotate_left
                      ·
                       intro w'
                       go_simp
                       with_reducible rfl
                      rotate_left
                      ·
                       simp only [Act.put, List.setIfInBounds_toArray, List.set_cons_zero, List.set_cons_succ, i64_w, i32_w]
                       rfl
                      refine pure_ (i := 3) (N := some 74) (v := undef) (a' := ?_) #[true, true, true, true, false, false, false, false, false, false, false, false, false, false, false, false, false, false, false, false] rfl rfl (any_of HT_.out (by kernel_rfl)) (fun _ _ _ h => h) (Or.inr ⟨by rfl, rfl⟩) ?_ ?_
                      rotate_left
                      ·
                       simp only [Act.put, List.setIfInBounds_toArray, List.set_cons_zero, List.set_cons_succ, i64_w, i32_w]
                       rfl
                      refine pure_ (i := 4) (N := some 75) (v := undef) (a' := ?_) #[true, true, true, true, true, false, false, false, false, false, false, false, false, false, false, false, false, false, false, false] rfl rfl (any_of HT_.out (by kernel_rfl)) (fun _ _ _ h => h) (Or.inr ⟨by rfl, rfl⟩) ?_ ?_
                      rotate_left
                      ·
                       simp only [Act.put, List.setIfInBounds_toArray, List.set_cons_zero, List.set_cons_succ, i64_w, i32_w]
                       rfl
                      refine pure_ (i := 5) (N := some 76) (v := undef) (a' := ?_) #[true, true, true, true, true, true, false, false, false, false, false, false, false, false, false, false, false, false, false, false] rfl rfl (any_of HT_.out (by kernel_rfl)) (fun _ _ _ h => h) (Or.inr ⟨by rfl, rfl⟩) ?_ ?_
                      rotate_left
                      ·
                       simp only [Act.put, List.setIfInBounds_toArray, List.set_cons_zero, List.set_cons_succ, i64_w, i32_w]
                       rfl
                      refine pure_ (i := 6) (N := some 77) (v := undef) (a' := ?_) #[true, true, true, true, true, true, true, false, false, false, false, false, false, false, false, false, false, false, false, false] rfl rfl (any_of HT_.out (by kernel_rfl)) (fun _ _ _ h => h) (Or.inr ⟨by rfl, rfl⟩) ?_ ?_
                      rotate_left
                      ·
                       simp only [Act.put, List.setIfInBounds_toArray, List.set_cons_zero, List.set_cons_succ, i64_w, i32_w]
                       rfl
                      refine pure_ (i := 7) (N := some 78) (v := undef) (a' := ?_) #[true, true, true, true, true, true, true, true, false, false, false, false, false, false, false, false, false, false, false, false] rfl rfl (any_of HT_.out (by kernel_rfl)) (fun _ _ _ h => h) (Or.inr ⟨by rfl, rfl⟩) ?_ ?_
                      rotate_left
                      ·
                       simp only [Act.put, List.setIfInBounds_toArray, List.set_cons_zero, List.set_cons_succ, i64_w, i32_w]
                       rfl
                      refine pure_ (i := 8) (N := some 79) (v := undef) (a' := ?_) #[true, true, true, true, true, true, true, true, true, false, false, false, false, false, false, false, false, false, false, false] rfl rfl (any_of HT_.out (by kernel_rfl)) (fun _ _ _ h => h) (Or.inr ⟨by rfl, rfl⟩) ?_ ?_
                      rotate_left
                      ·
                       simp only [Act.put, List.setIfInBounds_toArray, List.set_cons_zero, List.set_cons_succ, i64_w, i32_w]
                       rfl
                      refine pure_ (i := 9) (N := some 80) (v := undef) (a' := ?_) #[true, true, true, true, true, true, true, true, true, true, false, false, false, false, false, false, false, false, false, false] rfl rfl (any_of HT_.out (by kernel_rfl)) (fun _ _ _ h => h) (Or.inr ⟨by rfl, rfl⟩) ?_ ?_
                      rotate_left
                      ·
                       simp only [Act.put, List.setIfInBounds_toArray, List.set_cons_zero, List.set_cons_succ, i64_w, i32_w]
                       rfl
                      refine pure_ (i := 10) (N := some 81) (v := undef) (a' := ?_) #[true, true, true, true, true, true, true, true, true, true, true, false, false, false, false, false, false, false, false, false] rfl rfl (any_of HT_.out (by kernel_rfl)) (fun _ _ _ h => h) (Or.inr ⟨by rfl, rfl⟩) ?_ ?_
                      rotate_left
                      ·
                       simp only [Act.put, List.setIfInBounds_toArray, List.set_cons_zero, List.set_cons_succ, i64_w, i32_w]
                       rfl
                      refine pure_ (i := 11) (N := some 82) (v := undef) (a' := ?_) #[true, true, true, true, true, true, true, true, true, true, true, true, false, false, false, false, false, false, false, false] rfl rfl (any_of HT_.out (by kernel_rfl)) (fun _ _ _ h => h) (Or.inr ⟨by rfl, rfl⟩) ?_ ?_
                      rotate_left
                      ·
                       simp only [Act.put, List.setIfInBounds_toArray, List.set_cons_zero, List.set_cons_succ, i64_w, i32_w]
                       rfl
                      refine pure_ (i := 12) (N := some 83) (v := undef) (a' := ?_) #[true, true, true, true, true, true, true, true, true, true, true, true, true, false, false, false, false, false, false, false] rfl rfl (any_of HT_.out (by kernel_rfl)) (fun _ _ _ h => h) (Or.inr ⟨by rfl, rfl⟩) ?_ ?_
                      rotate_left
                      ·
                       simp only [Act.put, List.setIfInBounds_toArray, List.set_cons_zero, List.set_cons_succ, i64_w, i32_w]
                       rfl
                      refine pure_ (i := 13) (N := some 84) (v := undef) (a' := ?_) #[true, true, true, true, true, true, true, true, true, true, true, true, true, true, false, false, false, false, false, false] rfl rfl (any_of HT_.out (by kernel_rfl)) (fun _ _ _ h => h) (Or.inr ⟨by rfl, rfl⟩) ?_ ?_
                      rotate_left
                      ·
                       simp only [Act.put, List.setIfInBounds_toArray, List.set_cons_zero, List.set_cons_succ, i64_w, i32_w]
                       rfl
                      refine pure_ (i := 14) (N := some 85) (v := undef) (a' := ?_) #[true, true, true, true, true, true, true, true, true, true, true, true, true, true, true, false, false, false, false, false] rfl rfl (any_of HT_.out (by kernel_rfl)) (fun _ _ _ h => h) (Or.inr ⟨by rfl, rfl⟩) ?_ ?_
                      rotate_left
                      ·
                       simp only [Act.put, List.setIfInBounds_toArray, List.set_cons_zero, List.set_cons_succ, i64_w, i32_w]
                       rfl
                      refine pure_ (i := 15) (N := some 86) (v := undef) (a' := ?_) #[true, true, true, true, true, true, true, true, true, true, true, true, true, true, true, true, false, false, false, false] rfl rfl (any_of HT_.out (by kernel_rfl)) (fun _ _ _ h => h) (Or.inr ⟨by rfl, rfl⟩) ?_ ?_
                      rotate_left
                      ·
                       simp only [Act.put, List.setIfInBounds_toArray, List.set_cons_zero, List.set_cons_succ, i64_w, i32_w]
                       rfl
                      refine pure_ (i := 16) (N := some 87) (v := undef) (a' := ?_) #[true, true, true, true, true, true, true, true, true, true, true, true, true, true, true, true, true, false, false, false] rfl rfl (any_of HT_.out (by kernel_rfl)) (fun _ _ _ h => h) (Or.inr ⟨by rfl, rfl⟩) ?_ ?_
                      rotate_left
                      ·
                       simp only [Act.put, List.setIfInBounds_toArray, List.set_cons_zero, List.set_cons_succ, i64_w, i32_w]
                       rfl
                      refine pure_ (i := 17) (N := some 88) (v := undef) (a' := ?_) #[true, true, true, true, true, true, true, true, true, true, true, true, true, true, true, true, true, true, false, false] rfl rfl (any_of HT_.out (by kernel_rfl)) (fun _ _ _ h => h) (Or.inr ⟨by rfl, rfl⟩) ?_ ?_
                      rotate_left
                      ·
                       simp only [Act.put, List.setIfInBounds_toArray, List.set_cons_zero, List.set_cons_succ, i64_w, i32_w]
                       rfl
                      refine pure_ (i := 18) (N := some 89) (v := undef) (a' := ?_) #[true, true, true, true, true, true, true, true, true, true, true, true, true, true, true, true, true, true, true, false] rfl rfl (any_of HT_.out (by kernel_rfl)) (fun _ _ _ h => h) (Or.inr ⟨by rfl, rfl⟩) ?_ ?_
                      rotate_left
                      ·
                       simp only [Act.put, List.setIfInBounds_toArray, List.set_cons_zero, List.set_cons_succ, i64_w, i32_w]
                       rfl
                      refine pure_ (i := 19) (N := some 90) (v := ?_) (a' := ?_) #[true, true, true, true, true, true, true, true, true, true, true, true, true, true, true, true, true, true, true, true] rfl rfl (any_of HT_.out (by kernel_rfl)) (fun _ _ _ h => h) (Or.inl ⟨by rfl, ?_⟩) ?_ ?_
                      rotate_left
                      ·
                       intro w'
                       go_simp
                       with_reducible rfl
                      rotate_left
                      ·
                       simp only [Act.put, List.setIfInBounds_toArray, List.set_cons_zero, List.set_cons_succ, i64_w, i32_w]
                       rfl
                      refine done_ (done_of HT_.out (by kernel_rfl)) ?_
                      try go_wp2
                      repeat (go_quiet (fail); try go_wp2)
                      go_roundg kj16
                      case measure => have := HK1.out; have := HK2.out; have := HJ16.out; omega
                      case rel => exact ⟨(y248), (wrap64 (x7_2 + 1)), p5_3, H', ⟨by have := HK1.out; have := HK2.out; have := HJ16.out; omega⟩, ⟨by (with_reducible repeat (first | apply Kd.N_alloc | apply Kd.N_drewN | apply Kd.N_drew)); exact HO_3.out⟩, ⟨by (with_reducible repeat (first | apply Kd.R_alloc | apply Kd.R_drewN | apply Kd.R_drew)); exact HO_4.out⟩, ⟨by (with_reducible repeat (first | apply Kd.R_alloc | apply Kd.R_drewN | apply Kd.R_drew)); exact HO_5.out⟩, ⟨by repeat (first | (with_reducible first | exact HB.out | apply below_alloc | apply pw_below_drewN | apply below_drew1) | exact HB.out)⟩⟩
                    ·
                     rw [if_neg c26] at H
                     exact absurd H (by simp)
                   ·
                    rw [if_neg c25] at H
                    exact absurd H (by simp)
                  ·
                   rw [if_neg c24] at H
                   exact absurd H (by simp)
                 ·
                  rw [if_neg c23] at H
                  exact absurd H (by simp)
                ·
                 rw [if_neg c22] at H
                 exact absurd H (by simp)
               ·
                rw [if_neg c21] at H
                exact absurd H (by simp)
           ·
            rw [if_neg c16] at H
            have c16b0 : decide (x7_2 < ((rd_L1 t231 x6_1).length : Int)) = false := decide_eq_false c16
            clear c16
            have H' := Aside0.mk H
            clear H
            have p240 : 0 ≤ (x6_1 : Int) := of_decide_eq_true p5_0
            have q240 : x6_1 < (t231.length : Int) := of_decide_eq_true p5_0
            obtain ⟨ad240, A240_0, c240_0, e240, hx240_0, hl240_0, hi240_0⟩ := at_L1 (Kd.N_reads' HO_3.out).2.2 x6_1 p240 q240
            cases e240
            obtain ⟨ce240, hce240, hMe240, hcc240⟩ := Kd.N_get HO_3.out [] x6_1 p240 (by first | exact q240 | exact of_decide_eq_true p5_0 | (have e_ := (Kd.N_reads' HO_3.out).1; omega))
            obtain ⟨ua240_0, uc240_0, rfl, ul240_0, ge240_0⟩ := Kd.FK_slice_open hMe240
            have hv240_0 := hcc240 0 _ rfl
            rw [Nat.add_zero, show ((Kd.slice 3 (Kd.int .i64))).sz = 1 from rfl, Nat.mul_one] at hv240_0
            replace hv240_0 := Option.some.inj (hv240_0.symm.trans hx240_0)
            injection hv240_0 with hva_ hvn_ hvc_
            rw [hva_] at ge240_0
            rw [hvc_] at ul240_0
            have HL240_0 := Aside0.mk (show Kd.V (Kd.int .i64) 3 _ w.heap.size _ _ (rd_L1 t231 x6_1) from Kd.V_mk ul240_0 ge240_0)
            clear hva_ hvn_ hvc_ ge240_0 ul240_0
            clear hcc240 hce240
            have HR240_0 := Aside0.mk hi240_0
            have HC240_0 := Aside0.mk hl240_0
            clear hi240_0 hl240_0
            replace p240 := eq_true p240
            replace q240 := eq_true q240
            try go_wp2
            repeat (go_quiet (fail); try go_wp2)
            go_roundg k2
            case measure => have := HK1.out; have := HK2.out; omega
            case rel => exact ⟨(x5_2), (wrap64 (x6_1 + 1)), p5_3, H', ⟨by have := HK1.out; have := HK2.out; omega⟩, ⟨by (with_reducible repeat (first | apply Kd.N_alloc | apply Kd.N_drewN | apply Kd.N_drew)); exact HO_3.out⟩, ⟨by (with_reducible repeat (first | apply Kd.R_alloc | apply Kd.R_drewN | apply Kd.R_drew)); exact HO_4.out⟩, ⟨by (with_reducible repeat (first | apply Kd.R_alloc | apply Kd.R_drewN | apply Kd.R_drew)); exact HO_5.out⟩, ⟨by repeat (first | (with_reducible first | exact HB.out | apply below_alloc | apply pw_below_drewN | apply below_drew1) | exact HB.out)⟩⟩
          ·
           rw [if_neg c15] at H
           exact absurd H (by simp)
         ·
          rw [if_neg c14] at H
          exact absurd H (by simp)
      ·
       rw [if_neg c12] at H
       have c12b0 : decide (x6_1 < (t231.length : Int)) = false := decide_eq_false c12
       clear c12
       have H' := Aside0.mk H
       clear H
       obtain ⟨Ao41, co41, eo41⟩ := Kd.N_slice HO_3.out
       subst eo41
       try go_wp2
       repeat (go_quiet (fail); try go_wp2)
       go_loopg [8, 9] k1 (fun kq v8 v9 w' => ∃ (x8_2 : Int) (x9_2 : Int), v8 = .int .i64 x8_2 ∧ v9 = .int .i64 x9_2 ∧ Aside0 (ladderbacklaw34_InterOnce.l2 kq l0 t231 t234 x5_1 x8_2 x9_2 = some r) ∧ Aside0 (kq ≤ k1) ∧ Aside0 (Kd.N (Kd.slice 3 (Kd.int .i64)) 27 w' w.heap.size (fun k_ => some k_ ≠ (v235 : Value).ownBlock ∧ some k_ ≠ (v238 : Value).ownBlock) (.slice Ao41 t231.length co41) t231) ∧ Aside0 (Kd.R Kd.bool 4 w' w.heap.size (fun _ => True) v235 t234) ∧ Aside0 (Kd.R (Kd.int .i64) 3 w' w.heap.size (fun _ => True) v238 x5_1) ∧ Aside0 (Below w.heap.size w w'))
       case atStart => exact ⟨(0), (0), p5_3, p5_3, H', ⟨Nat.le_refl _⟩, ⟨by (with_reducible repeat (first | apply Kd.N_alloc | apply Kd.N_drewN | apply Kd.N_drew)); exact HO_3.out⟩, ⟨by (with_reducible repeat (first | apply Kd.R_alloc | apply Kd.R_drewN | apply Kd.R_drew)); exact HO_4.out⟩, ⟨by (with_reducible repeat (first | apply Kd.R_alloc | apply Kd.R_drewN | apply Kd.R_drew)); exact HO_5.out⟩, ⟨by repeat (first | (with_reducible first | exact HB.out | apply below_alloc | apply pw_below_drewN | apply below_drew1) | exact HB.out)⟩⟩
       case round =>
        clear H'
        (try clear c12); (try clear c12b0)
        obtain ⟨x8_2, x9_2, rfl, rfl, HA, HK2, HO_3, HO_4, HO_5, HB⟩ := hrel
        cases gk with
        | zero => exact absurd HA.out (by simp [ladderbacklaw34_InterOnce.l2])
        | succ k2 =>
         have H := HA.out
         clear HA
         simp only [ladderbacklaw34_InterOnce.l2] at H
         by_cases c42 : x9_2 < (t231.length : Int)
         ·
          rw [if_pos c42] at H
          have c42b0 : decide (x9_2 < (t231.length : Int)) = true := decide_eq_true c42
          clear c42
          by_cases c43 : 0 ≤ x9_2
          ·
           rw [if_pos c43] at H
           have c43b0 : decide (0 ≤ x9_2) = true := decide_eq_true c43
           clear c43
           have H' := Aside0.mk H
           clear H
           have p254 : 0 ≤ (x9_2 : Int) := of_decide_eq_true p5_0
           have q254 : x9_2 < (t231.length : Int) := of_decide_eq_true p5_0
           obtain ⟨ad254, A254_0, c254_0, e254, hx254_0, hl254_0, hi254_0⟩ := at_L1 (Kd.N_reads' HO_3.out).2.2 x9_2 p254 q254
           cases e254
           obtain ⟨ce254, hce254, hMe254, hcc254⟩ := Kd.N_get HO_3.out [] x9_2 p254 (by first | exact q254 | exact of_decide_eq_true p5_0 | (have e_ := (Kd.N_reads' HO_3.out).1; omega))
           obtain ⟨ua254_0, uc254_0, rfl, ul254_0, ge254_0⟩ := Kd.FK_slice_open hMe254
           have hv254_0 := hcc254 0 _ rfl
           rw [Nat.add_zero, show ((Kd.slice 3 (Kd.int .i64))).sz = 1 from rfl, Nat.mul_one] at hv254_0
           replace hv254_0 := Option.some.inj (hv254_0.symm.trans hx254_0)
           injection hv254_0 with hva_ hvn_ hvc_
           rw [hva_] at ge254_0
           rw [hvc_] at ul254_0
           have HL254_0 := Aside0.mk (show Kd.V (Kd.int .i64) 3 _ w.heap.size _ _ (rd_L1 t231 x9_2) from Kd.V_mk ul254_0 ge254_0)
           clear hva_ hvn_ hvc_ ge254_0 ul254_0
           clear hcc254 hce254
           have HR254_0 := Aside0.mk hi254_0
           have HC254_0 := Aside0.mk hl254_0
           clear hi254_0 hl254_0
           replace p254 := eq_true p254
           replace q254 := eq_true q254
           try go_wp2
           repeat (go_quiet (fail); try go_wp2)
           go_roundg k2
           case measure => have := HK1.out; have := HK2.out; omega
           case rel => exact ⟨(wrap64 (x8_2 + ((rd_L1 t231 x9_2).length : Int))), (wrap64 (x9_2 + 1)), p5_3, p5_3, H', ⟨by have := HK1.out; have := HK2.out; omega⟩, ⟨by (with_reducible repeat (first | apply Kd.N_alloc | apply Kd.N_drewN | apply Kd.N_drew)); exact HO_3.out⟩, ⟨by (with_reducible repeat (first | apply Kd.R_alloc | apply Kd.R_drewN | apply Kd.R_drew)); exact HO_4.out⟩, ⟨by (with_reducible repeat (first | apply Kd.R_alloc | apply Kd.R_drewN | apply Kd.R_drew)); exact HO_5.out⟩, ⟨by repeat (first | (with_reducible first | exact HB.out | apply below_alloc | apply pw_below_drewN | apply below_drew1) | exact HB.out)⟩⟩
          ·
           rw [if_neg c43] at H
           exact absurd H (by simp)
         ·
          rw [if_neg c42] at H
          have c42b0 : decide (x9_2 < (t231.length : Int)) = false := decide_eq_false c42
          clear c42
          have H' := Aside0.mk H
          clear H
          try go_wp2
          repeat (go_quiet (fail); try go_wp2)
          go_loopg [8, 10] k2 (fun kq v8 v10 w' => ∃ (x8_3 : Int) (x10_3 : Int), v8 = .int .i64 x8_3 ∧ v10 = .int .i64 x10_3 ∧ Aside0 (ladderbacklaw34_InterOnce.l3 kq l0 t234 x5_1 x8_3 x10_3 = some r) ∧ Aside0 (kq ≤ k2) ∧ Aside0 (Kd.R Kd.bool 4 w' w.heap.size (fun _ => True) v235 t234) ∧ Aside0 (Kd.R (Kd.int .i64) 3 w' w.heap.size (fun _ => True) v238 x5_1) ∧ Aside0 (Below w.heap.size w w'))
          case atStart => exact ⟨(x8_2), (0), p5_3, p5_3, H', ⟨Nat.le_refl _⟩, ⟨by (with_reducible repeat (first | apply Kd.R_alloc | apply Kd.R_drewN | apply Kd.R_drew)); exact HO_4.out⟩, ⟨by (with_reducible repeat (first | apply Kd.R_alloc | apply Kd.R_drewN | apply Kd.R_drew)); exact HO_5.out⟩, ⟨by repeat (first | (with_reducible first | exact HB.out | apply below_alloc | apply pw_below_drewN | apply below_drew1) | exact HB.out)⟩⟩
          case round =>
           clear H'
           (try clear c42); (try clear c42b0)
           obtain ⟨x8_3, x10_3, rfl, rfl, HA, HK3, HO_4, HO_5, HB⟩ := hrel
           cases gk with
           | zero => exact absurd HA.out (by simp [ladderbacklaw34_InterOnce.l3])
           | succ k3 =>
            have H := HA.out
            clear HA
            simp only [ladderbacklaw34_InterOnce.l3] at H
            by_cases c44 : x10_3 < (l0.length : Int)
            ·
             rw [if_pos c44] at H
             have c44b0 : decide (x10_3 < (l0.length : Int)) = true := decide_eq_true c44
             clear c44
             by_cases c45 : 0 ≤ x10_3
             ·
              rw [if_pos c45] at H
              have c45b0 : decide (0 ≤ x10_3) = true := decide_eq_true c45
              clear c45
              by_cases c46 : x10_3 < (t234.length : Int)
              ·
               rw [if_pos c46] at H
               have c46b0 : decide (x10_3 < (t234.length : Int)) = true := decide_eq_true c46
               clear c46
               by_cases c47 : x10_3 < (x5_1.length : Int)
               ·
                rw [if_pos c47] at H
                have c47b0 : decide (x10_3 < (x5_1.length : Int)) = true := decide_eq_true c47
                clear c47
                obtain ⟨bq48, hbq48⟩ : ∃ b_ : Bool, b_ = (((rdOf false t234 x10_3) != (decide ((rd x5_1 x10_3) > 0)))) := ⟨_, rfl⟩
                replace H : (if bq48 = true then (some false) else (if rdOf false t234 x10_3 = true then (ladderbacklaw34_InterOnce.l3 k3 l0 t234 x5_1 (wrap64 (x8_3 - 1)) (wrap64 (x10_3 + 1))) else (ladderbacklaw34_InterOnce.l3 k3 l0 t234 x5_1 x8_3 (wrap64 (x10_3 + 1))))) = some r := by rw [← hbq48] at H; exact H
                have Nbq48 := Aside0.mk hbq48
                clear hbq48
                (try rw [← Nbq48.out])
                by_cases c49 : bq48 = true
                ·
                 subst c49
                 have eqbq48 : ((rdOf false t234 x10_3) == (decide ((rd x5_1 x10_3) > 0))) = false := by have h_ := Nbq48.out; revert h_; generalize (rdOf false t234 x10_3) = a_; generalize (decide ((rd x5_1 x10_3) > 0)) = b_; cases a_ <;> cases b_ <;> simp
                 have H1 : (some false) = some r := by rw [if_pos rfl] at H; exact H
                 clear H
                 have H := H1
                 clear H1
                 exact absurd (Option.some.inj H) (by rw [HRT.out]; decide)
                ·
                 replace c49 := Bool.eq_false_iff.mpr c49
                 subst c49
                 have eqbq48 : ((rdOf false t234 x10_3) == (decide ((rd x5_1 x10_3) > 0))) = true := by have h_ := Nbq48.out; revert h_; generalize (rdOf false t234 x10_3) = a_; generalize (decide ((rd x5_1 x10_3) > 0)) = b_; cases a_ <;> cases b_ <;> simp
                 have H1 : (if rdOf false t234 x10_3 = true then (ladderbacklaw34_InterOnce.l3 k3 l0 t234 x5_1 (wrap64 (x8_3 - 1)) (wrap64 (x10_3 + 1))) else (ladderbacklaw34_InterOnce.l3 k3 l0 t234 x5_1 x8_3 (wrap64 (x10_3 + 1)))) = some r := by rw [if_neg (show ¬ (false = true) by decide)] at H; exact H
                 clear H
                 have H := H1
                 clear H1
                 obtain ⟨bq50, hbq50⟩ : ∃ b_ : Bool, b_ = (rdOf false t234 x10_3) := ⟨_, rfl⟩
                 replace H : (if bq50 = true then (ladderbacklaw34_InterOnce.l3 k3 l0 t234 x5_1 (wrap64 (x8_3 - 1)) (wrap64 (x10_3 + 1))) else (ladderbacklaw34_InterOnce.l3 k3 l0 t234 x5_1 x8_3 (wrap64 (x10_3 + 1)))) = some r := by rw [← hbq50] at H; exact H
                 have Nbq50 := Aside0.mk hbq50
                 clear hbq50
                 (try rw [← Nbq50.out])
                 by_cases c51 : bq50 = true
                 ·
                  subst c51
                  have dd_ : decide ((rd x5_1 x10_3) > 0) = true := by have h1_ := Nbq50.out; have h2_ := eqbq48; rw [← h1_] at h2_; revert h2_; cases decide ((rd x5_1 x10_3) > 0) <;> simp
                  have dd2_ : decide (0 < (rd x5_1 x10_3)) = true := dd_
                  have H1 : (ladderbacklaw34_InterOnce.l3 k3 l0 t234 x5_1 (wrap64 (x8_3 - 1)) (wrap64 (x10_3 + 1))) = some r := by rw [if_pos rfl] at H; exact H
                  clear H
                  have H := H1
                  clear H1
                  have H' := Aside0.mk H
                  clear H
                  obtain ⟨Ao52, co52, eo52⟩ := Kd.R_slice HO_4.out
                  subst eo52
                  have p256 : 0 ≤ (x10_3 : Int) := of_decide_eq_true p5_0
                  have q256 : x10_3 < (t234.length : Int) := of_decide_eq_true p5_0
                  obtain ⟨ad256, e256, hx256_0⟩ := Kd.at_bool (Kd.R_reads' HO_4.out).2.2 x10_3 p256 q256
                  (try rw [← Nbq48.out] at hx256_0)
                  (try rw [← Nbq50.out] at hx256_0)
                  cases e256
                  replace p256 := eq_true p256
                  replace q256 := eq_true q256
                  obtain ⟨Ao53, co53, eo53⟩ := Kd.R_slice HO_5.out
                  subst eo53
                  have p257 : 0 ≤ (x10_3 : Int) := of_decide_eq_true p5_0
                  have q257 : x10_3 < (x5_1.length : Int) := of_decide_eq_true p5_0
                  obtain ⟨ad257, e257, hx257_0⟩ := Kd.at_int (Kd.R_reads' HO_5.out).2.2 x10_3 p257 q257
                  cases e257
                  replace p257 := eq_true p257
                  replace q257 := eq_true q257
                  have p258 : 0 ≤ (x10_3 : Int) := of_decide_eq_true p5_0
                  have q258 : x10_3 < (t234.length : Int) := of_decide_eq_true p5_0
                  obtain ⟨ad258, e258, hx258_0⟩ := Kd.at_bool (Kd.R_reads' HO_4.out).2.2 x10_3 p258 q258
                  (try rw [← Nbq48.out] at hx258_0)
                  (try rw [← Nbq50.out] at hx258_0)
                  obtain rfl : ad256 = ad258 := (by injection e258)
                  (try clear hx256_0)
                  replace p258 := eq_true p258
                  replace q258 := eq_true q258
                  try go_wp2
                  repeat (go_quiet (fail); try go_wp2)
                  go_roundg k3
                  case measure => have := HK1.out; have := HK2.out; have := HK3.out; omega
                  case rel => exact ⟨(wrap64 (x8_3 - 1)), (wrap64 (x10_3 + 1)), p5_3, p5_3, H', ⟨by have := HK1.out; have := HK2.out; have := HK3.out; omega⟩, ⟨by (with_reducible repeat (first | apply Kd.R_alloc | apply Kd.R_drewN | apply Kd.R_drew)); exact HO_4.out⟩, ⟨by (with_reducible repeat (first | apply Kd.R_alloc | apply Kd.R_drewN | apply Kd.R_drew)); exact HO_5.out⟩, ⟨by repeat (first | (with_reducible first | exact HB.out | apply below_alloc | apply pw_below_drewN | apply below_drew1) | exact HB.out)⟩⟩
                 ·
                  replace c51 := Bool.eq_false_iff.mpr c51
                  subst c51
                  have dd_ : decide ((rd x5_1 x10_3) > 0) = false := by have h1_ := Nbq50.out; have h2_ := eqbq48; rw [← h1_] at h2_; revert h2_; cases decide ((rd x5_1 x10_3) > 0) <;> simp
                  have dd2_ : decide (0 < (rd x5_1 x10_3)) = false := dd_
                  have H1 : (ladderbacklaw34_InterOnce.l3 k3 l0 t234 x5_1 x8_3 (wrap64 (x10_3 + 1))) = some r := by rw [if_neg (show ¬ (false = true) by decide)] at H; exact H
                  clear H
                  have H := H1
                  clear H1
                  have H' := Aside0.mk H
                  clear H
                  obtain ⟨Ao54, co54, eo54⟩ := Kd.R_slice HO_4.out
                  subst eo54
                  have p256 : 0 ≤ (x10_3 : Int) := of_decide_eq_true p5_0
                  have q256 : x10_3 < (t234.length : Int) := of_decide_eq_true p5_0
                  obtain ⟨ad256, e256, hx256_0⟩ := Kd.at_bool (Kd.R_reads' HO_4.out).2.2 x10_3 p256 q256
                  (try rw [← Nbq48.out] at hx256_0)
                  (try rw [← Nbq50.out] at hx256_0)
                  cases e256
                  replace p256 := eq_true p256
                  replace q256 := eq_true q256
                  obtain ⟨Ao55, co55, eo55⟩ := Kd.R_slice HO_5.out
                  subst eo55
                  have p257 : 0 ≤ (x10_3 : Int) := of_decide_eq_true p5_0
                  have q257 : x10_3 < (x5_1.length : Int) := of_decide_eq_true p5_0
                  obtain ⟨ad257, e257, hx257_0⟩ := Kd.at_int (Kd.R_reads' HO_5.out).2.2 x10_3 p257 q257
                  cases e257
                  replace p257 := eq_true p257
                  replace q257 := eq_true q257
                  have p258 : 0 ≤ (x10_3 : Int) := of_decide_eq_true p5_0
                  have q258 : x10_3 < (t234.length : Int) := of_decide_eq_true p5_0
                  obtain ⟨ad258, e258, hx258_0⟩ := Kd.at_bool (Kd.R_reads' HO_4.out).2.2 x10_3 p258 q258
                  (try rw [← Nbq48.out] at hx258_0)
                  (try rw [← Nbq50.out] at hx258_0)
                  obtain rfl : ad256 = ad258 := (by injection e258)
                  (try clear hx256_0)
                  replace p258 := eq_true p258
                  replace q258 := eq_true q258
                  try go_wp2
                  repeat (go_quiet (fail); try go_wp2)
                  go_roundg k3
                  case measure => have := HK1.out; have := HK2.out; have := HK3.out; omega
                  case rel => exact ⟨(x8_3), (wrap64 (x10_3 + 1)), p5_3, p5_3, H', ⟨by have := HK1.out; have := HK2.out; have := HK3.out; omega⟩, ⟨by (with_reducible repeat (first | apply Kd.R_alloc | apply Kd.R_drewN | apply Kd.R_drew)); exact HO_4.out⟩, ⟨by (with_reducible repeat (first | apply Kd.R_alloc | apply Kd.R_drewN | apply Kd.R_drew)); exact HO_5.out⟩, ⟨by repeat (first | (with_reducible first | exact HB.out | apply below_alloc | apply pw_below_drewN | apply below_drew1) | exact HB.out)⟩⟩
               ·
                rw [if_neg c47] at H
                exact absurd H (by simp)
              ·
               rw [if_neg c46] at H
               exact absurd H (by simp)
             ·
              rw [if_neg c45] at H
              exact absurd H (by simp)
            ·
             rw [if_neg c44] at H
             have c44b0 : decide (x10_3 < (l0.length : Int)) = false := decide_eq_false c44
             clear c44
             by_cases c56 : x8_3 = 0
             ·
              rw [if_pos c56] at H
              have c56b0 : (x8_3 == 0) = true := beq_iff_eq.mpr c56
              have c56b1 : (x8_3 != 0) = false := bne_eq_false_iff_eq.mpr c56
              clear c56
              replace H := Option.bind_eq_some_iff.mp H
              obtain ⟨t255, A570, H⟩ := H
              replace H : (some t255) = some r := H
              have A57 := Aside0.mk A570
              clear A570
              obtain rfl := Option.some.inj H
              try go_wp2_with (first | (go_at_call 42; (with_reducible refine (ladderbacklaw34_awake.calls k3  t255 _ A57.out).mono ?_); rintro e w58 ⟨rfl, hb⟩; have n0_ := Aside0.mk (Kd.R_below p5_4 hb); have n1_ := Aside0.mk (Kd.R_below p5_8 hb); have n2_ := Aside0.mk (below_step p5_1 hb); clear HO_4; clear HO_5; clear HB; have HO_4 := n0_; have HO_5 := n1_; have HB := n2_; clear n0_ n1_ n2_; (try clear hb); (try clear hb2); (try clear hk); (try clear hi)))
              repeat (go_quiet (fail); try go_wp2_with (first | (go_at_call 42; (with_reducible refine (ladderbacklaw34_awake.calls k3  t255 _ A57.out).mono ?_); rintro e w58 ⟨rfl, hb⟩; have n0_ := Aside0.mk (Kd.R_below p5_4 hb); have n1_ := Aside0.mk (Kd.R_below p5_8 hb); have n2_ := Aside0.mk (below_step p5_1 hb); clear HO_4; clear HO_5; clear HB; have HO_4 := n0_; have HO_5 := n1_; have HB := n2_; clear n0_ n1_ n2_; (try clear hb); (try clear hb2); (try clear hk); (try clear hi))))
              go_ret
              exact ⟨by first | rfl | (simp [errW_none, errW_some] <;> rfl) | (simp [*, errW_none, errW_some] <;> rfl), by repeat (first | (with_reducible first | exact HB.out | apply below_alloc | apply pw_below_drewN | apply below_drew1) | exact HB.out)⟩
             ·
              rw [if_neg c56] at H
              have c56b0 : (x8_3 == 0) = false := beq_eq_false_iff_ne.mpr c56
              have c56b1 : (x8_3 != 0) = true := bne_iff_ne.mpr c56
              exact absurd (Option.some.inj H) (by rw [HRT.out]; decide)
   ·
    rw [if_neg c7] at H
    exact absurd H (by simp)
  ·
   rw [if_neg c6] at H
   exact absurd H (by simp)
 ·
  replace c3 := Bool.eq_false_iff.mpr c3
  subst c3
  have H1 : ((ladderbacklaw34_awake.f k).bind fun t230 => (some t230)) = some r := by rw [if_neg (show ¬ (false = true) by decide)] at H; exact H
  clear H
  have H := H1
  clear H1
  replace H := Option.bind_eq_some_iff.mp H
  obtain ⟨t230, A590, H⟩ := H
  replace H : (some t230) = some r := H
  have A59 := Aside0.mk A590
  clear A590
  obtain rfl := Option.some.inj H
  go_enter Try.func12, Try.ntmps12
  try go_wp2_with (first | ((with_reducible refine gate_callee (f := 13) rfl ?_); refine goesL_ (some 12) rfl rfl Try.func13 (by kernel_rfl) rfl #[.slice A0 l0.length c0, .int .i64 16] rfl p5_2 ?_; (with_reducible refine (ladderbackref31_Few.calls k _ _ l0 16 false _ ?side1 ?side2 A2.out).mono ?_); (case side1 => repeat (first | exact HR0.out | (with_reducible refine Kd.C_alloc ?_ _) | (with_reducible refine Kd.C_drewN ?_ _) | (with_reducible refine Kd.C_drew ?_))); (case side2 => exact HC0.out); rintro e w' ⟨rfl, ⟨nd, rfl⟩⟩; refine ⟨_, rfl, ?_⟩) | ((with_reducible refine gate_callee (f := 42) rfl ?_); refine goesL_ (some 14) rfl rfl Try.func42 (by kernel_rfl) rfl #[] rfl p5_2 ?_; (with_reducible refine (ladderbacklaw34_awake.calls k  t230 _ A59.out).mono ?_); rintro e w60 ⟨rfl, hb⟩; refine ⟨_, rfl, ?_⟩; have n0_ := Aside0.mk (below_step p5_1 hb); clear HB; have HB := n0_; clear n0_; (try clear hb); (try clear hb2); (try clear hk); (try clear hi)))
  repeat (go_quiet (fail); try go_wp2_with (first | ((with_reducible refine gate_callee (f := 13) rfl ?_); refine goesL_ (some 12) rfl rfl Try.func13 (by kernel_rfl) rfl #[.slice A0 l0.length c0, .int .i64 16] rfl p5_2 ?_; (with_reducible refine (ladderbackref31_Few.calls k _ _ l0 16 false _ ?side1 ?side2 A2.out).mono ?_); (case side1 => repeat (first | exact HR0.out | (with_reducible refine Kd.C_alloc ?_ _) | (with_reducible refine Kd.C_drewN ?_ _) | (with_reducible refine Kd.C_drew ?_))); (case side2 => exact HC0.out); rintro e w' ⟨rfl, ⟨nd, rfl⟩⟩; refine ⟨_, rfl, ?_⟩) | ((with_reducible refine gate_callee (f := 42) rfl ?_); refine goesL_ (some 14) rfl rfl Try.func42 (by kernel_rfl) rfl #[] rfl p5_2 ?_; (with_reducible refine (ladderbacklaw34_awake.calls k  t230 _ A59.out).mono ?_); rintro e w60 ⟨rfl, hb⟩; refine ⟨_, rfl, ?_⟩; have n0_ := Aside0.mk (below_step p5_1 hb); clear HB; have HB := n0_; clear n0_; (try clear hb); (try clear hb2); (try clear hk); (try clear hi))))
  go_ret
  exact ⟨by first | rfl | (simp [errW_none, errW_some] <;> rfl) | (simp [*, errW_none, errW_some] <;> rfl), by repeat (first | (with_reducible first | exact HB.out | apply below_alloc | apply pw_below_drewN | apply below_drew1) | exact HB.out)⟩
/-- The pure statement of ladderbacklaw34_InterOnce. -/
def ladderbacklaw34_InterOnce.Pure : Prop := ∀ (y0 : List (List Int)), (y0.length ≤ 9223372036854775807 ∧ ∀ y0_ ∈ y0, (y0_.length ≤ 9223372036854775807 ∧ ∀ y1_ ∈ y0_, (Lit.int .i64 y1_).wf = true)) → ∃ k, ladderbacklaw34_InterOnce.f k y0 = some true

end Go.Proofs.Ytfiffhcpgojkhaa.QInterOnce
