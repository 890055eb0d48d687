-- Printed by a program of this session's over the kit's printer (wip/patch_print.py).
import Derived.Test.YtfiffhcpgojkhaaQFlowCoversx0
import Derived.Test.YtfiffhcpgojkhaaQFlowCoversx2
import Derived.Test.YtfiffhcpgojkhaaQFlowCoversx4
namespace Go.Proofs.Ytfiffhcpgojkhaa.QFlowCovers
open Go.RowKit Go.Proofs.Ytfiffhcpgojkhaa Go.Proofs.YtfiffhcpgojkhaaW.PrintWords Go.Proofs.YtfiffhcpgojkhaaW.PrintLast Go.Proofs.YtfiffhcpgojkhaaW.PrintMore
attribute [local go_sem] setCell_drewN0 max2_int min2_int max_two min_two max_three min_three max_four min_four   -- for this text's walks alone
set_option linter.unusedVariables false
set_option linter.unusedSimpArgs false

/-! ### ladderbacklaw30_FlowCovers: function 5 -/
mutual
def ladderbacklaw30_FlowCovers.l0 : Nat → List (S44) → List Bool → List (S39) → Int → Option (Bool)
 | 0, _, _, _, _ => none
 | k + 1, x0, x3, x4, x5 => if x5 < (x0.length : Int) then (ladderbacklaw30_FlowCovers.j1 k x0 x3 x4 x5 (decide (x5 < (x3.length : Int)))) else (ladderbacklaw30_FlowCovers.j1 k x0 x3 x4 x5 false)
def ladderbacklaw30_FlowCovers.j1 : Nat → List (S44) → List Bool → List (S39) → Int → Bool → Option (Bool)
 | 0, _, _, _, _, _ => none
 | k + 1, x0, x3, x4, x5, x34 => if x34 = true then (ladderbacklaw30_FlowCovers.l1 k x0 x3 x4 x5 0 0) else (if (x3.length : Int) = (x0.length : Int) then (if (x4.length : Int) > 0 then (if 0 < (x4.length : Int) then (if ((rd_T39 x4 0).f0) = 0 then ((ladderbacklaw30_awake.f k).bind fun t231 => (some t231)) else (some false)) else (none)) else (some false)) else (some false))
def ladderbacklaw30_FlowCovers.l1 : Nat → List (S44) → List Bool → List (S39) → Int → Int → Int → Option (Bool)
 | 0, _, _, _, _, _, _ => none
 | k + 1, x0, x3, x4, x5, x6, x7 => if x7 < (x4.length : Int) then (if 0 ≤ x7 then (if x5 ≥ ((rd_T39 x4 x7).f0) then (ladderbacklaw30_FlowCovers.j3 k x0 x3 x4 x5 x6 x7 (decide (x5 < ((rd_T39 x4 x7).f1)))) else (ladderbacklaw30_FlowCovers.j3 k x0 x3 x4 x5 x6 x7 false)) else (none)) else (if 0 ≤ x5 then (if x5 < (x3.length : Int) then (if ((rdOf false x3 x5) != (x6 == 1)) = true then (some false) else (if x6 > 1 then (some false) else (ladderbacklaw30_FlowCovers.l0 k x0 x3 x4 (wrap64 (x5 + 1))))) else (none)) else (none))
def ladderbacklaw30_FlowCovers.j3 : Nat → List (S44) → List Bool → List (S39) → Int → Int → Int → Bool → Option (Bool)
 | 0, _, _, _, _, _, _, _ => none
 | k + 1, x0, x3, x4, x5, x6, x7, x58 => if x58 = true then (if 0 ≤ x7 then (if x7 < (x4.length : Int) then (if (wrap64 (x5 + 1)) < ((rd_T39 x4 x7).f1) then ((flow_Goes.f k x0 x5).bind fun t236 => ((ladderbackref15_Ints.f k t236 (([wrap64 (x5 + 1)] : List Int))).bind fun t242 => (if t242 = true then (ladderbacklaw30_FlowCovers.l1 k x0 x3 x4 x5 (wrap64 (x6 + 1)) (wrap64 (x7 + 1))) else (some false)))) else (ladderbacklaw30_FlowCovers.l1 k x0 x3 x4 x5 (wrap64 (x6 + 1)) (wrap64 (x7 + 1)))) else (none)) else (none)) else (ladderbacklaw30_FlowCovers.l1 k x0 x3 x4 x5 x6 (wrap64 (x7 + 1)))
end
def ladderbacklaw30_FlowCovers.f (k : Nat) (l0 : List (S44)) : Option (Bool) := if (l0.length : Int) > 150 then ((ladderbacklaw30_awake.f k).bind fun t222 => (some t222)) else ((flow_Met.f k l0).bind fun t223 => ((flow_Nodes.f k l0).bind fun t226 => (if (t223.length : Int) = 0 then (if (t226.length : Int) = 0 then ((ladderbacklaw30_awake.f k).bind fun t229 => (some t229)) else (some false)) else (ladderbacklaw30_FlowCovers.l0 k l0 t223 t226 0))))
theorem ladderbacklaw30_FlowCovers.mono_l : ∀ k, (∀ y0 y1 y2 y3, LeO (ladderbacklaw30_FlowCovers.l0 k y0 y1 y2 y3) (ladderbacklaw30_FlowCovers.l0 (k + 1) y0 y1 y2 y3)) ∧ (∀ y0 y1 y2 y3 y4, LeO (ladderbacklaw30_FlowCovers.j1 k y0 y1 y2 y3 y4) (ladderbacklaw30_FlowCovers.j1 (k + 1) y0 y1 y2 y3 y4)) ∧ (∀ y0 y1 y2 y3 y4 y5, LeO (ladderbacklaw30_FlowCovers.l1 k y0 y1 y2 y3 y4 y5) (ladderbacklaw30_FlowCovers.l1 (k + 1) y0 y1 y2 y3 y4 y5)) ∧ (∀ y0 y1 y2 y3 y4 y5 y6, LeO (ladderbacklaw30_FlowCovers.j3 k y0 y1 y2 y3 y4 y5 y6) (ladderbacklaw30_FlowCovers.j3 (k + 1) y0 y1 y2 y3 y4 y5 y6))
 | 0 => ⟨fun _ _ _ _ r h => by simp [ladderbacklaw30_FlowCovers.l0] at h, fun _ _ _ _ _ r h => by simp [ladderbacklaw30_FlowCovers.j1] at h, fun _ _ _ _ _ _ r h => by simp [ladderbacklaw30_FlowCovers.l1] at h, fun _ _ _ _ _ _ _ r h => by simp [ladderbacklaw30_FlowCovers.j3] at h⟩
 | k + 1 => by
  obtain ⟨ih0, ih1, ih2, ih3⟩ := ladderbacklaw30_FlowCovers.mono_l k
  refine ⟨?_, ?_, ?_, ?_⟩
  ·
   intro y0 y1 y2 y3
   unfold ladderbacklaw30_FlowCovers.l0
   repeat' first
   | (with_reducible exact ih0 _ _ _ _)
   | (with_reducible exact ih1 _ _ _ _ _)
   | (with_reducible exact ih2 _ _ _ _ _ _)
   | (with_reducible exact ih3 _ _ _ _ _ _ _)
   | (with_reducible exact flow_Goes.mono _ _ _)
   | (with_reducible exact flow_Met.mono _ _)
   | (with_reducible exact flow_Nodes.mono _ _)
   | (with_reducible exact ladderbacklaw30_awake.mono _)
   | (with_reducible exact ladderbackref15_Ints.mono _ _ _)
   | (with_reducible exact LeO.refl _)
   | (with_reducible exact LeO.none _)
   | (with_reducible refine LeO.ite ?_ ?_)
   | (with_reducible refine LeO.bind ?_ (fun _ => ?_))
   | exact ih0 _ _ _ _
   | exact ih1 _ _ _ _ _
   | exact ih2 _ _ _ _ _ _
   | exact ih3 _ _ _ _ _ _ _
   | exact flow_Goes.mono _ _ _
   | exact flow_Met.mono _ _
   | exact flow_Nodes.mono _ _
   | exact ladderbacklaw30_awake.mono _
   | exact ladderbackref15_Ints.mono _ _ _
   | exact LeO.none _
   | refine LeO.ite ?_ ?_
   | refine LeO.bind ?_ (fun _ => ?_)
  ·
   intro y0 y1 y2 y3 y4
   unfold ladderbacklaw30_FlowCovers.j1
   repeat' first
   | (with_reducible exact ih0 _ _ _ _)
   | (with_reducible exact ih1 _ _ _ _ _)
   | (with_reducible exact ih2 _ _ _ _ _ _)
   | (with_reducible exact ih3 _ _ _ _ _ _ _)
   | (with_reducible exact flow_Goes.mono _ _ _)
   | (with_reducible exact flow_Met.mono _ _)
   | (with_reducible exact flow_Nodes.mono _ _)
   | (with_reducible exact ladderbacklaw30_awake.mono _)
   | (with_reducible exact ladderbackref15_Ints.mono _ _ _)
   | (with_reducible exact LeO.refl _)
   | (with_reducible exact LeO.none _)
   | (with_reducible refine LeO.ite ?_ ?_)
   | (with_reducible refine LeO.bind ?_ (fun _ => ?_))
   | exact ih0 _ _ _ _
   | exact ih1 _ _ _ _ _
   | exact ih2 _ _ _ _ _ _
   | exact ih3 _ _ _ _ _ _ _
   | exact flow_Goes.mono _ _ _
   | exact flow_Met.mono _ _
   | exact flow_Nodes.mono _ _
   | exact ladderbacklaw30_awake.mono _
   | exact ladderbackref15_Ints.mono _ _ _
   | exact LeO.none _
   | refine LeO.ite ?_ ?_
   | refine LeO.bind ?_ (fun _ => ?_)
  ·
   intro y0 y1 y2 y3 y4 y5
   unfold ladderbacklaw30_FlowCovers.l1
   repeat' first
   | (with_reducible exact ih0 _ _ _ _)
   | (with_reducible exact ih1 _ _ _ _ _)
   | (with_reducible exact ih2 _ _ _ _ _ _)
   | (with_reducible exact ih3 _ _ _ _ _ _ _)
   | (with_reducible exact flow_Goes.mono _ _ _)
   | (with_reducible exact flow_Met.mono _ _)
   | (with_reducible exact flow_Nodes.mono _ _)
   | (with_reducible exact ladderbacklaw30_awake.mono _)
   | (with_reducible exact ladderbackref15_Ints.mono _ _ _)
   | (with_reducible exact LeO.refl _)
   | (with_reducible exact LeO.none _)
   | (with_reducible refine LeO.ite ?_ ?_)
   | (with_reducible refine LeO.bind ?_ (fun _ => ?_))
   | exact ih0 _ _ _ _
   | exact ih1 _ _ _ _ _
   | exact ih2 _ _ _ _ _ _
   | exact ih3 _ _ _ _ _ _ _
   | exact flow_Goes.mono _ _ _
   | exact flow_Met.mono _ _
   | exact flow_Nodes.mono _ _
   | exact ladderbacklaw30_awake.mono _
   | exact ladderbackref15_Ints.mono _ _ _
   | exact LeO.none _
   | refine LeO.ite ?_ ?_
   | refine LeO.bind ?_ (fun _ => ?_)
  ·
   intro y0 y1 y2 y3 y4 y5 y6
   unfold ladderbacklaw30_FlowCovers.j3
   repeat' first
   | (with_reducible exact ih0 _ _ _ _)
   | (with_reducible exact ih1 _ _ _ _ _)
   | (with_reducible exact ih2 _ _ _ _ _ _)
   | (with_reducible exact ih3 _ _ _ _ _ _ _)
   | (with_reducible exact flow_Goes.mono _ _ _)
   | (with_reducible exact flow_Met.mono _ _)
   | (with_reducible exact flow_Nodes.mono _ _)
   | (with_reducible exact ladderbacklaw30_awake.mono _)
   | (with_reducible exact ladderbackref15_Ints.mono _ _ _)
   | (with_reducible exact LeO.refl _)
   | (with_reducible exact LeO.none _)
   | (with_reducible refine LeO.ite ?_ ?_)
   | (with_reducible refine LeO.bind ?_ (fun _ => ?_))
   | exact ih0 _ _ _ _
   | exact ih1 _ _ _ _ _
   | exact ih2 _ _ _ _ _ _
   | exact ih3 _ _ _ _ _ _ _
   | exact flow_Goes.mono _ _ _
   | exact flow_Met.mono _ _
   | exact flow_Nodes.mono _ _
   | exact ladderbacklaw30_awake.mono _
   | exact ladderbackref15_Ints.mono _ _ _
   | exact LeO.none _
   | refine LeO.ite ?_ ?_
   | refine LeO.bind ?_ (fun _ => ?_)
theorem ladderbacklaw30_FlowCovers.mono : ∀ a0 k, LeO (ladderbacklaw30_FlowCovers.f k a0) (ladderbacklaw30_FlowCovers.f (k + 1) a0) := by
 intro a0 k
 obtain ⟨ih0, ih1, ih2, ih3⟩ := ladderbacklaw30_FlowCovers.mono_l k
 unfold ladderbacklaw30_FlowCovers.f
 repeat' first
   | (with_reducible exact ih0 _ _ _ _)
   | (with_reducible exact ih1 _ _ _ _ _)
   | (with_reducible exact ih2 _ _ _ _ _ _)
   | (with_reducible exact ih3 _ _ _ _ _ _ _)
   | (with_reducible exact flow_Goes.mono _ _ _)
   | (with_reducible exact flow_Met.mono _ _)
   | (with_reducible exact flow_Nodes.mono _ _)
   | (with_reducible exact ladderbacklaw30_awake.mono _)
   | (with_reducible exact ladderbackref15_Ints.mono _ _ _)
   | (with_reducible exact LeO.refl _)
   | (with_reducible exact LeO.none _)
   | (with_reducible refine LeO.ite ?_ ?_)
   | (with_reducible refine LeO.bind ?_ (fun _ => ?_))
   | exact ih0 _ _ _ _
   | exact ih1 _ _ _ _ _
   | exact ih2 _ _ _ _ _ _
   | exact ih3 _ _ _ _ _ _ _
   | exact flow_Goes.mono _ _ _
   | exact flow_Met.mono _ _
   | exact flow_Nodes.mono _ _
   | exact ladderbacklaw30_awake.mono _
   | exact ladderbackref15_Ints.mono _ _ _
   | exact LeO.none _
   | refine LeO.ite ?_ ?_
   | refine LeO.bind ?_ (fun _ => ?_)
set_option maxHeartbeats 8000000 in
set_option maxRecDepth 100000 in
theorem ladderbacklaw30_FlowCovers.calls (k : Nat) (A0 : Option Addr) (c0 : Nat) (l0 : List (S44)) (r : Bool) (w : World) (hr0 : Kd.C k44 w A0 l0.length l0) (hc0 : l0.length ≤ c0) (h : ladderbacklaw30_FlowCovers.f k l0 = some r) (hrt_ : r = true := by rfl) :
  Calls Try.prog 5 #[.slice A0 l0.length c0] w fun e w' => e = .returned (.bool r) ∧ Below w.heap.size w w' := by
 have HR0 := Aside0.mk hr0
 have HC0 := Aside0.mk hc0
 clear hr0 hc0
 have HB := Aside0.mk (Below.refl w.heap.size w)
 have H : (if (l0.length : Int) > 150 then ((ladderbacklaw30_awake.f k).bind fun t222 => (some t222)) else ((flow_Met.f k l0).bind fun t223 => ((flow_Nodes.f k l0).bind fun t226 => (if (t223.length : Int) = 0 then (if (t226.length : Int) = 0 then ((ladderbacklaw30_awake.f k).bind fun t229 => (some t229)) else (some false)) else (ladderbacklaw30_FlowCovers.l0 k l0 t223 t226 0))))) = some r := h
 clear h
 have HRT := Aside0.mk hrt_
 clear hrt_
 by_cases c2 : (l0.length : Int) > 150
 ·
  rw [if_pos c2] at H
  have c2b0 : decide (150 < (l0.length : Int)) = true := decide_eq_true c2
  have c2b1 : decide (150 < l0.length) = true := decide_eq_true (by omega)
  clear c2
  replace H := Option.bind_eq_some_iff.mp H
  obtain ⟨t222, A30, H⟩ := H
  replace H : (some t222) = some r := H
  have A3 := Aside0.mk A30
  clear A30
  obtain rfl := Option.some.inj H
  go_enter Try.func5, Try.ntmps5
  go_wp2_with (first | ((with_reducible refine gate_callee (f := 19) rfl ?_); refine goesL_ (some 11) rfl rfl Try.func19 (by kernel_rfl) rfl #[] rfl (by (try simp only [List.map_toArray, List.map_cons, List.map_nil]); first | done | rfl | (simp only [List.length_drop, List.length_take]; rfl)) ?_; (with_reducible refine (ladderbacklaw30_awake.calls k  t222 _ A3.out).mono ?_); rintro e w4 ⟨rfl, hb⟩; refine ⟨_, rfl, ?_⟩; have n0_ := Aside0.mk (below_step (by repeat (first | (with_reducible first | exact HB.out | apply below_alloc | apply pw_below_drewN | apply below_drew1) | exact HB.out)) hb); clear HB; have HB := n0_; clear n0_; (try clear hb); (try clear hb2); (try clear hk); (try clear hi)))
  go_ret
  exact ⟨by first | rfl | (simp [errW_none, errW_some] <;> rfl) | (simp [*, errW_none, errW_some] <;> rfl), by repeat (first | (with_reducible first | exact HB.out | apply below_alloc | apply pw_below_drewN | apply below_drew1) | exact HB.out)⟩
 ·
  rw [if_neg c2] at H
  have c2b0 : decide (150 < (l0.length : Int)) = false := decide_eq_false c2
  have c2b1 : decide (150 < l0.length) = false := decide_eq_false (by omega)
  clear c2
  replace H := Option.bind_eq_some_iff.mp H
  obtain ⟨t223, A50, H⟩ := H
  replace H : ((flow_Nodes.f k l0).bind fun t226 => (if (t223.length : Int) = 0 then (if (t226.length : Int) = 0 then ((ladderbacklaw30_awake.f k).bind fun t229 => (some t229)) else (some false)) else (ladderbacklaw30_FlowCovers.l0 k l0 t223 t226 0))) = some r := H
  have A5 := Aside0.mk A50
  clear A50
  replace H := Option.bind_eq_some_iff.mp H
  obtain ⟨t226, A60, H⟩ := H
  replace H : (if (t223.length : Int) = 0 then (if (t226.length : Int) = 0 then ((ladderbacklaw30_awake.f k).bind fun t229 => (some t229)) else (some false)) else (ladderbacklaw30_FlowCovers.l0 k l0 t223 t226 0)) = some r := H
  have A6 := Aside0.mk A60
  clear A60
  by_cases c7 : (t223.length : Int) = 0
  ·
   rw [if_pos c7] at H
   have c7b0 : ((t223.length : Int) == 0) = true := beq_iff_eq.mpr c7
   have c7b1 : ((t223.length : Int) != 0) = false := bne_eq_false_iff_eq.mpr c7
   clear c7
   by_cases c8 : (t226.length : Int) = 0
   ·
    rw [if_pos c8] at H
    have c8b0 : ((t226.length : Int) == 0) = true := beq_iff_eq.mpr c8
    have c8b1 : ((t226.length : Int) != 0) = false := bne_eq_false_iff_eq.mpr c8
    clear c8
    replace H := Option.bind_eq_some_iff.mp H
    obtain ⟨t229, A90, H⟩ := H
    replace H : (some t229) = some r := H
    have A9 := Aside0.mk A90
    clear A90
    obtain rfl := Option.some.inj H
    go_enter Try.func5, Try.ntmps5
    go_wp2_with (first | ((with_reducible refine gate_callee (f := 20) rfl ?_); refine goesL_ (some 13) rfl rfl Try.func20 (by kernel_rfl) rfl #[.slice A0 l0.length c0] rfl (by (try simp only [List.map_toArray, List.map_cons, List.map_nil]); first | done | rfl | (simp only [List.length_drop, List.length_take]; rfl)) ?_; (with_reducible refine (flow_Met.calls k _ _ l0 t223 _ ?side1 ?side2 A5.out).mono ?_); (case side1 => repeat (first | exact HR0.out | (with_reducible refine Kd.C_alloc ?_ _) | (with_reducible refine Kd.C_drewN ?_ _) | (with_reducible refine Kd.C_drew ?_))); (case side2 => exact HC0.out); rintro e w10 ⟨v224, rfl, ho0, hb⟩; refine ⟨_, rfl, ?_⟩; have n0_ := Aside0.mk (Kd.R_lower ho0 (below_size (by repeat (first | (with_reducible first | exact HB.out | apply below_alloc | apply pw_below_drewN | apply below_drew1) | exact HB.out)))); have n1_ := Aside0.mk (below_step (by repeat (first | (with_reducible first | exact HB.out | apply below_alloc | apply pw_below_drewN | apply below_drew1) | exact HB.out)) hb); clear HB; have HO225 := n0_; have HB := n1_; clear n0_ n1_; (try clear hb); (try clear hb2); (try clear hk); (try clear hi); (try clear ho0)) | ((with_reducible refine gate_callee (f := 25) rfl ?_); refine goesL_ (some 15) rfl rfl Try.func25 (by kernel_rfl) rfl #[.slice A0 l0.length c0] rfl (by (try simp only [List.map_toArray, List.map_cons, List.map_nil]); first | done | rfl | (simp only [List.length_drop, List.length_take]; rfl)) ?_; (with_reducible refine (flow_Nodes.calls k _ _ l0 t226 _ ?side1 ?side2 A6.out).mono ?_); (case side1 => repeat (first | exact (Kd.C_below HR0.out HB.out) | (with_reducible refine Kd.C_alloc ?_ _) | (with_reducible refine Kd.C_drewN ?_ _) | (with_reducible refine Kd.C_drew ?_))); (case side2 => exact HC0.out); rintro e w11 ⟨v227, rfl, ho0, hb⟩; refine ⟨_, rfl, ?_⟩; have n0_ := Aside0.mk (Kd.R_below (by (with_reducible repeat (first | apply Kd.R_alloc | apply Kd.R_drewN | apply Kd.R_drew)); exact HO225.out) hb); have n1_ := Aside0.mk (Kd.S_lower ho0 (below_size (by repeat (first | (with_reducible first | exact HB.out | apply below_alloc | apply pw_below_drewN | apply below_drew1) | exact HB.out)))); have n2_ := Aside0.mk (below_step (by repeat (first | (with_reducible first | exact HB.out | apply below_alloc | apply pw_below_drewN | apply below_drew1) | exact HB.out)) hb); clear HO225; clear HB; have HO225 := n0_; have HO228 := n1_; have HB := n2_; clear n0_ n1_ n2_; (try clear hb); (try clear hb2); (try clear hk); (try clear hi); (try clear ho0); obtain ⟨Ao12, co12, eo12⟩ := Kd.R_slice HO225.out; subst eo12; obtain ⟨Ao13, co13, eo13⟩ := Kd.S_slice HO228.out; subst eo13) | (go_at_call 19; (with_reducible refine (ladderbacklaw30_awake.calls k  t229 _ A9.out).mono ?_); rintro e w14 ⟨rfl, hb⟩; have n0_ := Aside0.mk (Kd.R_below (by (with_reducible repeat (first | apply Kd.R_alloc | apply Kd.R_drewN | apply Kd.R_drew)); exact HO225.out) hb); have n1_ := Aside0.mk (Kd.S_below (by (with_reducible repeat (first | apply Kd.S_alloc | apply Kd.S_drewN | apply Kd.S_drew)); exact HO228.out) hb); have n2_ := Aside0.mk (below_step (by repeat (first | (with_reducible first | exact HB.out | apply below_alloc | apply pw_below_drewN | apply below_drew1) | exact HB.out)) hb); clear HO225; clear HO228; clear HB; have HO225 := n0_; have HO228 := n1_; have HB := n2_; clear n0_ n1_ n2_; (try clear hb); (try clear hb2); (try clear hk); (try clear hi)))
    go_ret
    exact ⟨by first | rfl | (simp [errW_none, errW_some] <;> rfl) | (simp [*, errW_none, errW_some] <;> rfl), by repeat (first | (with_reducible first | exact HB.out | apply below_alloc | apply pw_below_drewN | apply below_drew1) | exact HB.out)⟩
   ·
    rw [if_neg c8] at H
    have c8b0 : ((t226.length : Int) == 0) = false := beq_eq_false_iff_ne.mpr c8
    have c8b1 : ((t226.length : Int) != 0) = true := bne_iff_ne.mpr c8
    have c8b2 : ¬ (t226 = []) := fun h_ => c8 (by rw [h_]; rfl)
    exact absurd (Option.some.inj H) (by rw [HRT.out]; decide)
  ·
   rw [if_neg c7] at H
   have c7b0 : ((t223.length : Int) == 0) = false := beq_eq_false_iff_ne.mpr c7
   have c7b1 : ((t223.length : Int) != 0) = true := bne_iff_ne.mpr c7
   have c7b2 : ¬ (t223 = []) := fun h_ => c7 (by rw [h_]; rfl)
   have H' := Aside0.mk H
   clear H
   go_enter Try.func5, Try.ntmps5
   go_wp2_with (first | ((with_reducible refine gate_callee (f := 20) rfl ?_); refine goesL_ (some 13) rfl rfl Try.func20 (by kernel_rfl) rfl #[.slice A0 l0.length c0] rfl (by (try simp only [List.map_toArray, List.map_cons, List.map_nil]); first | done | rfl | (simp only [List.length_drop, List.length_take]; rfl)) ?_; (with_reducible refine (flow_Met.calls k _ _ l0 t223 _ ?side1 ?side2 A5.out).mono ?_); (case side1 => repeat (first | exact HR0.out | (with_reducible refine Kd.C_alloc ?_ _) | (with_reducible refine Kd.C_drewN ?_ _) | (with_reducible refine Kd.C_drew ?_))); (case side2 => exact HC0.out); rintro e w15 ⟨v224, rfl, ho0, hb⟩; refine ⟨_, rfl, ?_⟩; have n0_ := Aside0.mk (Kd.R_lower ho0 (below_size (by repeat (first | (with_reducible first | exact HB.out | apply below_alloc | apply pw_below_drewN | apply below_drew1) | exact HB.out)))); have n1_ := Aside0.mk (below_step (by repeat (first | (with_reducible first | exact HB.out | apply below_alloc | apply pw_below_drewN | apply below_drew1) | exact HB.out)) hb); clear HB; have HO225 := n0_; have HB := n1_; clear n0_ n1_; (try clear hb); (try clear hb2); (try clear hk); (try clear hi); (try clear ho0)) | ((with_reducible refine gate_callee (f := 25) rfl ?_); refine goesL_ (some 15) rfl rfl Try.func25 (by kernel_rfl) rfl #[.slice A0 l0.length c0] rfl (by (try simp only [List.map_toArray, List.map_cons, List.map_nil]); first | done | rfl | (simp only [List.length_drop, List.length_take]; rfl)) ?_; (with_reducible refine (flow_Nodes.calls k _ _ l0 t226 _ ?side1 ?side2 A6.out).mono ?_); (case side1 => repeat (first | exact (Kd.C_below HR0.out HB.out) | (with_reducible refine Kd.C_alloc ?_ _) | (with_reducible refine Kd.C_drewN ?_ _) | (with_reducible refine Kd.C_drew ?_))); (case side2 => exact HC0.out); rintro e w16 ⟨v227, rfl, ho0, hb⟩; refine ⟨_, rfl, ?_⟩; have n0_ := Aside0.mk (Kd.R_below (by (with_reducible repeat (first | apply Kd.R_alloc | apply Kd.R_drewN | apply Kd.R_drew)); exact HO225.out) hb); have n1_ := Aside0.mk (Kd.S_lower ho0 (below_size (by repeat (first | (with_reducible first | exact HB.out | apply below_alloc | apply pw_below_drewN | apply below_drew1) | exact HB.out)))); have n2_ := Aside0.mk (below_step (by repeat (first | (with_reducible first | exact HB.out | apply below_alloc | apply pw_below_drewN | apply below_drew1) | exact HB.out)) hb); clear HO225; clear HB; have HO225 := n0_; have HO228 := n1_; have HB := n2_; clear n0_ n1_ n2_; (try clear hb); (try clear hb2); (try clear hk); (try clear hi); (try clear ho0); obtain ⟨Ao17, co17, eo17⟩ := Kd.R_slice HO225.out; subst eo17))
   go_loopg [5] k (fun kq v5 w' => ∃ (x5_1 : Int), v5 = .int .i64 x5_1 ∧ Aside0 (ladderbacklaw30_FlowCovers.l0 kq l0 t223 t226 x5_1 = some r) ∧ Aside0 (kq ≤ k) ∧ Aside0 (Kd.R Kd.bool 4 w' w.heap.size (fun _ => True) (.slice Ao17 t223.length co17) t223) ∧ Aside0 (Kd.S k39 39 w' w.heap.size (fun _ => True) v227 t226) ∧ Aside0 (Below w.heap.size w w'))
   case atStart => exact ⟨(0), (by first | rfl | (simp; done) | (simp [*]; done)), H', ⟨Nat.le_refl _⟩, ⟨by (with_reducible repeat (first | apply Kd.R_alloc | apply Kd.R_drewN | apply Kd.R_drew)); exact HO225.out⟩, ⟨by (with_reducible repeat (first | apply Kd.S_alloc | apply Kd.S_drewN | apply Kd.S_drew)); exact HO228.out⟩, ⟨by repeat (first | (with_reducible first | exact HB.out | apply below_alloc | apply pw_below_drewN | apply below_drew1) | exact HB.out)⟩⟩
   case round =>
    clear H'
    (try clear c2); (try clear c2b0); (try clear c2b1); (try clear c7); (try clear c7b0); (try clear c7b1); (try clear c7b2)
    obtain ⟨x5_1, rfl, HA, HK1, HO_3, HO_4, HB⟩ := hrel
    cases gk with
    | zero => exact absurd HA.out (by simp [ladderbacklaw30_FlowCovers.l0])
    | succ k1 =>
     have H := HA.out
     clear HA
     simp only [ladderbacklaw30_FlowCovers.l0] at H
     have HC18 := Aside0.mk H
     clear H
     go_upto_region 7 with (fail)
     go_cut [34] from 25 to 34 (fun v34 wc => ∃ (kq : Nat) (x34_17 : Bool), v34 = .bool x34_17 ∧ Aside0 (ladderbacklaw30_FlowCovers.j1 kq l0 t223 t226 x5_1 x34_17 = some r) ∧ Aside0 (kq ≤ k1) ∧ Aside0 (Kd.R Kd.bool 4 wc w.heap.size (fun _ => True) (.slice Ao17 t223.length co17) t223) ∧ Aside0 (Kd.S k39 39 wc w.heap.size (fun _ => True) v227 t226) ∧ Aside0 (Below w.heap.size w wc))
     case first =>
      have H := HC18.out
      clear HC18
      by_cases c19 : x5_1 < (l0.length : Int)
      ·
       rw [if_pos c19] at H
       have c19b0 : decide (x5_1 < (l0.length : Int)) = true := decide_eq_true c19
       clear c19
       (first | rw [c19b0] | (simp only [i64_w, i32_w]; rw [c19b0]) | rw [c19b1] | skip)
       have H' := Aside0.mk H
       clear H
       go_wp2
       go_meet
       case rel => exact ⟨_, (decide (x5_1 < (t223.length : Int))), (by first | rfl | (simp; done) | (simp [*]; done)), H', ⟨by have := HK1.out; first | omega | exact Nat.le_refl _⟩, ⟨by (with_reducible repeat (first | apply Kd.R_alloc | apply Kd.R_drewN | apply Kd.R_drew)); exact HO_3.out⟩, ⟨by (with_reducible repeat (first | apply Kd.S_alloc | apply Kd.S_drewN | apply Kd.S_drew)); exact HO_4.out⟩, ⟨by repeat (first | (with_reducible first | exact HB.out | apply below_alloc | apply pw_below_drewN | apply below_drew1) | exact HB.out)⟩⟩
      ·
       rw [if_neg c19] at H
       have c19b0 : decide (x5_1 < (l0.length : Int)) = false := decide_eq_false c19
       clear c19
       (first | rw [c19b0] | (simp only [i64_w, i32_w]; rw [c19b0]) | rw [c19b1] | skip)
       have H' := Aside0.mk H
       clear H
       go_wp2
       go_meet
       case rel => exact ⟨_, (false), (by first | rfl | (simp; done) | (simp [*]; done)), H', ⟨by have := HK1.out; first | omega | exact Nat.le_refl _⟩, ⟨by (with_reducible repeat (first | apply Kd.R_alloc | apply Kd.R_drewN | apply Kd.R_drew)); exact HO_3.out⟩, ⟨by (with_reducible repeat (first | apply Kd.S_alloc | apply Kd.S_drewN | apply Kd.S_drew)); exact HO_4.out⟩, ⟨by repeat (first | (with_reducible first | exact HB.out | apply below_alloc | apply pw_below_drewN | apply below_drew1) | exact HB.out)⟩⟩
     case rest =>
      clear HC18
      obtain ⟨kq, x34_17, rfl, HA, HJ17, HO_3, HO_4, HB⟩ := hcut
      cases kq with
      | zero => exact absurd HA.out (by simp [ladderbacklaw30_FlowCovers.j1])
      | succ kj17 =>
       have H := HA.out
       clear HA
       simp only [ladderbacklaw30_FlowCovers.j1] at H
       by_cases c20 : x34_17 = true
       ·
        subst c20
        have H1 : (ladderbacklaw30_FlowCovers.l1 kj17 l0 t223 t226 x5_1 0 0) = some r := by rw [if_pos rfl] at H; exact H
        clear H
        have H := H1
        clear H1
        have H' := Aside0.mk H
        clear H
        go_wp2
        go_loopg [6, 7] kj17 (fun kq v6 v7 w' => ∃ (x6_3 : Int) (x7_3 : Int), v6 = .int .i64 x6_3 ∧ v7 = .int .i64 x7_3 ∧ Aside0 (ladderbacklaw30_FlowCovers.l1 kq l0 t223 t226 x5_1 x6_3 x7_3 = some r) ∧ Aside0 (kq ≤ kj17) ∧ Aside0 (Kd.R Kd.bool 4 w' w.heap.size (fun _ => True) (.slice Ao17 t223.length co17) t223) ∧ Aside0 (Kd.S k39 39 w' w.heap.size (fun _ => True) v227 t226) ∧ Aside0 (Below w.heap.size w w'))
        case atStart => exact ⟨(0), (0), (by first | rfl | (simp; done) | (simp [*]; done)), (by first | rfl | (simp; done) | (simp [*]; done)), H', ⟨Nat.le_refl _⟩, ⟨by (with_reducible repeat (first | apply Kd.R_alloc | apply Kd.R_drewN | apply Kd.R_drew)); exact HO_3.out⟩, ⟨by (with_reducible repeat (first | apply Kd.S_alloc | apply Kd.S_drewN | apply Kd.S_drew)); exact HO_4.out⟩, ⟨by repeat (first | (with_reducible first | exact HB.out | apply below_alloc | apply pw_below_drewN | apply below_drew1) | exact HB.out)⟩⟩
        case round =>
         clear H'
         try clear c20
         obtain ⟨x6_3, x7_3, rfl, rfl, HA, HK3, HO_3, HO_4, HB⟩ := hrel
         cases gk with
         | zero => exact absurd HA.out (by simp [ladderbacklaw30_FlowCovers.l1])
         | succ k3 =>
          have H := HA.out
          clear HA
          simp only [ladderbacklaw30_FlowCovers.l1] at H
          by_cases c21 : x7_3 < (t226.length : Int)
          ·
           rw [if_pos c21] at H
           have c21b0 : decide (x7_3 < (t226.length : Int)) = true := decide_eq_true c21
           clear c21
           have HC22 := Aside0.mk H
           clear H
           obtain ⟨Ao23, co23, eo23⟩ := Kd.S_slice HO_4.out
           subst eo23
           go_upto_region 13 with (fail)
           go_cut [58] from 37 to 58 (fun v58 wc => ∃ (kq : Nat) (x58_21 : Bool), v58 = .bool x58_21 ∧ Aside0 (ladderbacklaw30_FlowCovers.j3 kq l0 t223 t226 x5_1 x6_3 x7_3 x58_21 = some r) ∧ Aside0 (kq ≤ k3) ∧ Aside0 (Kd.R Kd.bool 4 wc w.heap.size (fun _ => True) (.slice Ao17 t223.length co17) t223) ∧ Aside0 (Kd.S k39 39 wc w.heap.size (fun _ => True) (.slice Ao23 t226.length co23) t226) ∧ Aside0 (Below w.heap.size w wc))
           case first =>
            have H := HC22.out
            clear HC22
            by_cases c24 : 0 ≤ x7_3
            ·
             rw [if_pos c24] at H
             have c24b0 : decide (0 ≤ x7_3) = true := decide_eq_true c24
             clear c24
             (first | rw [c24b0] | (simp only [i64_w, i32_w]; rw [c24b0]) | rw [c24b1] | skip)
             by_cases c25 : x5_1 ≥ ((rd_T39 t226 x7_3).f0)
             ·
              rw [if_pos c25] at H
              have c25b0 : decide (((rd_T39 t226 x7_3).f0) ≤ x5_1) = true := decide_eq_true c25
              clear c25
              have H' := Aside0.mk H
              clear H
              have p233 : 0 ≤ (x7_3 : Int) := of_decide_eq_true (by first | (with_reducible assumption) | assumption)
              have q233 : x7_3 < (t226.length : Int) := of_decide_eq_true (by first | (with_reducible assumption) | assumption)
              obtain ⟨ad233, A233_2, c233_2, e233, hx233_0, hx233_1, hx233_2, hl233_2, hi233_2⟩ := at_T39 (Kd.S_reads' HO_4.out).2.2 x7_3 p233 q233
              cases e233
              obtain ⟨ce233, hce233, hMe233, hcc233⟩ := Kd.S_get HO_4.out z39 x7_3 p233 (by first | exact q233 | exact of_decide_eq_true (by first | (with_reducible assumption) | assumption) | (have e_ := (Kd.S_reads' HO_4.out).1; omega))
              obtain ⟨ve233_2, rfl, ge233_2⟩ := k39_openM hMe233
              have hv233_2 := hcc233 2 _ rfl
              rw [add_field _ _ 2 (by omega)] at hv233_2
              replace hv233_2 := Option.some.inj (hv233_2.symm.trans hx233_2)
              rw [hv233_2] at ge233_2
              have HL233_2 := Aside0.mk (show Kd.R (Kd.int .i64) 3 _ _ _ _ ((rd_T39 t226 x7_3).f2) from ge233_2)
              clear hv233_2 ge233_2
              clear hcc233 hce233
              have HR233_2 := Aside0.mk hi233_2
              have HC233_2 := Aside0.mk hl233_2
              clear hi233_2 hl233_2
              replace p233 := eq_true p233
              replace q233 := eq_true q233
              have p234 : 0 ≤ (x7_3 : Int) := of_decide_eq_true (by first | (with_reducible assumption) | assumption)
              have q234 : x7_3 < (t226.length : Int) := of_decide_eq_true (by first | (with_reducible assumption) | assumption)
              obtain ⟨ad234, A234_2, c234_2, e234, hx234_0, hx234_1, hx234_2, hl234_2, hi234_2⟩ := at_T39 (Kd.S_reads' HO_4.out).2.2 x7_3 p234 q234
              obtain rfl : ad233 = ad234 := (by injection e234)
              obtain ⟨ce234, hce234, hMe234, hcc234⟩ := Kd.S_get HO_4.out z39 x7_3 p234 (by first | exact q234 | exact of_decide_eq_true (by first | (with_reducible assumption) | assumption) | (have e_ := (Kd.S_reads' HO_4.out).1; omega))
              obtain ⟨ve234_2, rfl, ge234_2⟩ := k39_openM hMe234
              have hv234_2 := hcc234 2 _ rfl
              rw [add_field _ _ 2 (by omega)] at hv234_2
              replace hv234_2 := Option.some.inj (hv234_2.symm.trans hx234_2)
              rw [hv234_2] at ge234_2
              have HL234_2 := Aside0.mk (show Kd.R (Kd.int .i64) 3 _ _ _ _ ((rd_T39 t226 x7_3).f2) from ge234_2)
              clear hv234_2 ge234_2
              clear hcc234 hce234
              have HR234_2 := Aside0.mk hi234_2
              have HC234_2 := Aside0.mk hl234_2
              clear hi234_2 hl234_2
              replace p234 := eq_true p234
              replace q234 := eq_true q234
              have ea_ := Option.some.inj (hx233_2.symm.trans hx234_2)
              injection ea_ with ea_ en_ ec_
              subst ea_
              subst ec_
              clear en_
              go_wp2
              go_meet
              case rel => exact ⟨_, (decide (x5_1 < ((rd_T39 t226 x7_3).f1))), (by first | rfl | (simp; done) | (simp [*]; done)), H', ⟨by have := HK1.out; have := HJ17.out; have := HK3.out; first | omega | exact Nat.le_refl _⟩, ⟨by (with_reducible repeat (first | apply Kd.R_alloc | apply Kd.R_drewN | apply Kd.R_drew)); exact HO_3.out⟩, ⟨by (with_reducible repeat (first | apply Kd.S_alloc | apply Kd.S_drewN | apply Kd.S_drew)); exact HO_4.out⟩, ⟨by repeat (first | (with_reducible first | exact HB.out | apply below_alloc | apply pw_below_drewN | apply below_drew1) | exact HB.out)⟩⟩
             ·
              rw [if_neg c25] at H
              have c25b0 : decide (((rd_T39 t226 x7_3).f0) ≤ x5_1) = false := decide_eq_false c25
              clear c25
              have H' := Aside0.mk H
              clear H
              have p233 : 0 ≤ (x7_3 : Int) := of_decide_eq_true (by first | (with_reducible assumption) | assumption)
              have q233 : x7_3 < (t226.length : Int) := of_decide_eq_true (by first | (with_reducible assumption) | assumption)
              obtain ⟨ad233, A233_2, c233_2, e233, hx233_0, hx233_1, hx233_2, hl233_2, hi233_2⟩ := at_T39 (Kd.S_reads' HO_4.out).2.2 x7_3 p233 q233
              cases e233
              obtain ⟨ce233, hce233, hMe233, hcc233⟩ := Kd.S_get HO_4.out z39 x7_3 p233 (by first | exact q233 | exact of_decide_eq_true (by first | (with_reducible assumption) | assumption) | (have e_ := (Kd.S_reads' HO_4.out).1; omega))
              obtain ⟨ve233_2, rfl, ge233_2⟩ := k39_openM hMe233
              have hv233_2 := hcc233 2 _ rfl
              rw [add_field _ _ 2 (by omega)] at hv233_2
              replace hv233_2 := Option.some.inj (hv233_2.symm.trans hx233_2)
              rw [hv233_2] at ge233_2
              have HL233_2 := Aside0.mk (show Kd.R (Kd.int .i64) 3 _ _ _ _ ((rd_T39 t226 x7_3).f2) from ge233_2)
              clear hv233_2 ge233_2
              clear hcc233 hce233
              have HR233_2 := Aside0.mk hi233_2
              have HC233_2 := Aside0.mk hl233_2
              clear hi233_2 hl233_2
              replace p233 := eq_true p233
              replace q233 := eq_true q233
              go_wp2
              go_meet
              case rel => exact ⟨_, (false), (by first | rfl | (simp; done) | (simp [*]; done)), H', ⟨by have := HK1.out; have := HJ17.out; have := HK3.out; first | omega | exact Nat.le_refl _⟩, ⟨by (with_reducible repeat (first | apply Kd.R_alloc | apply Kd.R_drewN | apply Kd.R_drew)); exact HO_3.out⟩, ⟨by (with_reducible repeat (first | apply Kd.S_alloc | apply Kd.S_drewN | apply Kd.S_drew)); exact HO_4.out⟩, ⟨by repeat (first | (with_reducible first | exact HB.out | apply below_alloc | apply pw_below_drewN | apply below_drew1) | exact HB.out)⟩⟩
            ·
             rw [if_neg c24] at H
             exact absurd H (by simp)
           case rest =>
            clear HC22
            (try clear c21); (try clear c21b0)
            obtain ⟨kq, x58_21, rfl, HA, HJ21, HO_3, HO_4, HB⟩ := hcut
            cases kq with
            | zero => exact absurd HA.out (by simp [ladderbacklaw30_FlowCovers.j3])
            | succ kj21 =>
             have H := HA.out
             clear HA
             simp only [ladderbacklaw30_FlowCovers.j3] at H
             by_cases c26 : x58_21 = true
             ·
              subst c26
              have H1 : (if 0 ≤ x7_3 then (if x7_3 < (t226.length : Int) then (if (wrap64 (x5_1 + 1)) < ((rd_T39 t226 x7_3).f1) then ((flow_Goes.f kj21 l0 x5_1).bind fun t236 => ((ladderbackref15_Ints.f kj21 t236 (([wrap64 (x5_1 + 1)] : List Int))).bind fun t242 => (if t242 = true then (ladderbacklaw30_FlowCovers.l1 kj21 l0 t223 t226 x5_1 (wrap64 (x6_3 + 1)) (wrap64 (x7_3 + 1))) else (some false)))) else (ladderbacklaw30_FlowCovers.l1 kj21 l0 t223 t226 x5_1 (wrap64 (x6_3 + 1)) (wrap64 (x7_3 + 1)))) else (none)) else (none)) = some r := by rw [if_pos rfl] at H; exact H
              clear H
              have H := H1
              clear H1
              by_cases c27 : 0 ≤ x7_3
              ·
               rw [if_pos c27] at H
               have c27b0 : decide (0 ≤ x7_3) = true := decide_eq_true c27
               clear c27
               by_cases c28 : x7_3 < (t226.length : Int)
               ·
                rw [if_pos c28] at H
                have c28b0 : decide (x7_3 < (t226.length : Int)) = true := decide_eq_true c28
                clear c28
                by_cases c29 : (wrap64 (x5_1 + 1)) < ((rd_T39 t226 x7_3).f1)
                ·
                 rw [if_pos c29] at H
                 have c29b0 : decide ((wrap64 (x5_1 + 1)) < ((rd_T39 t226 x7_3).f1)) = true := decide_eq_true c29
                 clear c29
                 replace H := Option.bind_eq_some_iff.mp H
                 obtain ⟨t236, A300, H⟩ := H
                 replace H : ((ladderbackref15_Ints.f kj21 t236 (([wrap64 (x5_1 + 1)] : List Int))).bind fun t242 => (if t242 = true then (ladderbacklaw30_FlowCovers.l1 kj21 l0 t223 t226 x5_1 (wrap64 (x6_3 + 1)) (wrap64 (x7_3 + 1))) else (some false))) = some r := H
                 have A30 := Aside0.mk A300
                 clear A300
                 obtain ⟨y239, hy239⟩ : ∃ y_ : List Int, y_ = (([wrap64 (x5_1 + 1)] : List Int)) := ⟨_, rfl⟩
                 replace H : ((ladderbackref15_Ints.f kj21 t236 y239).bind fun t242 => (if t242 = true then (ladderbacklaw30_FlowCovers.l1 kj21 l0 t223 t226 x5_1 (wrap64 (x6_3 + 1)) (wrap64 (x7_3 + 1))) else (some false))) = some r := by first | (rw [hy239]; with_reducible exact H) | (have H2_ := (Option.bind_some _ _).symm.trans H; rw [hy239]; with_reducible exact H2_) | (have H2_ := (Option.bind_some _ _).symm.trans H; with_reducible exact H2_) | with_reducible exact H | (rw [hy239]; exact H) | exact H
                 have Ny239 := Aside0.mk hy239
                 clear hy239
                 replace H := Option.bind_eq_some_iff.mp H
                 obtain ⟨t242, A310, H⟩ := H
                 replace H : (if t242 = true then (ladderbacklaw30_FlowCovers.l1 kj21 l0 t223 t226 x5_1 (wrap64 (x6_3 + 1)) (wrap64 (x7_3 + 1))) else (some false)) = some r := H
                 have A31 := Aside0.mk A310
                 clear A310
                 by_cases c32 : t242 = true
                 ·
                  subst c32
                  have H1 : (ladderbacklaw30_FlowCovers.l1 kj21 l0 t223 t226 x5_1 (wrap64 (x6_3 + 1)) (wrap64 (x7_3 + 1))) = some r := by rw [if_pos rfl] at H; exact H
                  clear H
                  have H := H1
                  clear H1
                  have H' := Aside0.mk H
                  clear H
                  have p235 : 0 ≤ (x7_3 : Int) := of_decide_eq_true (by first | (with_reducible assumption) | assumption)
                  have q235 : x7_3 < (t226.length : Int) := of_decide_eq_true (by first | (with_reducible assumption) | assumption)
                  obtain ⟨ad235, A235_2, c235_2, e235, hx235_0, hx235_1, hx235_2, hl235_2, hi235_2⟩ := at_T39 (Kd.S_reads' HO_4.out).2.2 x7_3 p235 q235
                  cases e235
                  obtain ⟨ce235, hce235, hMe235, hcc235⟩ := Kd.S_get HO_4.out z39 x7_3 p235 (by first | exact q235 | exact of_decide_eq_true (by first | (with_reducible assumption) | assumption) | (have e_ := (Kd.S_reads' HO_4.out).1; omega))
                  obtain ⟨ve235_2, rfl, ge235_2⟩ := k39_openM hMe235
                  have hv235_2 := hcc235 2 _ rfl
                  rw [add_field _ _ 2 (by omega)] at hv235_2
                  replace hv235_2 := Option.some.inj (hv235_2.symm.trans hx235_2)
                  rw [hv235_2] at ge235_2
                  have HL235_2 := Aside0.mk (show Kd.R (Kd.int .i64) 3 _ _ _ _ ((rd_T39 t226 x7_3).f2) from ge235_2)
                  clear hv235_2 ge235_2
                  clear hcc235 hce235
                  have HR235_2 := Aside0.mk hi235_2
                  have HC235_2 := Aside0.mk hl235_2
                  clear hi235_2 hl235_2
                  replace p235 := eq_true p235
                  replace q235 := eq_true q235
                  go_wp2_with (first | (go_at_call 23; (with_reducible refine (flow_Goes.calls kj21 _ _ l0 x5_1 t236 _ ?side1 ?side2 A30.out).mono ?_); (case side1 => repeat (first | exact (Kd.C_below HR0.out HB.out) | (with_reducible refine Kd.C_alloc ?_ _) | (with_reducible refine Kd.C_drewN ?_ _) | (with_reducible refine Kd.C_drew ?_))); (case side2 => exact HC0.out); rintro e w33 ⟨v237, rfl, ho0, hb⟩; have n0_ := Aside0.mk (Kd.R_below (by (with_reducible repeat (first | apply Kd.R_alloc | apply Kd.R_drewN | apply Kd.R_drew)); exact HO_3.out) hb); have n1_ := Aside0.mk (Kd.S_elder' (by (with_reducible repeat (first | apply Kd.S_alloc | apply Kd.S_drewN | apply Kd.S_drew)); exact HO_4.out) (Kd.R_base ho0) hb); have n2_ := Aside0.mk (Kd.R_elder' (by (with_reducible repeat (first | apply Kd.R_alloc | apply Kd.R_drewN | apply Kd.R_drew)); exact HL235_2.out) (Kd.R_base ho0) hb); have n3_ := Aside0.mk (Kd.R_lower (Kd.R_new' ho0 (Kd.R_lt (by (with_reducible repeat (first | apply Kd.R_alloc | apply Kd.R_drewN | apply Kd.R_drew)); exact HL235_2.out))) (below_size (by repeat (first | (with_reducible first | exact HB.out | apply below_alloc | apply pw_below_drewN | apply below_drew1) | exact HB.out)))); have n4_ := Aside0.mk (Kd.C_below (by repeat (first | (with_reducible exact HR235_2.out) | (with_reducible refine Kd.C_alloc ?_ _) | (with_reducible refine Kd.C_drewN ?_ _) | (with_reducible refine Kd.C_drew ?_) | exact HR235_2.out)) hb); have n5_ := Aside0.mk (below_step (by repeat (first | (with_reducible first | exact HB.out | apply below_alloc | apply pw_below_drewN | apply below_drew1) | exact HB.out)) hb); clear HO_3; clear HO_4; clear HL235_2; clear HR235_2; clear HB; have HO_3 := n0_; have HO_4 := n1_; have HL235_2 := n2_; have HO238 := n3_; have HR235_2 := n4_; have HB := n5_; clear n0_ n1_ n2_ n3_ n4_ n5_; (try clear hb); (try clear hb2); (try clear hk); (try clear hi); (try clear ho0)) | ((with_reducible refine gate_dst (N := 75) rfl ?_); (try (refine gate_guard (by rfl) ?_; dsimp only)); refine Kd.R_lit (Kd.int .i64) _ 3 ?hg (N := 75) ?hd (xs := ([wrap64 (x5_1 + 1)] : List Int)) (inner := [.int .i64 (wrap64 (x5_1 + 1))]) (ok := fun _ => True) (okp := fun _ => True) ?hr ?hp (fun _ hk => hk) trivial (Below.refl _ _) (Nat.le_refl _) (by simp) ?_; (case hd => rfl); (case hg => rfl); (case hr => first | (go_simp; done) | (go_simp; rfl)); (case hp => exact (Reps.one (show Kd.M (Kd.int .i64) _ _ _ (wrap64 (x5_1 + 1)) [.int .i64 (wrap64 (x5_1 + 1))] from rfl) (Reps.none _ _))); intro v240 w34 ho35 hb hg_ hnew_; clear hg_ hnew_; (first | rw [← Ny239.out] at ho35 | (simp only [Int.reduceToNat] at ho35; rw [← Ny239.out] at ho35)); have n0_ := Aside0.mk (Kd.R_below (by (with_reducible repeat (first | apply Kd.R_alloc | apply Kd.R_drewN | apply Kd.R_drew)); exact HO_3.out) hb); have n1_ := Aside0.mk (Kd.S_elder' (by (with_reducible repeat (first | apply Kd.S_alloc | apply Kd.S_drewN | apply Kd.S_drew)); exact HO_4.out) (Kd.R_base ho35) hb); have n2_ := Aside0.mk (Kd.R_elder' (by (with_reducible repeat (first | apply Kd.R_alloc | apply Kd.R_drewN | apply Kd.R_drew)); exact HL235_2.out) (Kd.R_base ho35) hb); have n3_ := Aside0.mk (Kd.R_elder' (by (with_reducible repeat (first | apply Kd.R_alloc | apply Kd.R_drewN | apply Kd.R_drew)); exact HO238.out) (Kd.R_base ho35) hb); have n4_ := Aside0.mk (Kd.R_lower (Kd.R_new' (Kd.R_new' ho35 (Kd.R_lt (by (with_reducible repeat (first | apply Kd.R_alloc | apply Kd.R_drewN | apply Kd.R_drew)); exact HL235_2.out))) (Kd.R_lt (by (with_reducible repeat (first | apply Kd.R_alloc | apply Kd.R_drewN | apply Kd.R_drew)); exact HO238.out))) (below_size (by repeat (first | (with_reducible first | exact HB.out | apply below_alloc | apply pw_below_drewN | apply below_drew1) | exact HB.out)))); have n5_ := Aside0.mk (Kd.C_below (by repeat (first | (with_reducible exact HR235_2.out) | (with_reducible refine Kd.C_alloc ?_ _) | (with_reducible refine Kd.C_drewN ?_ _) | (with_reducible refine Kd.C_drew ?_) | exact HR235_2.out)) hb); have n6_ := Aside0.mk (below_step (by repeat (first | (with_reducible first | exact HB.out | apply below_alloc | apply pw_below_drewN | apply below_drew1) | exact HB.out)) hb); clear HO_3; clear HO_4; clear HL235_2; clear HO238; clear HR235_2; clear HB; have HO_3 := n0_; have HO_4 := n1_; have HL235_2 := n2_; have HO238 := n3_; have HO241 := n4_; have HR235_2 := n5_; have HB := n6_; clear n0_ n1_ n2_ n3_ n4_ n5_ n6_; clear hb ho35; obtain ⟨Ao36, co36, eo36⟩ := Kd.R_slice HO238.out; subst eo36; obtain ⟨Ao37, co37, eo37⟩ := Kd.R_slice HO241.out; subst eo37) | (go_at_call 22; (with_reducible refine (ladderbackref15_Ints.calls kj21 _ _ t236 _ _ y239 true _ ?side1 ?side2 ?side3 ?side4 A31.out).mono ?_); (case side1 => repeat (first | exact (Kd.R_reads' HO238.out).2.2 | (with_reducible refine Kd.C_alloc ?_ _) | (with_reducible refine Kd.C_drewN ?_ _) | (with_reducible refine Kd.C_drew ?_))); (case side2 => exact (Kd.R_reads' HO238.out).2.1); (case side3 => repeat (first | exact (Kd.R_reads' HO241.out).2.2 | (with_reducible refine Kd.C_alloc ?_ _) | (with_reducible refine Kd.C_drewN ?_ _) | (with_reducible refine Kd.C_drew ?_))); (case side4 => exact (Kd.R_reads' HO241.out).2.1); rintro e w' ⟨rfl, ⟨nd, rfl⟩⟩))
                  go_roundg kj21
                  case measure => have := HK1.out; have := HJ17.out; have := HK3.out; have := HJ21.out; omega
                  case rel => exact ⟨(wrap64 (x6_3 + 1)), (wrap64 (x7_3 + 1)), (by first | rfl | (simp; done) | (simp [*]; done)), (by first | rfl | (simp; done) | (simp [*]; done)), H', ⟨by have := HK1.out; have := HJ17.out; have := HK3.out; have := HJ21.out; omega⟩, ⟨by (with_reducible repeat (first | apply Kd.R_alloc | apply Kd.R_drewN | apply Kd.R_drew)); exact HO_3.out⟩, ⟨by (with_reducible repeat (first | apply Kd.S_alloc | apply Kd.S_drewN | apply Kd.S_drew)); exact Kd.S_mono HO_4.out (fun _ hk => trivial)⟩, ⟨by repeat (first | (with_reducible first | exact HB.out | apply below_alloc | apply pw_below_drewN | apply below_drew1) | exact HB.out)⟩⟩
                 ·
                  replace c32 := Bool.eq_false_iff.mpr c32
                  subst c32
                  have H1 : (some false) = some r := by rw [if_neg (show ¬ (false = true) by decide)] at H; exact H
                  clear H
                  have H := H1
                  clear H1
                  exact absurd (Option.some.inj H) (by rw [HRT.out]; decide)
                ·
                 rw [if_neg c29] at H
                 have c29b0 : decide ((wrap64 (x5_1 + 1)) < ((rd_T39 t226 x7_3).f1)) = false := decide_eq_false c29
                 clear c29
                 have H' := Aside0.mk H
                 clear H
                 have p235 : 0 ≤ (x7_3 : Int) := of_decide_eq_true (by first | (with_reducible assumption) | assumption)
                 have q235 : x7_3 < (t226.length : Int) := of_decide_eq_true (by first | (with_reducible assumption) | assumption)
                 obtain ⟨ad235, A235_2, c235_2, e235, hx235_0, hx235_1, hx235_2, hl235_2, hi235_2⟩ := at_T39 (Kd.S_reads' HO_4.out).2.2 x7_3 p235 q235
                 cases e235
                 obtain ⟨ce235, hce235, hMe235, hcc235⟩ := Kd.S_get HO_4.out z39 x7_3 p235 (by first | exact q235 | exact of_decide_eq_true (by first | (with_reducible assumption) | assumption) | (have e_ := (Kd.S_reads' HO_4.out).1; omega))
                 obtain ⟨ve235_2, rfl, ge235_2⟩ := k39_openM hMe235
                 have hv235_2 := hcc235 2 _ rfl
                 rw [add_field _ _ 2 (by omega)] at hv235_2
                 replace hv235_2 := Option.some.inj (hv235_2.symm.trans hx235_2)
                 rw [hv235_2] at ge235_2
                 have HL235_2 := Aside0.mk (show Kd.R (Kd.int .i64) 3 _ _ _ _ ((rd_T39 t226 x7_3).f2) from ge235_2)
                 clear hv235_2 ge235_2
                 clear hcc235 hce235
                 have HR235_2 := Aside0.mk hi235_2
                 have HC235_2 := Aside0.mk hl235_2
                 clear hi235_2 hl235_2
                 replace p235 := eq_true p235
                 replace q235 := eq_true q235
                 go_wp2
                 go_roundg kj21
                 case measure => have := HK1.out; have := HJ17.out; have := HK3.out; have := HJ21.out; omega
                 case rel => exact ⟨(wrap64 (x6_3 + 1)), (wrap64 (x7_3 + 1)), (by first | rfl | (simp; done) | (simp [*]; done)), (by first | rfl | (simp; done) | (simp [*]; done)), H', ⟨by have := HK1.out; have := HJ17.out; have := HK3.out; have := HJ21.out; omega⟩, ⟨by (with_reducible repeat (first | apply Kd.R_alloc | apply Kd.R_drewN | apply Kd.R_drew)); exact HO_3.out⟩, ⟨by (with_reducible repeat (first | apply Kd.S_alloc | apply Kd.S_drewN | apply Kd.S_drew)); exact HO_4.out⟩, ⟨by repeat (first | (with_reducible first | exact HB.out | apply below_alloc | apply pw_below_drewN | apply below_drew1) | exact HB.out)⟩⟩
               ·
                rw [if_neg c28] at H
                exact absurd H (by simp)
              ·
               rw [if_neg c27] at H
               exact absurd H (by simp)
             ·
              replace c26 := Bool.eq_false_iff.mpr c26
              subst c26
              have H1 : (ladderbacklaw30_FlowCovers.l1 kj21 l0 t223 t226 x5_1 x6_3 (wrap64 (x7_3 + 1))) = some r := by rw [if_neg (show ¬ (false = true) by decide)] at H; exact H
              clear H
              have H := H1
              clear H1
              have H' := Aside0.mk H
              clear H
              go_wp2
              go_roundg kj21
              case measure => have := HK1.out; have := HJ17.out; have := HK3.out; have := HJ21.out; omega
              case rel => exact ⟨(x6_3), (wrap64 (x7_3 + 1)), (by first | rfl | (simp; done) | (simp [*]; done)), (by first | rfl | (simp; done) | (simp [*]; done)), H', ⟨by have := HK1.out; have := HJ17.out; have := HK3.out; have := HJ21.out; omega⟩, ⟨by (with_reducible repeat (first | apply Kd.R_alloc | apply Kd.R_drewN | apply Kd.R_drew)); exact HO_3.out⟩, ⟨by (with_reducible repeat (first | apply Kd.S_alloc | apply Kd.S_drewN | apply Kd.S_drew)); exact HO_4.out⟩, ⟨by repeat (first | (with_reducible first | exact HB.out | apply below_alloc | apply pw_below_drewN | apply below_drew1) | exact HB.out)⟩⟩
          ·
           rw [if_neg c21] at H
           have c21b0 : decide (x7_3 < (t226.length : Int)) = false := decide_eq_false c21
           clear c21
           by_cases c38 : 0 ≤ x5_1
           ·
            rw [if_pos c38] at H
            have c38b0 : decide (0 ≤ x5_1) = true := decide_eq_true c38
            clear c38
            by_cases c39 : x5_1 < (t223.length : Int)
            ·
             rw [if_pos c39] at H
             have c39b0 : decide (x5_1 < (t223.length : Int)) = true := decide_eq_true c39
             clear c39
             obtain ⟨bq40, hbq40⟩ : ∃ b_ : Bool, b_ = (((rdOf false t223 x5_1) != (x6_3 == 1))) := ⟨_, rfl⟩
             replace H : (if bq40 = true then (some false) else (if x6_3 > 1 then (some false) else (ladderbacklaw30_FlowCovers.l0 k3 l0 t223 t226 (wrap64 (x5_1 + 1))))) = some r := by rw [← hbq40] at H; exact H
             have Nbq40 := Aside0.mk hbq40
             clear hbq40
             (try rw [← Nbq40.out])
             by_cases c41 : bq40 = true
             ·
              subst c41
              have eqbq40 : ((rdOf false t223 x5_1) == (x6_3 == 1)) = false := by have h_ := Nbq40.out; revert h_; generalize (rdOf false t223 x5_1) = a_; generalize (x6_3 == 1) = b_; cases a_ <;> cases b_ <;> simp
              have H1 : (some false) = some r := by rw [if_pos rfl] at H; exact H
              clear H
              have H := H1
              clear H1
              exact absurd (Option.some.inj H) (by rw [HRT.out]; decide)
             ·
              replace c41 := Bool.eq_false_iff.mpr c41
              subst c41
              have eqbq40 : ((rdOf false t223 x5_1) == (x6_3 == 1)) = true := by have h_ := Nbq40.out; revert h_; generalize (rdOf false t223 x5_1) = a_; generalize (x6_3 == 1) = b_; cases a_ <;> cases b_ <;> simp
              have H1 : (if x6_3 > 1 then (some false) else (ladderbacklaw30_FlowCovers.l0 k3 l0 t223 t226 (wrap64 (x5_1 + 1)))) = some r := by rw [if_neg (show ¬ (false = true) by decide)] at H; exact H
              clear H
              have H := H1
              clear H1
              by_cases c42 : x6_3 > 1
              ·
               rw [if_pos c42] at H
               have c42b0 : decide (1 < x6_3) = true := decide_eq_true c42
               clear c42
               exact absurd (Option.some.inj H) (by rw [HRT.out]; decide)
              ·
               rw [if_neg c42] at H
               have c42b0 : decide (1 < x6_3) = false := decide_eq_false c42
               clear c42
               have H' := Aside0.mk H
               clear H
               obtain ⟨Ao43, co43, eo43⟩ := Kd.S_slice HO_4.out
               subst eo43
               have p232 : 0 ≤ (x5_1 : Int) := of_decide_eq_true (by first | (with_reducible assumption) | assumption)
               have q232 : x5_1 < (t223.length : Int) := of_decide_eq_true (by first | (with_reducible assumption) | assumption)
               obtain ⟨ad232, e232, hx232_0⟩ := Kd.at_bool (Kd.R_reads' HO_3.out).2.2 x5_1 p232 q232
               (try rw [← Nbq40.out] at hx232_0)
               cases e232
               replace p232 := eq_true p232
               replace q232 := eq_true q232
               go_wp2
               go_roundg k3
               case measure => have := HK1.out; have := HJ17.out; have := HK3.out; omega
               case rel => exact ⟨(wrap64 (x5_1 + 1)), (by first | rfl | (simp; done) | (simp [*]; done)), H', ⟨by have := HK1.out; have := HJ17.out; have := HK3.out; omega⟩, ⟨by (with_reducible repeat (first | apply Kd.R_alloc | apply Kd.R_drewN | apply Kd.R_drew)); exact HO_3.out⟩, ⟨by (with_reducible repeat (first | apply Kd.S_alloc | apply Kd.S_drewN | apply Kd.S_drew)); exact HO_4.out⟩, ⟨by repeat (first | (with_reducible first | exact HB.out | apply below_alloc | apply pw_below_drewN | apply below_drew1) | exact HB.out)⟩⟩
            ·
             rw [if_neg c39] at H
             exact absurd H (by simp)
           ·
            rw [if_neg c38] at H
            exact absurd H (by simp)
       ·
        replace c20 := Bool.eq_false_iff.mpr c20
        subst c20
        have H1 : (if (t223.length : Int) = (l0.length : Int) then (if (t226.length : Int) > 0 then (if 0 < (t226.length : Int) then (if ((rd_T39 t226 0).f0) = 0 then ((ladderbacklaw30_awake.f kj17).bind fun t231 => (some t231)) else (some false)) else (none)) else (some false)) else (some false)) = some r := by rw [if_neg (show ¬ (false = true) by decide)] at H; exact H
        clear H
        have H := H1
        clear H1
        by_cases c44 : (t223.length : Int) = (l0.length : Int)
        ·
         rw [if_pos c44] at H
         have c44b0 : ((t223.length : Int) == (l0.length : Int)) = true := beq_iff_eq.mpr c44
         have c44b1 : ((t223.length : Int) != (l0.length : Int)) = false := bne_eq_false_iff_eq.mpr c44
         have c44b2 : (t223.length == l0.length) = true := by first | simpa using c44 | (simp at c44 ⊢; omega)
         clear c44
         by_cases c45 : (t226.length : Int) > 0
         ·
          rw [if_pos c45] at H
          have c45b0 : decide (0 < (t226.length : Int)) = true := decide_eq_true c45
          have c45b1 : decide (0 < t226.length) = true := decide_eq_true (by omega)
          clear c45
          by_cases c46 : 0 < (t226.length : Int)
          ·
           rw [if_pos c46] at H
           have c46b0 : decide (0 < (t226.length : Int)) = true := decide_eq_true c46
           have c46b1 : decide (0 < t226.length) = true := decide_eq_true (by omega)
           clear c46
           by_cases c47 : ((rd_T39 t226 0).f0) = 0
           ·
            rw [if_pos c47] at H
            have c47b0 : (((rd_T39 t226 0).f0) == 0) = true := beq_iff_eq.mpr c47
            have c47b1 : (((rd_T39 t226 0).f0) != 0) = false := bne_eq_false_iff_eq.mpr c47
            clear c47
            replace H := Option.bind_eq_some_iff.mp H
            obtain ⟨t231, A480, H⟩ := H
            replace H : (some t231) = some r := H
            have A48 := Aside0.mk A480
            clear A480
            obtain rfl := Option.some.inj H
            obtain ⟨Ao49, co49, eo49⟩ := Kd.S_slice HO_4.out
            subst eo49
            have p230 : 0 ≤ (0 : Int) := (by omega)
            have q230 : 0 < (t226.length : Int) := of_decide_eq_true (by first | (with_reducible assumption) | assumption)
            obtain ⟨ad230, A230_2, c230_2, e230, hx230_0, hx230_1, hx230_2, hl230_2, hi230_2⟩ := at_T39 (Kd.S_reads' HO_4.out).2.2 0 p230 q230
            cases e230
            obtain ⟨ce230, hce230, hMe230, hcc230⟩ := Kd.S_get HO_4.out z39 0 p230 (by first | exact q230 | exact of_decide_eq_true (by first | (with_reducible assumption) | assumption) | (have e_ := (Kd.S_reads' HO_4.out).1; omega))
            obtain ⟨ve230_2, rfl, ge230_2⟩ := k39_openM hMe230
            have hv230_2 := hcc230 2 _ rfl
            rw [add_field _ _ 2 (by omega)] at hv230_2
            replace hv230_2 := Option.some.inj (hv230_2.symm.trans hx230_2)
            rw [hv230_2] at ge230_2
            have HL230_2 := Aside0.mk (show Kd.R (Kd.int .i64) 3 _ _ _ _ ((rd_T39 t226 0).f2) from ge230_2)
            clear hv230_2 ge230_2
            clear hcc230 hce230
            have qi230 : (0 < t226.length) = True := eq_true (by omega)
            (try rw [show ((0 : Int)).toNat = 0 from rfl] at hx230_0)
            (try rw [show 0 * 3 = 0 from rfl] at hx230_0)
            (try rw [Addr.add_zero'] at hx230_0)
            (try rw [show ((0 : Int)).toNat = 0 from rfl] at hx230_1)
            (try rw [show 0 * 3 = 0 from rfl] at hx230_1)
            (try rw [Addr.add_zero'] at hx230_1)
            (try rw [show ((0 : Int)).toNat = 0 from rfl] at hx230_2)
            (try rw [show 0 * 3 = 0 from rfl] at hx230_2)
            (try rw [Addr.add_zero'] at hx230_2)
            have HR230_2 := Aside0.mk hi230_2
            have HC230_2 := Aside0.mk hl230_2
            clear hi230_2 hl230_2
            replace p230 := eq_true p230
            replace q230 := eq_true q230
            go_wp2_with (first | (go_at_call 19; (with_reducible refine (ladderbacklaw30_awake.calls kj17  t231 _ A48.out).mono ?_); rintro e w50 ⟨rfl, hb⟩; have n0_ := Aside0.mk (Kd.R_below (by (with_reducible repeat (first | apply Kd.R_alloc | apply Kd.R_drewN | apply Kd.R_drew)); exact HO_3.out) hb); have n1_ := Aside0.mk (Kd.S_below (by (with_reducible repeat (first | apply Kd.S_alloc | apply Kd.S_drewN | apply Kd.S_drew)); exact HO_4.out) hb); have n2_ := Aside0.mk (Kd.R_below (by (with_reducible repeat (first | apply Kd.R_alloc | apply Kd.R_drewN | apply Kd.R_drew)); exact HL230_2.out) hb); have n3_ := Aside0.mk (Kd.C_below (by repeat (first | (with_reducible exact HR230_2.out) | (with_reducible refine Kd.C_alloc ?_ _) | (with_reducible refine Kd.C_drewN ?_ _) | (with_reducible refine Kd.C_drew ?_) | exact HR230_2.out)) hb); have n4_ := Aside0.mk (below_step (by repeat (first | (with_reducible first | exact HB.out | apply below_alloc | apply pw_below_drewN | apply below_drew1) | exact HB.out)) hb); clear HO_3; clear HO_4; clear HL230_2; clear HR230_2; clear HB; have HO_3 := n0_; have HO_4 := n1_; have HL230_2 := n2_; have HR230_2 := n3_; have HB := n4_; clear n0_ n1_ n2_ n3_ n4_; (try clear hb); (try clear hb2); (try clear hk); (try clear hi)))
            go_ret
            exact ⟨by first | rfl | (simp [errW_none, errW_some] <;> rfl) | (simp [*, errW_none, errW_some] <;> rfl), by repeat (first | (with_reducible first | exact HB.out | apply below_alloc | apply pw_below_drewN | apply below_drew1) | exact HB.out)⟩
           ·
            rw [if_neg c47] at H
            have c47b0 : (((rd_T39 t226 0).f0) == 0) = false := beq_eq_false_iff_ne.mpr c47
            have c47b1 : (((rd_T39 t226 0).f0) != 0) = true := bne_iff_ne.mpr c47
            exact absurd (Option.some.inj H) (by rw [HRT.out]; decide)
          ·
           rw [if_neg c46] at H
           exact absurd H (by simp)
         ·
          rw [if_neg c45] at H
          have c45b0 : decide (0 < (t226.length : Int)) = false := decide_eq_false c45
          have c45b1 : decide (0 < t226.length) = false := decide_eq_false (by omega)
          clear c45
          exact absurd (Option.some.inj H) (by rw [HRT.out]; decide)
        ·
         rw [if_neg c44] at H
         have c44b0 : ((t223.length : Int) == (l0.length : Int)) = false := beq_eq_false_iff_ne.mpr c44
         have c44b1 : ((t223.length : Int) != (l0.length : Int)) = true := bne_iff_ne.mpr c44
         have c44b2 : (t223.length == l0.length) = false := by first | simpa using c44 | (simp at c44 ⊢; omega)
         exact absurd (Option.some.inj H) (by rw [HRT.out]; decide)
/-- The pure statement of ladderbacklaw30_FlowCovers. -/
def ladderbacklaw30_FlowCovers.Pure : Prop := ∀ (y0 : List (S44)), (y0.length ≤ 9223372036854775807 ∧ ∀ y0_ ∈ y0, W44 y0_) → ∃ k, ladderbacklaw30_FlowCovers.f k y0 = some true

end Go.Proofs.Ytfiffhcpgojkhaa.QFlowCovers
