-- Printed by a program of this session's over the kit's printer (wip/patch_print.py).
import Derived.Test.YtfiffhcpgojkhaaQFlowBlocksx0
import Derived.Test.YtfiffhcpgojkhaaQFlowBlocksx2
import Derived.Test.YtfiffhcpgojkhaaQFlowBlocksx3
namespace Go.Proofs.Ytfiffhcpgojkhaa.QFlowBlocks
open Go.RowKit Go.Proofs.Ytfiffhcpgojkhaa Go.Proofs.YtfiffhcpgojkhaaW.PrintWords Go.Proofs.YtfiffhcpgojkhaaW.PrintLast Go.Proofs.YtfiffhcpgojkhaaW.PrintMore
attribute [local go_sem] setCell_drewN0 max2_int min2_int max_two min_two max_three min_three max_four min_four   -- for this text's walks alone
set_option linter.unusedVariables false
set_option linter.unusedSimpArgs false

theorem p4_0 {P : Prop} (h : P := by repeat (first | (with_reducible first | exact HB.out | apply below_alloc | apply pw_below_drewN | apply below_drew1) | exact HB.out)) : P := h
theorem p4_1 {P : Prop} (h : P := by (try simp only [List.map_toArray, List.map_cons, List.map_nil]); first | done | rfl | (simp only [List.length_drop, List.length_take]; rfl)) : P := h
theorem p4_2 {P : Prop} (h : P := by first | (with_reducible assumption) | assumption) : P := h
theorem p4_3 {P : Prop} (h : P := by repeat (first | (with_reducible first | exact HB.out | apply below_alloc | apply pw_below_drewN | apply below_drew1 | refine below_set ?_ GE194.out) | exact HB.out)) : P := h
theorem p4_4 {P : Prop} (h : P := by (with_reducible repeat (first | apply Kd.R_alloc | apply Kd.R_drewN | apply Kd.R_drew)); exact HO_23.out) : P := h
theorem p4_5 {P : Prop} (h : P := by (with_reducible repeat (first | apply Kd.R_alloc | apply Kd.R_drewN | apply Kd.R_drew)); exact HO_4.out) : P := h
theorem p4_6 {P : Prop} (h : P := by (with_reducible repeat (first | apply Kd.R_alloc | apply Kd.R_drewN | apply Kd.R_drew)); exact (Kd.R_mono (Kd.R_far (p := ⟨gb194, 2, none⟩) (Kd.R_far (p := ⟨gb194, 1, none⟩) (Kd.R_far (p := ⟨gb194, 0, none⟩) (Kd.R_types HO_23.out BK194.out (by decide)) (fun _ hk => hk.2) (.int .i64 (rd t186 x25_1))) (fun _ hk => hk.2) (.int .i64 x8_12)) (fun _ hk => hk.2) (.slice none 0 0)) (fun _ h_ => h_.1))) : P := h
theorem p4_7 {P : Prop} (h : P := by (with_reducible repeat (first | apply Kd.R_alloc | apply Kd.R_drewN | apply Kd.R_drew)); exact (Kd.R_mono (Kd.R_far (p := ⟨gb194, 2, none⟩) (Kd.R_far (p := ⟨gb194, 1, none⟩) (Kd.R_far (p := ⟨gb194, 0, none⟩) (Kd.R_types HO_4.out BK194.out (by decide)) (fun _ hk => hk.2) (.int .i64 (rd t186 x25_1))) (fun _ hk => hk.2) (.int .i64 x8_12)) (fun _ hk => hk.2) (.slice none 0 0)) (fun _ h_ => h_.1))) : P := h
theorem p4_8 {P : Prop} (h : P := by first | rfl | (simp; done) | (simp [*]; done)) : P := h
theorem p4_9 {P : Prop} (h : P := by (try simp only [List.map_toArray, List.map_cons, List.map_nil]); first | done | (simp only [hji14]; rfl) | rfl | (simp only [List.length_drop, List.length_take]; rfl)) : P := h
theorem p4_10 {P : Prop} (h : P := by (with_reducible repeat (first | apply Kd.S_alloc | apply Kd.S_drewN | apply Kd.S_drew)); exact HO_5.out) : P := h
theorem p4_11 {P : Prop} (h : P := by (with_reducible repeat (first | refine blk_drewN ?_ _ | refine blk_drew ?_ | refine blk_alloc ?_ _)); exact BK194.out) : P := h
theorem p4_12 {P : Prop} (h : P := by (with_reducible repeat (first | apply Kd.R_alloc | apply Kd.R_drewN | apply Kd.R_drew)); exact HO_54.out) : P := h
theorem p4_13 {P : Prop} (h : P := by (with_reducible repeat (first | apply Kd.R_alloc | apply Kd.R_drewN | apply Kd.R_drew)); exact HO209.out) : P := h
theorem eqnil_tt (W : World) : (binOp .eql 25 (.slice none 0 0) (.slice none 0 0)).run Try.prog W = .ok (.bool true) W := by
  simp only [binOp, Op.equal]
  rw [show Op.maxDepth = 9999 + 1 from rfl, Op.equalIn]
  simp [run_underlying Try.underlying25]
theorem eqnil_ff (a : Addr) (n c : Nat) (W : World) : (binOp .eql 25 (.slice (some a) n c) (.slice none 0 0)).run Try.prog W = .ok (.bool false) W := by
  simp only [binOp, Op.equal]
  rw [show Op.maxDepth = 9999 + 1 from rfl, Op.equalIn]
  simp [run_underlying Try.underlying25]
attribute [local go_sem] eqnil_tt eqnil_ff
/-! ### flow_Nodes: function 25 -/
mutual
def flow_Nodes.l0 : Nat → List (S44) → List Int → List (S39) → List Int → Int → Int → Option ((List (S39)))
 | 0, _, _, _, _, _, _ => none
 | k + 1, x0, x4, x5, x23, x24, x25 => if x25 < x24 then (if 0 ≤ x25 then (if x25 < (x23.length : Int) then (flow_Nodes.l1 k x0 x4 x5 (rd x23 x25) (wrap64 ((rd x23 x25) + 1)) x23 x24 x25) else (none)) else (none)) else (some x5)
def flow_Nodes.j2 : Nat → List (S44) → List Int → List (S39) → Int → Int → List Int → Int → Int → Option ((List (S39)))
 | 0, _, _, _, _, _, _, _, _ => none
 | k + 1, x0, x4, x5, x7, x8, x23, x24, x25 => (flow_goes.f k x0 (wrap64 (x8 - 1))).bind fun t195 => (flow_Nodes.l2 k x0 x4 x5 x23 x24 x25 t195 (t195.length : Int) 0 x7 x8 ([] : List Int))
def flow_Nodes.l2 : Nat → List (S44) → List Int → List (S39) → List Int → Int → Int → List Int → Int → Int → Int → Int → List Int → Option ((List (S39)))
 | 0, _, _, _, _, _, _, _, _, _, _, _, _ => none
 | k + 1, x0, x4, x5, x23, x24, x25, x54, x55, x56, x195000, x195001, x195002 => if x56 < x55 then (if 0 ≤ x56 then (if x56 < (x54.length : Int) then ((slices_BinarySearch_int_int.f k x4 (rd x54 x56)).bind fun bt199 => (if x195002.length < 17592186044416 then (flow_Nodes.l2 k x0 x4 x5 x23 x24 x25 x54 x55 (wrap64 (x56 + 1)) x195000 x195001 (x195002 ++ [bt199.1])) else (none))) else (none)) else (none)) else (if x5.length < 3518437208883 then (flow_Nodes.l0 k x0 x4 (x5 ++ [(⟨x195000, x195001, x195002⟩ : S39)]) x23 x24 (wrap64 (x25 + 1))) else (none))
def flow_Nodes.l1 : Nat → List (S44) → List Int → List (S39) → Int → Int → List Int → Int → Int → Option ((List (S39)))
 | 0, _, _, _, _, _, _, _, _ => none
 | k + 1, x0, x4, x5, x7, x8, x23, x24, x25 => if 0 ≤ (wrap64 (x8 - 1)) then (if (wrap64 (x8 - 1)) < (x0.length : Int) then ((flow_far.f ((rd_T44 x0 (wrap64 (x8 - 1))).f0)).bind fun t191 => (if t191 = true then (flow_Nodes.j2 k x0 x4 x5 x7 x8 x23 x24 x25) else ((slices_BinarySearch_int_int.f k x4 x8).bind fun bt192 => (if bt192.2 = true then (flow_Nodes.j2 k x0 x4 x5 x7 x8 x23 x24 x25) else (flow_Nodes.l1 k x0 x4 x5 x7 (wrap64 (x8 + 1)) x23 x24 x25))))) else (none)) else (none)
end
def flow_Nodes.f (k : Nat) (l0 : List (S44)) : Option ((List (S39))) := (flow_Met.f k l0).bind fun t183 => (if (t183.length : Int) = 0 then (some ([] : List (S39))) else ((flow_leaders.f k l0 t183).bind fun t186 => (flow_Nodes.l0 k l0 t186 ([] : List (S39)) t186 (t186.length : Int) 0)))
theorem flow_Nodes.mono_l : ∀ k, (∀ y0 y1 y2 y3 y4 y5, LeO (flow_Nodes.l0 k y0 y1 y2 y3 y4 y5) (flow_Nodes.l0 (k + 1) y0 y1 y2 y3 y4 y5)) ∧ (∀ y0 y1 y2 y3 y4 y5 y6 y7, LeO (flow_Nodes.j2 k y0 y1 y2 y3 y4 y5 y6 y7) (flow_Nodes.j2 (k + 1) y0 y1 y2 y3 y4 y5 y6 y7)) ∧ (∀ y0 y1 y2 y3 y4 y5 y6 y7 y8 y9 y10 y11, LeO (flow_Nodes.l2 k y0 y1 y2 y3 y4 y5 y6 y7 y8 y9 y10 y11) (flow_Nodes.l2 (k + 1) y0 y1 y2 y3 y4 y5 y6 y7 y8 y9 y10 y11)) ∧ (∀ y0 y1 y2 y3 y4 y5 y6 y7, LeO (flow_Nodes.l1 k y0 y1 y2 y3 y4 y5 y6 y7) (flow_Nodes.l1 (k + 1) y0 y1 y2 y3 y4 y5 y6 y7))
 | 0 => ⟨fun _ _ _ _ _ _ r h => by simp [flow_Nodes.l0] at h, fun _ _ _ _ _ _ _ _ r h => by simp [flow_Nodes.j2] at h, fun _ _ _ _ _ _ _ _ _ _ _ _ r h => by simp [flow_Nodes.l2] at h, fun _ _ _ _ _ _ _ _ r h => by simp [flow_Nodes.l1] at h⟩
 | k + 1 => by
  obtain ⟨ih0, ih1, ih2, ih3⟩ := flow_Nodes.mono_l k
  refine ⟨?_, ?_, ?_, ?_⟩
  ·
   intro y0 y1 y2 y3 y4 y5
   unfold flow_Nodes.l0
   repeat' first
   | (with_reducible exact ih0 _ _ _ _ _ _)
   | (with_reducible exact ih1 _ _ _ _ _ _ _ _)
   | (with_reducible exact ih2 _ _ _ _ _ _ _ _ _ _ _ _)
   | (with_reducible exact ih3 _ _ _ _ _ _ _ _)
   | (with_reducible exact flow_Met.mono _ _)
   | (with_reducible exact flow_goes.mono _ _ _)
   | (with_reducible exact flow_leaders.mono _ _ _)
   | (with_reducible exact slices_BinarySearch_int_int.mono _ _ _)
   | (with_reducible exact LeO.refl _)
   | (with_reducible exact LeO.none _)
   | (with_reducible refine LeO.ite ?_ ?_)
   | (with_reducible refine LeO.bind ?_ (fun _ => ?_))
   | exact ih0 _ _ _ _ _ _
   | exact ih1 _ _ _ _ _ _ _ _
   | exact ih2 _ _ _ _ _ _ _ _ _ _ _ _
   | exact ih3 _ _ _ _ _ _ _ _
   | exact flow_Met.mono _ _
   | exact flow_goes.mono _ _ _
   | exact flow_leaders.mono _ _ _
   | exact slices_BinarySearch_int_int.mono _ _ _
   | exact LeO.none _
   | refine LeO.ite ?_ ?_
   | refine LeO.bind ?_ (fun _ => ?_)
  ·
   intro y0 y1 y2 y3 y4 y5 y6 y7
   unfold flow_Nodes.j2
   repeat' first
   | (with_reducible exact ih0 _ _ _ _ _ _)
   | (with_reducible exact ih1 _ _ _ _ _ _ _ _)
   | (with_reducible exact ih2 _ _ _ _ _ _ _ _ _ _ _ _)
   | (with_reducible exact ih3 _ _ _ _ _ _ _ _)
   | (with_reducible exact flow_Met.mono _ _)
   | (with_reducible exact flow_goes.mono _ _ _)
   | (with_reducible exact flow_leaders.mono _ _ _)
   | (with_reducible exact slices_BinarySearch_int_int.mono _ _ _)
   | (with_reducible exact LeO.refl _)
   | (with_reducible exact LeO.none _)
   | (with_reducible refine LeO.ite ?_ ?_)
   | (with_reducible refine LeO.bind ?_ (fun _ => ?_))
   | exact ih0 _ _ _ _ _ _
   | exact ih1 _ _ _ _ _ _ _ _
   | exact ih2 _ _ _ _ _ _ _ _ _ _ _ _
   | exact ih3 _ _ _ _ _ _ _ _
   | exact flow_Met.mono _ _
   | exact flow_goes.mono _ _ _
   | exact flow_leaders.mono _ _ _
   | exact slices_BinarySearch_int_int.mono _ _ _
   | exact LeO.none _
   | refine LeO.ite ?_ ?_
   | refine LeO.bind ?_ (fun _ => ?_)
  ·
   intro y0 y1 y2 y3 y4 y5 y6 y7 y8 y9 y10 y11
   unfold flow_Nodes.l2
   repeat' first
   | (with_reducible exact ih0 _ _ _ _ _ _)
   | (with_reducible exact ih1 _ _ _ _ _ _ _ _)
   | (with_reducible exact ih2 _ _ _ _ _ _ _ _ _ _ _ _)
   | (with_reducible exact ih3 _ _ _ _ _ _ _ _)
   | (with_reducible exact flow_Met.mono _ _)
   | (with_reducible exact flow_goes.mono _ _ _)
   | (with_reducible exact flow_leaders.mono _ _ _)
   | (with_reducible exact slices_BinarySearch_int_int.mono _ _ _)
   | (with_reducible exact LeO.refl _)
   | (with_reducible exact LeO.none _)
   | (with_reducible refine LeO.ite ?_ ?_)
   | (with_reducible refine LeO.bind ?_ (fun _ => ?_))
   | exact ih0 _ _ _ _ _ _
   | exact ih1 _ _ _ _ _ _ _ _
   | exact ih2 _ _ _ _ _ _ _ _ _ _ _ _
   | exact ih3 _ _ _ _ _ _ _ _
   | exact flow_Met.mono _ _
   | exact flow_goes.mono _ _ _
   | exact flow_leaders.mono _ _ _
   | exact slices_BinarySearch_int_int.mono _ _ _
   | exact LeO.none _
   | refine LeO.ite ?_ ?_
   | refine LeO.bind ?_ (fun _ => ?_)
  ·
   intro y0 y1 y2 y3 y4 y5 y6 y7
   unfold flow_Nodes.l1
   repeat' first
   | (with_reducible exact ih0 _ _ _ _ _ _)
   | (with_reducible exact ih1 _ _ _ _ _ _ _ _)
   | (with_reducible exact ih2 _ _ _ _ _ _ _ _ _ _ _ _)
   | (with_reducible exact ih3 _ _ _ _ _ _ _ _)
   | (with_reducible exact flow_Met.mono _ _)
   | (with_reducible exact flow_goes.mono _ _ _)
   | (with_reducible exact flow_leaders.mono _ _ _)
   | (with_reducible exact slices_BinarySearch_int_int.mono _ _ _)
   | (with_reducible exact LeO.refl _)
   | (with_reducible exact LeO.none _)
   | (with_reducible refine LeO.ite ?_ ?_)
   | (with_reducible refine LeO.bind ?_ (fun _ => ?_))
   | exact ih0 _ _ _ _ _ _
   | exact ih1 _ _ _ _ _ _ _ _
   | exact ih2 _ _ _ _ _ _ _ _ _ _ _ _
   | exact ih3 _ _ _ _ _ _ _ _
   | exact flow_Met.mono _ _
   | exact flow_goes.mono _ _ _
   | exact flow_leaders.mono _ _ _
   | exact slices_BinarySearch_int_int.mono _ _ _
   | exact LeO.none _
   | refine LeO.ite ?_ ?_
   | refine LeO.bind ?_ (fun _ => ?_)
theorem flow_Nodes.mono : ∀ a0 k, LeO (flow_Nodes.f k a0) (flow_Nodes.f (k + 1) a0) := by
 intro a0 k
 obtain ⟨ih0, ih1, ih2, ih3⟩ := flow_Nodes.mono_l k
 unfold flow_Nodes.f
 repeat' first
   | (with_reducible exact ih0 _ _ _ _ _ _)
   | (with_reducible exact ih1 _ _ _ _ _ _ _ _)
   | (with_reducible exact ih2 _ _ _ _ _ _ _ _ _ _ _ _)
   | (with_reducible exact ih3 _ _ _ _ _ _ _ _)
   | (with_reducible exact flow_Met.mono _ _)
   | (with_reducible exact flow_goes.mono _ _ _)
   | (with_reducible exact flow_leaders.mono _ _ _)
   | (with_reducible exact slices_BinarySearch_int_int.mono _ _ _)
   | (with_reducible exact LeO.refl _)
   | (with_reducible exact LeO.none _)
   | (with_reducible refine LeO.ite ?_ ?_)
   | (with_reducible refine LeO.bind ?_ (fun _ => ?_))
   | exact ih0 _ _ _ _ _ _
   | exact ih1 _ _ _ _ _ _ _ _
   | exact ih2 _ _ _ _ _ _ _ _ _ _ _ _
   | exact ih3 _ _ _ _ _ _ _ _
   | exact flow_Met.mono _ _
   | exact flow_goes.mono _ _ _
   | exact flow_leaders.mono _ _ _
   | exact slices_BinarySearch_int_int.mono _ _ _
   | exact LeO.none _
   | refine LeO.ite ?_ ?_
   | refine LeO.bind ?_ (fun _ => ?_)
set_option maxHeartbeats 8000000 in
set_option maxRecDepth 100000 in
theorem flow_Nodes.calls (k : Nat) (A0 : Option Addr) (c0 : Nat) (l0 : List (S44)) (r : List (S39)) (w : World) (hr0 : Kd.C k44 w A0 l0.length l0) (hc0 : l0.length ≤ c0) (h : flow_Nodes.f k l0 = some r) :
  Calls Try.prog 25 #[.slice A0 l0.length c0] w fun e w' => ∃ v0_ : Value, e = .returned (v0_) ∧ Kd.S k39 39 w' w.heap.size (fun _ => True) v0_ r ∧ Below w.heap.size w w' := by
 have hu39 := Try.underlying39
 have HR0 := Aside0.mk hr0
 have HC0 := Aside0.mk hc0
 clear hr0 hc0
 have HB := Aside0.mk (Below.refl w.heap.size w)
 have H : ((flow_Met.f k l0).bind fun t183 => (if (t183.length : Int) = 0 then (some ([] : List (S39))) else ((flow_leaders.f k l0 t183).bind fun t186 => (flow_Nodes.l0 k l0 t186 ([] : List (S39)) t186 (t186.length : Int) 0)))) = some r := h
 clear h
 replace H := Option.bind_eq_some_iff.mp H
 obtain ⟨t183, A20, H⟩ := H
 replace H : (if (t183.length : Int) = 0 then (some ([] : List (S39))) else ((flow_leaders.f k l0 t183).bind fun t186 => (flow_Nodes.l0 k l0 t186 ([] : List (S39)) t186 (t186.length : Int) 0))) = some r := H
 have A2 := Aside0.mk A20
 clear A20
 by_cases c3 : (t183.length : Int) = 0
 ·
  rw [if_pos c3] at H
  have c3b0 : ((t183.length : Int) == 0) = true := beq_iff_eq.mpr c3
  have c3b1 : ((t183.length : Int) != 0) = false := bne_eq_false_iff_eq.mpr c3
  clear c3
  obtain rfl := Option.some.inj H
  go_enter Try.func25, Try.ntmps25
  go_wp2_with (first | ((with_reducible refine gate_callee (f := 20) rfl ?_); refine goesL_ (some 17) rfl rfl Try.func20 (by kernel_rfl) rfl #[.slice A0 l0.length c0] rfl p4_1 ?_; (with_reducible refine (flow_Met.callsN k _ _ l0 t183 _ ?side1 ?side2 A2.out).mono ?_); (case side1 => repeat (first | exact HR0.out | (with_reducible refine Kd.C_alloc ?_ _) | (with_reducible refine Kd.C_drewN ?_ _) | (with_reducible refine Kd.C_drew ?_))); (case side2 => exact HC0.out); rintro e w4 ⟨v184, rfl, ho0, hb, hn_⟩; obtain ⟨rfl, rfl⟩ := hn_.resolve_right (by have hz_ : (t183.length : Int) = 0 := (by simpa using c3b0); omega); clear hn_; refine ⟨_, rfl, ?_⟩; have n0_ := Aside0.mk (Kd.R_lower ho0 (below_size p4_0)); have n1_ := Aside0.mk (below_step p4_0 hb); clear HB; have HO185 := n0_; have HB := n1_; clear n0_ n1_; (try clear hb); (try clear hb2); (try clear hk); (try clear hi); (try clear ho0)))
  go_ret
  exact ⟨_, by first | rfl | (simp [errW_none, errW_some] <;> rfl) | (simp [*, errW_none, errW_some] <;> rfl), by first | exact Kd.S_nil _ _ _ _ _ | exact Kd.N_nil _ _ _ _ _ | exact Kd.V_nil _ _ _ _ _ | exact Kd.Q_nil _ _ _ _ _ | exact Kd.R_nil _ _ _ _ _, by repeat (first | (with_reducible first | exact HB.out | apply below_alloc | apply pw_below_drewN | apply below_drew1) | exact HB.out)⟩
 ·
  rw [if_neg c3] at H
  have c3b0 : ((t183.length : Int) == 0) = false := beq_eq_false_iff_ne.mpr c3
  have c3b1 : ((t183.length : Int) != 0) = true := bne_iff_ne.mpr c3
  have c3b2 : ¬ (t183 = []) := fun h_ => c3 (by rw [h_]; rfl)
  replace H := Option.bind_eq_some_iff.mp H
  obtain ⟨t186, A50, H⟩ := H
  replace H : (flow_Nodes.l0 k l0 t186 ([] : List (S39)) t186 (t186.length : Int) 0) = some r := H
  have A5 := Aside0.mk A50
  clear A50
  have H' := Aside0.mk H
  clear H
  go_enter Try.func25, Try.ntmps25
  have c_nz : ¬ ((t183.length : Int) = 0) := by simpa using c3b1
  go_wp2_with (first | ((with_reducible refine gate_callee (f := 20) rfl ?_); refine goesL_ (some 17) rfl rfl Try.func20 (by kernel_rfl) rfl #[.slice A0 l0.length c0] rfl p4_1 ?_; (with_reducible refine (flow_Met.callsN k _ _ l0 t183 _ ?side1 ?side2 A2.out).mono ?_); (case side1 => repeat (first | exact HR0.out | (with_reducible refine Kd.C_alloc ?_ _) | (with_reducible refine Kd.C_drewN ?_ _) | (with_reducible refine Kd.C_drew ?_))); (case side2 => exact HC0.out); rintro e w6 ⟨v184, rfl, ho0, hb, hn_⟩; clear hn_; refine ⟨_, rfl, ?_⟩; have n0_ := Aside0.mk (Kd.R_lower ho0 (below_size p4_0)); have n1_ := Aside0.mk (below_step p4_0 hb); clear HB; have HO185 := n0_; have HB := n1_; clear n0_ n1_; (try clear hb); (try clear hb2); (try clear hk); (try clear hi); (try clear ho0); obtain ⟨Ao7, co7, eo7⟩ := Kd.R_slice HO185.out; subst eo7; obtain ⟨g_, cap_, eo_, _⟩ := Kd.R_form HO185.out (Nat.pos_of_ne_zero (fun h_ => c_nz (by rw [h_]; rfl))); obtain ⟨adn7, rfl⟩ : ∃ a_, Ao7 = some a_ := (by injection eo_ with e1_; exact ⟨_, e1_⟩); clear eo_) | ((with_reducible refine gate_callee (f := 59) rfl ?_); refine goesL_ (some 22) rfl rfl Try.func59 (by kernel_rfl) rfl #[.slice A0 l0.length c0, .slice (some adn7) t183.length co7] rfl p4_1 ?_; (with_reducible refine (flow_leaders.calls k _ _ l0 _ _ t183 t186 _ ?side1 ?side2 ?side3 ?side4 A5.out).mono ?_); (case side1 => repeat (first | exact (Kd.C_below HR0.out HB.out) | (with_reducible refine Kd.C_alloc ?_ _) | (with_reducible refine Kd.C_drewN ?_ _) | (with_reducible refine Kd.C_drew ?_))); (case side2 => exact HC0.out); (case side3 => repeat (first | exact (Kd.R_reads' HO185.out).2.2 | (with_reducible refine Kd.C_alloc ?_ _) | (with_reducible refine Kd.C_drewN ?_ _) | (with_reducible refine Kd.C_drew ?_))); (case side4 => exact (Kd.R_reads' HO185.out).2.1); rintro e w8 ⟨v187, rfl, ho0, hb⟩; refine ⟨_, rfl, ?_⟩; have n0_ := Aside0.mk (Kd.R_below (by (with_reducible repeat (first | apply Kd.R_alloc | apply Kd.R_drewN | apply Kd.R_drew)); exact HO185.out) hb); have n1_ := Aside0.mk (Kd.R_lower ho0 (below_size p4_0)); have n2_ := Aside0.mk (below_step p4_0 hb); clear HO185; clear HB; have HO185 := n0_; have HO188 := n1_; have HB := n2_; clear n0_ n1_ n2_; (try clear hb); (try clear hb2); (try clear hk); (try clear hi); (try clear ho0); obtain ⟨Ao9, co9, eo9⟩ := Kd.R_slice HO188.out; subst eo9))
  go_loopg [5, 25] k (fun kq v5 v25 w' => ∃ (x5_1 : List (S39)) (x25_1 : Int), v25 = .int .i64 x25_1 ∧ Aside0 (flow_Nodes.l0 kq l0 t186 x5_1 t186 (t186.length : Int) x25_1 = some r) ∧ Aside0 (kq ≤ k) ∧ Aside0 (Kd.R (Kd.int .i64) 3 w' w.heap.size (fun _ => True) (.slice Ao9 t186.length co9) t186) ∧ Aside0 (Kd.S k39 39 w' w.heap.size (fun k_ => some k_ ≠ ((.slice Ao9 t186.length co9) : Value).ownBlock ∧ some k_ ≠ ((.slice Ao9 t186.length co9) : Value).ownBlock) v5 x5_1) ∧ Aside0 (Kd.R (Kd.int .i64) 3 w' w.heap.size (fun _ => True) (.slice Ao9 t186.length co9) t186) ∧ Aside0 (Below w.heap.size w w'))
  case atStart => exact ⟨(([] : List (S39))), (0), p4_8, H', ⟨Nat.le_refl _⟩, ⟨by (with_reducible repeat (first | apply Kd.R_alloc | apply Kd.R_drewN | apply Kd.R_drew)); exact HO188.out⟩, ⟨by first | exact Kd.S_nil _ _ _ _ _ | exact Kd.N_nil _ _ _ _ _ | exact Kd.V_nil _ _ _ _ _ | exact Kd.Q_nil _ _ _ _ _ | exact Kd.R_nil _ _ _ _ _⟩, ⟨by (with_reducible repeat (first | apply Kd.R_alloc | apply Kd.R_drewN | apply Kd.R_drew)); exact HO188.out⟩, ⟨by repeat (first | (with_reducible first | exact HB.out | apply below_alloc | apply pw_below_drewN | apply below_drew1) | exact HB.out)⟩⟩
  case round =>
   clear H'
   (try clear c3); (try clear c3b0); (try clear c3b1); (try clear c3b2)
   obtain ⟨x5_1, x25_1, rfl, HA, HK1, HO_4, HO_5, HO_23, HB⟩ := hrel
   cases gk with
   | zero => exact absurd HA.out (by simp [flow_Nodes.l0])
   | succ k1 =>
    have H := HA.out
    clear HA
    simp only [flow_Nodes.l0] at H
    by_cases c10 : x25_1 < (t186.length : Int)
    ·
     rw [if_pos c10] at H
     have c10b0 : decide (x25_1 < (t186.length : Int)) = true := decide_eq_true c10
     clear c10
     by_cases c11 : 0 ≤ x25_1
     ·
      rw [if_pos c11] at H
      have c11b0 : decide (0 ≤ x25_1) = true := decide_eq_true c11
      clear c11
      by_cases c12 : x25_1 < (t186.length : Int)
      ·
       rw [if_pos c12] at H
       have c12b0 : decide (x25_1 < (t186.length : Int)) = true := decide_eq_true c12
       clear c12
       have HC13 := Aside0.mk H
       clear H
       have p189 : 0 ≤ (x25_1 : Int) := of_decide_eq_true p4_2
       have q189 : x25_1 < (t186.length : Int) := of_decide_eq_true p4_2
       obtain ⟨ad189, e189, hx189_0⟩ := Kd.at_int (Kd.R_reads' HO_23.out).2.2 x25_1 p189 q189
       cases e189
       replace p189 := eq_true p189
       replace q189 := eq_true q189
       go_upto_block 2 with (fail)
       go_cut [8] from 31 to 47 (fun v8 wc => ∃ (kq : Nat) (x8_12 : Int), v8 = .int .i64 x8_12 ∧ Aside0 (flow_Nodes.j2 kq l0 t186 x5_1 (rd t186 x25_1) x8_12 t186 (t186.length : Int) x25_1 = some r) ∧ Aside0 (kq ≤ k1) ∧ Aside0 (Kd.R (Kd.int .i64) 3 wc w.heap.size (fun _ => True) (.slice (some ad189) t186.length co9) t186) ∧ Aside0 (Kd.S k39 39 wc w.heap.size (fun k_ => some k_ ≠ ((.slice (some ad189) t186.length co9) : Value).ownBlock ∧ some k_ ≠ ((.slice (some ad189) t186.length co9) : Value).ownBlock) u5 x5_1) ∧ Aside0 (Kd.R (Kd.int .i64) 3 wc w.heap.size (fun _ => True) (.slice (some ad189) t186.length co9) t186) ∧ Aside0 (Below w.heap.size w wc))
       case first =>
        have H := HC13.out
        clear HC13
        have H' := Aside0.mk H
        clear H
        go_wp2
        go_loopg [8] k1 (fun kq v8 w' => ∃ (x8_2 : Int), v8 = .int .i64 x8_2 ∧ Aside0 (flow_Nodes.l1 kq l0 t186 x5_1 (rd t186 x25_1) x8_2 t186 (t186.length : Int) x25_1 = some r) ∧ Aside0 (kq ≤ k1) ∧ Aside0 (Kd.R (Kd.int .i64) 3 w' w.heap.size (fun _ => True) (.slice (some ad189) t186.length co9) t186) ∧ Aside0 (Kd.S k39 39 w' w.heap.size (fun k_ => some k_ ≠ ((.slice (some ad189) t186.length co9) : Value).ownBlock ∧ some k_ ≠ ((.slice (some ad189) t186.length co9) : Value).ownBlock) u5 x5_1) ∧ Aside0 (Kd.R (Kd.int .i64) 3 w' w.heap.size (fun _ => True) (.slice (some ad189) t186.length co9) t186) ∧ Aside0 (Below w.heap.size w w'))
        case atStart => exact ⟨(wrap64 ((rd t186 x25_1) + 1)), p4_8, H', ⟨Nat.le_refl _⟩, ⟨by (with_reducible repeat (first | apply Kd.R_alloc | apply Kd.R_drewN | apply Kd.R_drew)); exact HO_4.out⟩, ⟨by (with_reducible repeat (first | apply Kd.S_alloc | apply Kd.S_drewN | apply Kd.S_drew)); exact HO_5.out⟩, ⟨by (with_reducible repeat (first | apply Kd.R_alloc | apply Kd.R_drewN | apply Kd.R_drew)); exact HO_23.out⟩, ⟨by repeat (first | (with_reducible first | exact HB.out | apply below_alloc | apply pw_below_drewN | apply below_drew1) | exact HB.out)⟩⟩
        case round =>
         clear H'
         (try clear c10); (try clear c10b0); (try clear c11); (try clear c11b0); (try clear c12); (try clear c12b0); (try clear hx189_0); (try clear p189); (try clear q189)
         obtain ⟨x8_2, rfl, HA, HK2, HO_4, HO_5, HO_23, HB⟩ := hrel
         cases gk with
         | zero => exact absurd HA.out (by simp [flow_Nodes.l1])
         | succ k2 =>
          have H := HA.out
          clear HA
          simp only [flow_Nodes.l1] at H
          obtain ⟨ji14, hji14⟩ : ∃ j_ : Int, (wrap64 (x8_2 - 1)) = j_ := ⟨_, rfl⟩
          replace H : (if 0 ≤ (ji14) then (if (ji14) < (l0.length : Int) then ((flow_far.f ((rd_T44 l0 (ji14)).f0)).bind fun t191 => (if t191 = true then (flow_Nodes.j2 k2 l0 t186 x5_1 (rd t186 x25_1) x8_2 t186 (t186.length : Int) x25_1) else ((slices_BinarySearch_int_int.f k2 t186 x8_2).bind fun bt192 => (if bt192.2 = true then (flow_Nodes.j2 k2 l0 t186 x5_1 (rd t186 x25_1) x8_2 t186 (t186.length : Int) x25_1) else (flow_Nodes.l1 k2 l0 t186 x5_1 (rd t186 x25_1) (wrap64 (x8_2 + 1)) t186 (t186.length : Int) x25_1))))) else (none)) else (none)) = some r := by first | (rw [hji14] at H; exact H) | (simp only [hji14] at H ⊢; exact H)
          have hji14w : (IntKind.i64.wrap (x8_2 - 1)) = ji14 := (i64_w _).trans hji14
          by_cases c15 : 0 ≤ (ji14)
          ·
           rw [if_pos c15] at H
           have c15b0 : decide (0 ≤ (ji14)) = true := decide_eq_true c15
           clear c15
           (first | rw [c15b0] | (simp only [i64_w, i32_w]; rw [c15b0]) | rw [c15b1] | skip)
           by_cases c16 : (ji14) < (l0.length : Int)
           ·
            rw [if_pos c16] at H
            have c16b0 : decide ((ji14) < (l0.length : Int)) = true := decide_eq_true c16
            clear c16
            replace H := Option.bind_eq_some_iff.mp H
            obtain ⟨t191, A170, H⟩ := H
            replace H : (if t191 = true then (flow_Nodes.j2 k2 l0 t186 x5_1 (rd t186 x25_1) x8_2 t186 (t186.length : Int) x25_1) else ((slices_BinarySearch_int_int.f k2 t186 x8_2).bind fun bt192 => (if bt192.2 = true then (flow_Nodes.j2 k2 l0 t186 x5_1 (rd t186 x25_1) x8_2 t186 (t186.length : Int) x25_1) else (flow_Nodes.l1 k2 l0 t186 x5_1 (rd t186 x25_1) (wrap64 (x8_2 + 1)) t186 (t186.length : Int) x25_1)))) = some r := H
            have A17 := Aside0.mk A170
            clear A170
            by_cases c18 : t191 = true
            ·
             subst c18
             have H1 : (flow_Nodes.j2 k2 l0 t186 x5_1 (rd t186 x25_1) x8_2 t186 (t186.length : Int) x25_1) = some r := by rw [if_pos rfl] at H; exact H
             clear H
             have H := H1
             clear H1
             have H' := Aside0.mk H
             clear H
             have p190 : 0 ≤ ((ji14) : Int) := of_decide_eq_true p4_2
             have q190 : (ji14) < (l0.length : Int) := of_decide_eq_true p4_2
             obtain ⟨ad190, e190, hx190_0, hx190_1, hx190_2⟩ := at_T44 HR0.out (ji14) p190 q190
             cases e190
             replace hx190_0 := (HB.out.cell (World.block_lt_of_cell? w _ hx190_0)).trans hx190_0
             replace hx190_1 := (HB.out.cell (World.block_lt_of_cell? w _ hx190_1)).trans hx190_1
             replace hx190_2 := (HB.out.cell (World.block_lt_of_cell? w _ hx190_2)).trans hx190_2
             replace p190 := eq_true p190
             replace q190 := eq_true q190
             go_wp2_with (first | ((with_reducible refine gate_callee (f := 60) rfl ?_); refine goesL_ (some 37) rfl rfl Try.func60 (by kernel_rfl) rfl #[.int .i64 ((rd_T44 l0 (ji14)).f0)] rfl p4_9 ?_; (with_reducible refine (flow_far.calls ((rd_T44 l0 (ji14)).f0) true _ A17.out).mono ?_); rintro e w' ⟨rfl, ⟨nd, rfl⟩⟩; refine ⟨_, rfl, ?_⟩))
             go_meet
             case rel => exact ⟨_, (x8_2), p4_8, H', ⟨by have := HK1.out; have := HK2.out; first | omega | exact Nat.le_refl _⟩, ⟨by (with_reducible repeat (first | apply Kd.R_alloc | apply Kd.R_drewN | apply Kd.R_drew)); exact HO_4.out⟩, ⟨by (with_reducible repeat (first | apply Kd.S_alloc | apply Kd.S_drewN | apply Kd.S_drew)); exact HO_5.out⟩, ⟨by (with_reducible repeat (first | apply Kd.R_alloc | apply Kd.R_drewN | apply Kd.R_drew)); exact HO_23.out⟩, ⟨by repeat (first | (with_reducible first | exact HB.out | apply below_alloc | apply pw_below_drewN | apply below_drew1) | exact HB.out)⟩⟩
            ·
             replace c18 := Bool.eq_false_iff.mpr c18
             subst c18
             have H1 : ((slices_BinarySearch_int_int.f k2 t186 x8_2).bind fun bt192 => (if bt192.2 = true then (flow_Nodes.j2 k2 l0 t186 x5_1 (rd t186 x25_1) x8_2 t186 (t186.length : Int) x25_1) else (flow_Nodes.l1 k2 l0 t186 x5_1 (rd t186 x25_1) (wrap64 (x8_2 + 1)) t186 (t186.length : Int) x25_1))) = some r := by rw [if_neg (show ¬ (false = true) by decide)] at H; exact H
             clear H
             have H := H1
             clear H1
             replace H := Option.bind_eq_some_iff.mp H
             obtain ⟨⟨t192, t193⟩, A190, H⟩ := H
             replace H : (if t193 = true then (flow_Nodes.j2 k2 l0 t186 x5_1 (rd t186 x25_1) x8_2 t186 (t186.length : Int) x25_1) else (flow_Nodes.l1 k2 l0 t186 x5_1 (rd t186 x25_1) (wrap64 (x8_2 + 1)) t186 (t186.length : Int) x25_1)) = some r := H
             have A19 := Aside0.mk A190
             clear A190
             by_cases c20 : t193 = true
             ·
              subst c20
              have H1 : (flow_Nodes.j2 k2 l0 t186 x5_1 (rd t186 x25_1) x8_2 t186 (t186.length : Int) x25_1) = some r := by rw [if_pos rfl] at H; exact H
              clear H
              have H := H1
              clear H1
              have H' := Aside0.mk H
              clear H
              have p190 : 0 ≤ ((ji14) : Int) := of_decide_eq_true p4_2
              have q190 : (ji14) < (l0.length : Int) := of_decide_eq_true p4_2
              obtain ⟨ad190, e190, hx190_0, hx190_1, hx190_2⟩ := at_T44 HR0.out (ji14) p190 q190
              cases e190
              replace hx190_0 := (HB.out.cell (World.block_lt_of_cell? w _ hx190_0)).trans hx190_0
              replace hx190_1 := (HB.out.cell (World.block_lt_of_cell? w _ hx190_1)).trans hx190_1
              replace hx190_2 := (HB.out.cell (World.block_lt_of_cell? w _ hx190_2)).trans hx190_2
              replace p190 := eq_true p190
              replace q190 := eq_true q190
              go_wp2_with (first | ((with_reducible refine gate_callee (f := 60) rfl ?_); refine goesL_ (some 37) rfl rfl Try.func60 (by kernel_rfl) rfl #[.int .i64 ((rd_T44 l0 (ji14)).f0)] rfl p4_9 ?_; (with_reducible refine (flow_far.calls ((rd_T44 l0 (ji14)).f0) false _ A17.out).mono ?_); rintro e w' ⟨rfl, ⟨nd, rfl⟩⟩; refine ⟨_, rfl, ?_⟩) | ((with_reducible refine gate_callee (f := 61) rfl ?_); refine goesL_ (some 42) rfl rfl Try.func61 (by kernel_rfl) rfl #[.slice (some ad189) t186.length co9, .int .i64 x8_2] rfl p4_1 ?_; (with_reducible refine (slices_BinarySearch_int_int.calls k2 _ _ t186 x8_2 t192 true _ ?side1 ?side2 A19.out).mono ?_); (case side1 => repeat (first | exact (Kd.R_reads' HO_4.out).2.2 | (with_reducible refine Kd.C_alloc ?_ _) | (with_reducible refine Kd.C_drewN ?_ _) | (with_reducible refine Kd.C_drew ?_))); (case side2 => exact (Kd.R_reads' HO_4.out).2.1); rintro e w' ⟨rfl, ⟨nd, rfl⟩⟩; refine ⟨_, rfl, ?_⟩))
              go_meet
              case rel => exact ⟨_, (x8_2), p4_8, H', ⟨by have := HK1.out; have := HK2.out; first | omega | exact Nat.le_refl _⟩, ⟨by (with_reducible repeat (first | apply Kd.R_alloc | apply Kd.R_drewN | apply Kd.R_drew)); exact HO_4.out⟩, ⟨by (with_reducible repeat (first | apply Kd.S_alloc | apply Kd.S_drewN | apply Kd.S_drew)); exact HO_5.out⟩, ⟨by (with_reducible repeat (first | apply Kd.R_alloc | apply Kd.R_drewN | apply Kd.R_drew)); exact HO_23.out⟩, ⟨by repeat (first | (with_reducible first | exact HB.out | apply below_alloc | apply pw_below_drewN | apply below_drew1) | exact HB.out)⟩⟩
             ·
              replace c20 := Bool.eq_false_iff.mpr c20
              subst c20
              have H1 : (flow_Nodes.l1 k2 l0 t186 x5_1 (rd t186 x25_1) (wrap64 (x8_2 + 1)) t186 (t186.length : Int) x25_1) = some r := by rw [if_neg (show ¬ (false = true) by decide)] at H; exact H
              clear H
              have H := H1
              clear H1
              have H' := Aside0.mk H
              clear H
              have p190 : 0 ≤ ((ji14) : Int) := of_decide_eq_true p4_2
              have q190 : (ji14) < (l0.length : Int) := of_decide_eq_true p4_2
              obtain ⟨ad190, e190, hx190_0, hx190_1, hx190_2⟩ := at_T44 HR0.out (ji14) p190 q190
              cases e190
              replace hx190_0 := (HB.out.cell (World.block_lt_of_cell? w _ hx190_0)).trans hx190_0
              replace hx190_1 := (HB.out.cell (World.block_lt_of_cell? w _ hx190_1)).trans hx190_1
              replace hx190_2 := (HB.out.cell (World.block_lt_of_cell? w _ hx190_2)).trans hx190_2
              replace p190 := eq_true p190
              replace q190 := eq_true q190
              go_wp2_with (first | ((with_reducible refine gate_callee (f := 60) rfl ?_); refine goesL_ (some 37) rfl rfl Try.func60 (by kernel_rfl) rfl #[.int .i64 ((rd_T44 l0 (ji14)).f0)] rfl p4_9 ?_; (with_reducible refine (flow_far.calls ((rd_T44 l0 (ji14)).f0) false _ A17.out).mono ?_); rintro e w' ⟨rfl, ⟨nd, rfl⟩⟩; refine ⟨_, rfl, ?_⟩) | ((with_reducible refine gate_callee (f := 61) rfl ?_); refine goesL_ (some 42) rfl rfl Try.func61 (by kernel_rfl) rfl #[.slice (some ad189) t186.length co9, .int .i64 x8_2] rfl p4_1 ?_; (with_reducible refine (slices_BinarySearch_int_int.calls k2 _ _ t186 x8_2 t192 false _ ?side1 ?side2 A19.out).mono ?_); (case side1 => repeat (first | exact (Kd.R_reads' HO_4.out).2.2 | (with_reducible refine Kd.C_alloc ?_ _) | (with_reducible refine Kd.C_drewN ?_ _) | (with_reducible refine Kd.C_drew ?_))); (case side2 => exact (Kd.R_reads' HO_4.out).2.1); rintro e w' ⟨rfl, ⟨nd, rfl⟩⟩; refine ⟨_, rfl, ?_⟩))
              go_roundg k2
              case measure => have := HK1.out; have := HK2.out; omega
              case rel => exact ⟨(wrap64 (x8_2 + 1)), p4_8, H', ⟨by have := HK1.out; have := HK2.out; omega⟩, ⟨by (with_reducible repeat (first | apply Kd.R_alloc | apply Kd.R_drewN | apply Kd.R_drew)); exact HO_4.out⟩, ⟨by (with_reducible repeat (first | apply Kd.S_alloc | apply Kd.S_drewN | apply Kd.S_drew)); exact HO_5.out⟩, ⟨by (with_reducible repeat (first | apply Kd.R_alloc | apply Kd.R_drewN | apply Kd.R_drew)); exact HO_23.out⟩, ⟨by repeat (first | (with_reducible first | exact HB.out | apply below_alloc | apply pw_below_drewN | apply below_drew1) | exact HB.out)⟩⟩
           ·
            rw [if_neg c16] at H
            exact absurd H (by simp)
          ·
           rw [if_neg c15] at H
           exact absurd H (by simp)
       case rest =>
        clear HC13
        (try clear c10); (try clear c10b0); (try clear c11); (try clear c11b0); (try clear c12); (try clear c12b0); (try clear hx189_0); (try clear p189); (try clear q189)
        obtain ⟨kq, x8_12, rfl, HA, HJ12, HO_4, HO_5, HO_23, HB⟩ := hcut
        cases kq with
        | zero => exact absurd HA.out (by simp [flow_Nodes.j2])
        | succ kj12 =>
         have H := HA.out
         clear HA
         simp only [flow_Nodes.j2] at H
         replace H := Option.bind_eq_some_iff.mp H
         obtain ⟨t195, A210, H⟩ := H
         replace H : (flow_Nodes.l2 kj12 l0 t186 x5_1 t186 (t186.length : Int) x25_1 t195 (t195.length : Int) 0 (rd t186 x25_1) x8_12 ([] : List Int)) = some r := H
         have A21 := Aside0.mk A210
         clear A210
         have H' := Aside0.mk H
         clear H
         go_wp2_with (first | ((with_reducible refine gate_dst (N := 11) rfl ?_); refine box_event ?hg (N := 11) ?hd (cs := #[.int .i64 0, .int .i64 0, .slice none 0 0]) (t := 39) ?hr ?_; (case hd => rfl); (case hg => rfl); (case hr => first | (go_simp; done) | (go_simp; rfl)); intro gb194 hg w22 hbox hb; have n0_ := Aside0.mk (Kd.R_below p4_5 hb); have n1_ := Aside0.mk (Kd.S_below (Kd.S_elderB p4_10 gb194 (Nat.le_of_eq hg.symm)) hb); have n2_ := Aside0.mk (Kd.R_below p4_4 hb); have n3_ := Aside0.mk (below_step p4_0 hb); have n4_ := Aside0.mk (hbox); have n5_ := Aside0.mk ((by rw [hg]; exact (below_size p4_0) : w.heap.size ≤ gb194)); have n6_ := Aside0.mk ((by rw [hg]; exact (below_size p4_0) : w.heap.size ≤ gb194)); clear HO_4; clear HO_5; clear HO_23; clear HB; have HO_4 := n0_; have HO_5 := n1_; have HO_23 := n2_; have HB := n3_; have BK194 := n4_; have GW194 := n5_; have GE194 := n6_; clear n0_ n1_ n2_ n3_ n4_ n5_ n6_; clear hb hbox hg; have hcz23_0 : w22.cell? ⟨gb194, 0, none⟩ = some (.int .i64 0) := (blk_cell BK194.out 0).trans rfl; have hcz23_1 : w22.cell? ⟨gb194, 1, none⟩ = some (.int .i64 0) := (blk_cell BK194.out 1).trans rfl; have hcz23_2 : w22.cell? ⟨gb194, 2, none⟩ = some (.slice none 0 0) := (blk_cell BK194.out 2).trans rfl; have hfz23_0 := blk_frozen BK194.out 0; have hfz23_1 := blk_frozen BK194.out 1; have hfz23_2 := blk_frozen BK194.out 2) | ((with_reducible refine gate_callee (f := 57) rfl ?_); refine goesL_ (some 54) rfl rfl Try.func57 (by kernel_rfl) rfl #[.slice A0 l0.length c0, .int .i64 (wrap64 (x8_12 - 1))] rfl p4_1 ?_; (with_reducible refine (flow_goes.calls kj12 _ _ l0 (wrap64 (x8_12 - 1)) t195 _ ?side1 ?side2 A21.out).mono ?_); (case side1 => exact Kd.C_below HR0.out p4_3); (case side2 => exact HC0.out); rintro e w24 ⟨v196, rfl, ho0, hb⟩; refine ⟨_, rfl, ?_⟩; have n0_ := Aside0.mk (Kd.R_elder' p4_7 (Kd.R_base ho0) hb); have n1_ := Aside0.mk (Kd.S_elder' (by (with_reducible repeat (first | apply Kd.S_alloc | apply Kd.S_drewN | apply Kd.S_drew)); exact (Kd.S_mono (Kd.S_far (p := ⟨gb194, 2, none⟩) (Kd.S_far (p := ⟨gb194, 1, none⟩) (Kd.S_far (p := ⟨gb194, 0, none⟩) (Kd.S_mono HO_5.out (fun k_ hk => (⟨hk, hk.2⟩ : _ ∧ k_ ≠ gb194))) (fun _ hk => hk.2) (.int .i64 (rd t186 x25_1))) (fun _ hk => hk.2) (.int .i64 x8_12)) (fun _ hk => hk.2) (.slice none 0 0)) (fun _ h_ => h_.1))) (Kd.R_base ho0) hb); have n2_ := Aside0.mk (Kd.R_elder' p4_6 (Kd.R_base ho0) hb); have n3_ := Aside0.mk (Kd.R_lower (Kd.R_new' (Kd.R_new' ho0 (Kd.R_lt p4_7)) (Kd.R_lt p4_6)) (below_size p4_3)); have n4_ := Aside0.mk (blk_below (g := gb194) (o := .cells #[.int .i64 (rd t186 x25_1), .int .i64 x8_12, .slice none 0 0] 39 (0, 0)) (by (with_reducible repeat (first | refine blk_drewN ?_ _ | refine blk_drew ?_ | refine blk_alloc ?_ _)); refine blk_put (cs := #[.int .i64 (rd t186 x25_1), .int .i64 x8_12, .slice none 0 0]) ?_ 2 _ rfl; (with_reducible repeat (first | refine blk_drewN ?_ _ | refine blk_drew ?_ | refine blk_alloc ?_ _)); refine blk_put (cs := #[.int .i64 (rd t186 x25_1), .int .i64 0, .slice none 0 0]) ?_ 1 _ rfl; (with_reducible repeat (first | refine blk_drewN ?_ _ | refine blk_drew ?_ | refine blk_alloc ?_ _)); refine blk_put (cs := #[.int .i64 0, .int .i64 0, .slice none 0 0]) ?_ 0 _ rfl; (with_reducible repeat (first | refine blk_drewN ?_ _ | refine blk_drew ?_ | refine blk_alloc ?_ _)); exact BK194.out) hb); have n5_ := Aside0.mk (below_step p4_3 hb); clear HO_4; clear HO_5; clear HO_23; clear BK194; clear HB; have HO_4 := n0_; have HO_5 := n1_; have HO_23 := n2_; have HO197 := n3_; have BK194 := n4_; have HB := n5_; clear n0_ n1_ n2_ n3_ n4_ n5_; (try clear hb); (try clear hb2); (try clear hk); (try clear hi); (try clear ho0); obtain ⟨Ao25, co25, eo25⟩ := Kd.R_slice HO197.out; subst eo25))
         go_loopg [56] kj12 (fun kq v56 w' => ∃ (x56_3 : Int) (x195002_3 : List Int) (u195002 : Value), v56 = .int .i64 x56_3 ∧ Aside0 (flow_Nodes.l2 kq l0 t186 x5_1 t186 (t186.length : Int) x25_1 t195 (t195.length : Int) x56_3 (rd t186 x25_1) x8_12 x195002_3 = some r) ∧ Aside0 (kq ≤ kj12) ∧ Aside0 (Kd.R (Kd.int .i64) 3 w' w.heap.size (fun k_ => some k_ ≠ ((.slice Ao25 t195.length co25) : Value).ownBlock ∧ some k_ ≠ (u195002 : Value).ownBlock) (.slice (some ad189) t186.length co9) t186) ∧ Aside0 (Kd.S k39 39 w' w.heap.size (fun k_ => some k_ ≠ ((.slice (some ad189) t186.length co9) : Value).ownBlock ∧ some k_ ≠ ((.slice (some ad189) t186.length co9) : Value).ownBlock ∧ some k_ ≠ ((.slice Ao25 t195.length co25) : Value).ownBlock ∧ some k_ ≠ (u195002 : Value).ownBlock ∧ k_ ≠ gb194) u5 x5_1) ∧ Aside0 (Kd.R (Kd.int .i64) 3 w' w.heap.size (fun k_ => some k_ ≠ ((.slice Ao25 t195.length co25) : Value).ownBlock ∧ some k_ ≠ (u195002 : Value).ownBlock) (.slice (some ad189) t186.length co9) t186) ∧ Aside0 (Kd.R (Kd.int .i64) 3 w' w.heap.size (fun k_ => some k_ ≠ ((.slice (some ad189) t186.length co9) : Value).ownBlock ∧ some k_ ≠ ((.slice (some ad189) t186.length co9) : Value).ownBlock ∧ some k_ ≠ (u195002 : Value).ownBlock) (.slice Ao25 t195.length co25) t195) ∧ Aside0 (Kd.R (Kd.int .i64) 3 w' w.heap.size (fun k_ => some k_ ≠ ((.slice (some ad189) t186.length co9) : Value).ownBlock ∧ some k_ ≠ ((.slice (some ad189) t186.length co9) : Value).ownBlock ∧ some k_ ≠ ((.slice Ao25 t195.length co25) : Value).ownBlock) u195002 x195002_3) ∧ Aside0 (w'.heap[gb194]? = some (.cells #[.int .i64 (rd t186 x25_1), .int .i64 x8_12, u195002] 39 (0, 0))) ∧ Aside0 (Below w.heap.size w w'))
         case atStart => exact ⟨(0), (([] : List Int)), (.slice none 0 0), p4_8, H', ⟨Nat.le_refl _⟩, ⟨by (with_reducible repeat (first | apply Kd.R_alloc | apply Kd.R_drewN | apply Kd.R_drew)); exact Kd.R_mono HO_4.out (fun _ hk => ⟨hk.2, (by simp [Value.ownBlock])⟩)⟩, ⟨by (with_reducible repeat (first | apply Kd.S_alloc | apply Kd.S_drewN | apply Kd.S_drew)); exact Kd.S_mono HO_5.out (fun _ hk => ⟨hk.1.1.1, ⟨hk.1.1.2, ⟨hk.2, ⟨(by simp [Value.ownBlock]), hk.1.2⟩⟩⟩⟩)⟩, ⟨by (with_reducible repeat (first | apply Kd.R_alloc | apply Kd.R_drewN | apply Kd.R_drew)); exact Kd.R_mono HO_23.out (fun _ hk => ⟨hk.2, (by simp [Value.ownBlock])⟩)⟩, ⟨by (with_reducible repeat (first | apply Kd.R_alloc | apply Kd.R_drewN | apply Kd.R_drew)); exact Kd.R_mono HO197.out (fun _ hk => ⟨hk.1.2, ⟨hk.2, (by simp [Value.ownBlock])⟩⟩)⟩, ⟨by first | exact Kd.R_nil _ _ _ _ _ | exact Kd.N_nil _ _ _ _ _ | exact Kd.V_nil _ _ _ _ _ | exact Kd.Q_nil _ _ _ _ _ | exact Kd.S_nil _ _ _ _ _⟩, ⟨by (with_reducible repeat (first | refine blk_drewN ?_ _ | refine blk_drew ?_ | refine blk_alloc ?_ _)); exact BK194.out⟩, ⟨by repeat (first | (with_reducible first | exact HB.out | apply below_alloc | apply pw_below_drewN | apply below_drew1 | refine below_set ?_ GE194.out) | exact HB.out)⟩⟩
         case round =>
          clear H'
          (try clear hcz23_0); (try clear hcz23_1); (try clear hcz23_2); (try clear hfz23_0); (try clear hfz23_1); (try clear hfz23_2)
          obtain ⟨x56_3, x195002_3, u195002, rfl, HA, HK3, HO_4, HO_5, HO_23, HO_54, HO_195002, BK194, HB⟩ := hrel
          cases gk with
          | zero => exact absurd HA.out (by simp [flow_Nodes.l2])
          | succ k3 =>
           have H := HA.out
           clear HA
           simp only [flow_Nodes.l2] at H
           by_cases c26 : x56_3 < (t195.length : Int)
           ·
            rw [if_pos c26] at H
            have c26b0 : decide (x56_3 < (t195.length : Int)) = true := decide_eq_true c26
            clear c26
            by_cases c27 : 0 ≤ x56_3
            ·
             rw [if_pos c27] at H
             have c27b0 : decide (0 ≤ x56_3) = true := decide_eq_true c27
             clear c27
             by_cases c28 : x56_3 < (t195.length : Int)
             ·
              rw [if_pos c28] at H
              have c28b0 : decide (x56_3 < (t195.length : Int)) = true := decide_eq_true c28
              clear c28
              replace H := Option.bind_eq_some_iff.mp H
              obtain ⟨⟨t199, t200⟩, A290, H⟩ := H
              replace H : (if x195002_3.length < 17592186044416 then (flow_Nodes.l2 k3 l0 t186 x5_1 t186 (t186.length : Int) x25_1 t195 (t195.length : Int) (wrap64 (x56_3 + 1)) (rd t186 x25_1) x8_12 (x195002_3 ++ [t199])) else (none)) = some r := H
              have A29 := Aside0.mk A290
              clear A290
              by_cases c30 : x195002_3.length < 17592186044416
              ·
               rw [if_pos c30] at H
               have LMc30 := Aside0.mk c30
               clear c30
               obtain ⟨y201, hy201⟩ : ∃ y_ : List Int, y_ = (x195002_3 ++ [t199]) := ⟨_, rfl⟩
               replace H : (flow_Nodes.l2 k3 l0 t186 x5_1 t186 (t186.length : Int) x25_1 t195 (t195.length : Int) (wrap64 (x56_3 + 1)) (rd t186 x25_1) x8_12 y201) = some r := by first | (rw [hy201]; with_reducible exact H) | (have H2_ := (Option.bind_some _ _).symm.trans H; rw [hy201]; with_reducible exact H2_) | (have H2_ := (Option.bind_some _ _).symm.trans H; with_reducible exact H2_) | with_reducible exact H | (rw [hy201]; exact H) | exact H
               have Ny201 := Aside0.mk hy201
               clear hy201
               have H' := Aside0.mk H
               clear H
               have p198 : 0 ≤ (x56_3 : Int) := of_decide_eq_true p4_2
               have q198 : x56_3 < (t195.length : Int) := of_decide_eq_true p4_2
               obtain ⟨ad198, e198, hx198_0⟩ := Kd.at_int (Kd.R_reads' HO_54.out).2.2 x56_3 p198 q198
               cases e198
               replace p198 := eq_true p198
               replace q198 := eq_true q198
               go_wp2_with (first | ((with_reducible refine gate_callee (f := 61) rfl ?_); refine goesL_ (some 63) rfl rfl Try.func61 (by kernel_rfl) rfl #[.slice (some ad189) t186.length co9, .int .i64 (rd t195 x56_3)] rfl p4_1 ?_; (with_reducible refine (slices_BinarySearch_int_int.calls k3 _ _ t186 (rd t195 x56_3) t199 t200 _ ?side1 ?side2 A29.out).mono ?_); (case side1 => repeat (first | exact (Kd.R_reads' HO_4.out).2.2 | (with_reducible refine Kd.C_alloc ?_ _) | (with_reducible refine Kd.C_drewN ?_ _) | (with_reducible refine Kd.C_drew ?_))); (case side2 => exact (Kd.R_reads' HO_4.out).2.1); rintro e w' ⟨rfl, ⟨nd, rfl⟩⟩; refine ⟨_, rfl, ?_⟩; have hcz31_0 : wr.cell? ⟨gb194, 0, none⟩ = some (.int .i64 (rd t186 x25_1)) := (blk_cell BK194.out 0).trans rfl; have hcz31_1 : wr.cell? ⟨gb194, 1, none⟩ = some (.int .i64 x8_12) := (blk_cell BK194.out 1).trans rfl; have hcz31_2 : wr.cell? ⟨gb194, 2, none⟩ = some (u195002) := (blk_cell BK194.out 2).trans rfl; have hfz31_0 := blk_frozen BK194.out 0; have hfz31_1 := blk_frozen BK194.out 1; have hfz31_2 := blk_frozen BK194.out 2) | ((with_reducible refine gate_builtin (b := .append) (xs := #[.tmp 67, .tmp 69]) rfl ?_); at_builtin; refine Kd.R_append (Kd.int .i64) (w0 := w) w.heap.size rfl (.tmp 67) (.tmp 69) 27 3 (.int .i64 0) 8 rfl Try.underlying27 info3 rfl (by decide) (by omega) u195002 x195002_3 t199 [.int .i64 t199] (fun k_ => some k_ ≠ (.slice (some ad189) t186.length co9 : Value).ownBlock ∧ some k_ ≠ (.slice (some ad189) t186.length co9 : Value).ownBlock ∧ some k_ ≠ (.slice (some ad198) t195.length co25 : Value).ownBlock) (fun _ => False) rfl rfl ?aP (fun _ hk => hk.elim) ?aF ?aO ?aB ?aS ?aL ?_; (case aP => exact rfl); (case aB => exact p4_3); (case aF => exact (fun k_ hk => ⟨Kd.fresh' (Kd.R_lt p4_5) k_ hk, Kd.fresh' (Kd.R_lt p4_4) k_ hk, Kd.fresh' (Kd.R_lt p4_12) k_ hk⟩)); (case aO => exact (by (with_reducible repeat (first | apply Kd.R_alloc | apply Kd.R_drewN | apply Kd.R_drew)); exact HO_195002.out)); (case aS => exact (below_size p4_3)); (case aL => have := LMc30.out; omega); intro v202 w32 ho hb hg hat; rw [← Ny201.out] at ho; have n0_ := Aside0.mk (Kd.R_after (ok := (fun k_ => some k_ ≠ (.slice (some ad198) t195.length co25 : Value).ownBlock)) p4_5 hg hat); have n1_ := Aside0.mk (Kd.S_after (ok := (fun k_ => some k_ ≠ (.slice (some ad189) t186.length co9 : Value).ownBlock ∧ some k_ ≠ (.slice (some ad189) t186.length co9 : Value).ownBlock ∧ some k_ ≠ (.slice (some ad198) t195.length co25 : Value).ownBlock ∧ k_ ≠ gb194)) (by (with_reducible repeat (first | apply Kd.S_alloc | apply Kd.S_drewN | apply Kd.S_drew)); exact Kd.S_mono HO_5.out (fun _ hk => ⟨⟨hk.1, ⟨hk.2.1, ⟨hk.2.2.1, hk.2.2.2.2⟩⟩⟩, hk.2.2.2.1⟩)) hg hat); have n2_ := Aside0.mk (Kd.R_after (ok := (fun k_ => some k_ ≠ (.slice (some ad198) t195.length co25 : Value).ownBlock)) p4_4 hg hat); have n3_ := Aside0.mk (Kd.R_after (ok := (fun k_ => some k_ ≠ (.slice (some ad189) t186.length co9 : Value).ownBlock ∧ some k_ ≠ (.slice (some ad189) t186.length co9 : Value).ownBlock)) (by (with_reducible repeat (first | apply Kd.R_alloc | apply Kd.R_drewN | apply Kd.R_drew)); exact Kd.R_mono HO_54.out (fun _ hk => ⟨⟨hk.1, hk.2.1⟩, hk.2.2⟩)) hg hat); have n4_ := Aside0.mk (blk_grown (g := gb194) (o := .cells #[.int .i64 (rd t186 x25_1), .int .i64 x8_12, u195002] 39 (0, 0)) p4_11 hg (Kd.R_ne HO_195002.out BK194.out (by decide))); have n5_ := Aside0.mk (hb); have n6_ := Aside0.mk (ho); clear HO_4; clear HO_5; clear HO_23; clear HO_54; clear BK194; clear HB; clear HO_195002; have HO_4 := n0_; have HO_5 := n1_; have HO_23 := n2_; have HO_54 := n3_; have BK194 := n4_; have HB := n5_; have HO203 := n6_; clear n0_ n1_ n2_ n3_ n4_ n5_ n6_; clear ho hb hg hat; obtain ⟨Ao33, co33, eo33⟩ := Kd.R_slice HO203.out; subst eo33; have hcz34_0 : w32.cell? ⟨gb194, 0, none⟩ = some (.int .i64 (rd t186 x25_1)) := (blk_cell BK194.out 0).trans rfl; have hcz34_1 : w32.cell? ⟨gb194, 1, none⟩ = some (.int .i64 x8_12) := (blk_cell BK194.out 1).trans rfl; have hcz34_2 : w32.cell? ⟨gb194, 2, none⟩ = some (u195002) := (blk_cell BK194.out 2).trans rfl; have hfz34_0 := blk_frozen BK194.out 0; have hfz34_1 := blk_frozen BK194.out 1; have hfz34_2 := blk_frozen BK194.out 2))
               go_roundg k3
               case measure => have := HK1.out; have := HJ12.out; have := HK3.out; omega
               case rel => exact ⟨(wrap64 (x56_3 + 1)), (y201), (.slice Ao33 y201.length co33), p4_8, H', ⟨by have := HK1.out; have := HJ12.out; have := HK3.out; omega⟩, ⟨by (with_reducible repeat (first | apply Kd.R_alloc | apply Kd.R_drewN | apply Kd.R_drew)); exact Kd.R_mono (Kd.R_far (p := ⟨gb194, 2, none⟩) (Kd.R_types HO_4.out BK194.out (by decide)) (fun _ hk => hk.2) (.slice Ao33 y201.length co33)) (fun _ hk => ⟨hk.1.1, hk.1.2⟩)⟩, ⟨by (with_reducible repeat (first | apply Kd.S_alloc | apply Kd.S_drewN | apply Kd.S_drew)); exact Kd.S_mono (Kd.S_far (p := ⟨gb194, 2, none⟩) (Kd.S_mono HO_5.out (fun k_ hk => (⟨hk, hk.1.2.2.2⟩ : _ ∧ k_ ≠ gb194))) (fun _ hk => hk.2) (.slice Ao33 y201.length co33)) (fun _ hk => ⟨hk.1.1.1, ⟨hk.1.1.2.1, ⟨hk.1.1.2.2.1, ⟨hk.1.2, hk.1.1.2.2.2⟩⟩⟩⟩)⟩, ⟨by (with_reducible repeat (first | apply Kd.R_alloc | apply Kd.R_drewN | apply Kd.R_drew)); exact Kd.R_mono (Kd.R_far (p := ⟨gb194, 2, none⟩) (Kd.R_types HO_23.out BK194.out (by decide)) (fun _ hk => hk.2) (.slice Ao33 y201.length co33)) (fun _ hk => ⟨hk.1.1, hk.1.2⟩)⟩, ⟨by (with_reducible repeat (first | apply Kd.R_alloc | apply Kd.R_drewN | apply Kd.R_drew)); exact Kd.R_mono (Kd.R_far (p := ⟨gb194, 2, none⟩) (Kd.R_types HO_54.out BK194.out (by decide)) (fun _ hk => hk.2) (.slice Ao33 y201.length co33)) (fun _ hk => ⟨hk.1.1.1, ⟨hk.1.1.2, hk.1.2⟩⟩)⟩, ⟨by (with_reducible repeat (first | apply Kd.R_alloc | apply Kd.R_drewN | apply Kd.R_drew)); exact Kd.R_mono (Kd.R_far (p := ⟨gb194, 2, none⟩) (Kd.R_types HO203.out BK194.out (by decide)) (fun _ hk => hk.2) (.slice Ao33 y201.length co33)) (fun _ hk => ⟨hk.1.1, ⟨hk.1.2.1, hk.1.2.2⟩⟩)⟩, ⟨by (with_reducible repeat (first | refine blk_drewN ?_ _ | refine blk_drew ?_ | refine blk_alloc ?_ _)); refine blk_put (cs := #[.int .i64 (rd t186 x25_1), .int .i64 x8_12, u195002]) ?_ 2 _ rfl; (with_reducible repeat (first | refine blk_drewN ?_ _ | refine blk_drew ?_ | refine blk_alloc ?_ _)); exact BK194.out⟩, ⟨by repeat (first | (with_reducible first | exact HB.out | apply below_alloc | apply pw_below_drewN | apply below_drew1 | refine below_set ?_ GE194.out) | exact HB.out)⟩⟩
              ·
               rw [if_neg c30] at H
               exact absurd H (by simp)
             ·
              rw [if_neg c28] at H
              exact absurd H (by simp)
            ·
             rw [if_neg c27] at H
             exact absurd H (by simp)
           ·
            rw [if_neg c26] at H
            have c26b0 : decide (x56_3 < (t195.length : Int)) = false := decide_eq_false c26
            clear c26
            by_cases c35 : x5_1.length < 3518437208883
            ·
             rw [if_pos c35] at H
             have LMc35 := Aside0.mk c35
             clear c35
             obtain ⟨y204, hy204⟩ : ∃ y_ : List (S39), y_ = (x5_1 ++ [(⟨(rd t186 x25_1), x8_12, x195002_3⟩ : S39)]) := ⟨_, rfl⟩
             replace H : (flow_Nodes.l0 k3 l0 t186 y204 t186 (t186.length : Int) (wrap64 (x25_1 + 1))) = some r := by first | (rw [hy204]; with_reducible exact H) | (have H2_ := (Option.bind_some _ _).symm.trans H; rw [hy204]; with_reducible exact H2_) | (have H2_ := (Option.bind_some _ _).symm.trans H; with_reducible exact H2_) | with_reducible exact H | (rw [hy204]; exact H) | exact H
             have Ny204 := Aside0.mk hy204
             clear hy204
             have H' := Aside0.mk H
             clear H
             obtain ⟨hcz36_0, hcz36_1, hcz36_2⟩ := box3_ BK194.out
             obtain ⟨hfz36_0, hfz36_1, hfz36_2⟩ := frz3_ BK194.out
             obtain ⟨Ao38, co38, eo38⟩ := Kd.R_slice HO_195002.out
             subst eo38
             go_wp2_with (first | ((with_reducible refine gate_builtin (b := .append) (xs := #[.tmp 73, .tmp 75]) rfl ?_); at_builtin; refine Kd.S_append k39 (w0 := w) w.heap.size rfl (.tmp 73) (.tmp 75) 36 39 (.agg #[(.int .i64 0), (.int .i64 0), (.slice none 0 0)]) 40 rfl Try.underlying36 info39 rfl (by decide) (by omega) u5 x5_1 (⟨(rd t186 x25_1), x8_12, x195002_3⟩ : S39) [.int .i64 (rd t186 x25_1), .int .i64 x8_12, .slice Ao38 x195002_3.length co38] (fun k_ => some k_ ≠ (.slice (some ad189) t186.length co9 : Value).ownBlock ∧ some k_ ≠ (.slice (some ad189) t186.length co9 : Value).ownBlock ∧ some k_ ≠ (.slice Ao25 t195.length co25 : Value).ownBlock ∧ k_ ≠ gb194) (fun k_ => some k_ = (.slice Ao38 x195002_3.length co38 : Value).ownBlock) rfl rfl ?aP (fun k_ hk_ => ((Kd.R_mono (ok' := fun k_ => ((fun k_ => some k_ ≠ (.slice (some ad189) t186.length co9 : Value).ownBlock ∧ some k_ ≠ (.slice (some ad189) t186.length co9 : Value).ownBlock ∧ some k_ ≠ (.slice Ao25 t195.length co25 : Value).ownBlock ∧ k_ ≠ gb194)) k_ ∧ some k_ ≠ (u5 : Value).ownBlock) (Kd.R_types (Kd.R_apart' (HO_195002.out) (Kd.S_typed HO_5.out) (by decide)) BK194.out (by decide)) (fun k_ hk => ⟨⟨hk.1.1.1, ⟨hk.1.1.2.1, ⟨hk.1.1.2.2, hk.2⟩⟩⟩, hk.1.2⟩))).1 k_ hk_.symm) ?aF ?aO ?aB ?aS ?aL ?_; (case aP => exact k39_mkM _ _ _ (⟨(rd t186 x25_1), x8_12, x195002_3⟩ : S39) (Kd.R_mono (Kd.R_tight rfl (Kd.R_mono (ok' := fun k_ => ((fun k_ => some k_ ≠ (.slice (some ad189) t186.length co9 : Value).ownBlock ∧ some k_ ≠ (.slice (some ad189) t186.length co9 : Value).ownBlock ∧ some k_ ≠ (.slice Ao25 t195.length co25 : Value).ownBlock ∧ k_ ≠ gb194)) k_ ∧ some k_ ≠ (u5 : Value).ownBlock) (Kd.R_types (Kd.R_apart' (HO_195002.out) (Kd.S_typed HO_5.out) (by decide)) BK194.out (by decide)) (fun k_ hk => ⟨⟨hk.1.1.1, ⟨hk.1.1.2.1, ⟨hk.1.1.2.2, hk.2⟩⟩⟩, hk.1.2⟩))) (fun _ h_ => h_))); (case aB => exact p4_3); (case aF => exact (fun k_ hk => ⟨Kd.fresh' (Kd.R_lt p4_5) k_ hk, Kd.fresh' (Kd.R_lt p4_4) k_ hk, Kd.fresh' (Kd.R_lt p4_12) k_ hk, Kd.freshB (g := gb194) (o := .cells #[.int .i64 (rd t186 x25_1), .int .i64 x8_12, .slice Ao38 x195002_3.length co38] 39 (0, 0)) p4_11 k_ hk⟩)); (case aO => exact (by (with_reducible repeat (first | apply Kd.S_alloc | apply Kd.S_drewN | apply Kd.S_drew)); exact Kd.S_mono HO_5.out (fun k_ hk => ⟨⟨hk.1, ⟨hk.2.1, ⟨hk.2.2.1, hk.2.2.2.2⟩⟩⟩, fun e_ => hk.2.2.2.1 e_⟩))); (case aS => exact (below_size p4_3)); (case aL => have := LMc35.out; omega); intro v205 w37 ho hb hg hat; rw [← Ny204.out] at ho; have n0_ := Aside0.mk (Kd.R_over' p4_5 (Kd.S_typed p4_10) (by decide) hg); have n1_ := Aside0.mk (Kd.R_over' p4_4 (Kd.S_typed p4_10) (by decide) hg); have n2_ := Aside0.mk (Kd.R_over' p4_12 (Kd.S_typed p4_10) (by decide) hg); have n3_ := Aside0.mk (blk_grown (g := gb194) (o := .cells #[.int .i64 (rd t186 x25_1), .int .i64 x8_12, .slice Ao38 x195002_3.length co38] 39 (0, 0)) p4_11 hg (Kd.S_away HO_5.out (fun _ hk => hk.2.2.2.2))); have n4_ := Aside0.mk (hb); have n5_ := Aside0.mk (ho); clear HO_4; clear HO_23; clear HO_54; clear BK194; clear HB; clear HO_5; clear HO_195002; have HO_4 := n0_; have HO_23 := n1_; have HO_54 := n2_; have BK194 := n3_; have HB := n4_; have HO206 := n5_; clear n0_ n1_ n2_ n3_ n4_ n5_; clear ho hb hg hat))
             go_roundg k3
             case measure => have := HK1.out; have := HJ12.out; have := HK3.out; omega
             case rel => exact ⟨(y204), (wrap64 (x25_1 + 1)), p4_8, H', ⟨by have := HK1.out; have := HJ12.out; have := HK3.out; omega⟩, ⟨by (with_reducible repeat (first | apply Kd.R_alloc | apply Kd.R_drewN | apply Kd.R_drew)); exact Kd.R_mono HO_4.out (fun _ hk => trivial)⟩, ⟨by (with_reducible repeat (first | apply Kd.S_alloc | apply Kd.S_drewN | apply Kd.S_drew)); exact Kd.S_mono HO206.out (fun _ hk => ⟨hk.1, hk.2.1⟩)⟩, ⟨by (with_reducible repeat (first | apply Kd.R_alloc | apply Kd.R_drewN | apply Kd.R_drew)); exact Kd.R_mono HO_23.out (fun _ hk => trivial)⟩, ⟨by repeat (first | (with_reducible first | exact HB.out | apply below_alloc | apply pw_below_drewN | apply below_drew1 | refine below_set ?_ GE194.out) | exact HB.out)⟩⟩
            ·
             rw [if_neg c35] at H
             exact absurd H (by simp)
      ·
       rw [if_neg c12] at H
       exact absurd H (by simp)
     ·
      rw [if_neg c11] at H
      exact absurd H (by simp)
    ·
     rw [if_neg c10] at H
     have c10b0 : decide (x25_1 < (t186.length : Int)) = false := decide_eq_false c10
     clear c10
     obtain rfl := Option.some.inj H
     go_wp2
     go_ret
     exact ⟨_, by first | rfl | (simp [errW_none, errW_some] <;> rfl) | (simp [*, errW_none, errW_some] <;> rfl), by (with_reducible repeat (first | apply Kd.S_alloc | apply Kd.S_drewN | apply Kd.S_drew)); exact Kd.S_mono HO_5.out (fun _ hk => trivial), by repeat (first | (with_reducible first | exact HB.out | apply below_alloc | apply pw_below_drewN | apply below_drew1) | exact HB.out)⟩

/-! ### ladderbacklaw30_awake: function 19 -/
def ladderbacklaw30_awake.f (k : Nat)  : Option (Bool) := (flow_Nodes.f k (([(⟨31, 2, 0⟩ : S44), (⟨0, 0, 0⟩ : S44), (⟨34, 0, 0⟩ : S44)] : List (S44)))).bind fun t210 => (if (t210.length : Int) = 3 then (if 0 < (t210.length : Int) then (if (((rd_T39 t210 0).f2).length : Int) = 2 then (if 1 < (((rd_T39 t210 0).f2).length : Int) then (some ((rd ((rd_T39 t210 0).f2) 1) == 2)) else (none)) else (some false)) else (none)) else (some false))
theorem ladderbacklaw30_awake.mono : ∀ k, LeO (ladderbacklaw30_awake.f k ) (ladderbacklaw30_awake.f (k + 1) ) := by
 intro  k
 unfold ladderbacklaw30_awake.f
 repeat' first
   | (with_reducible exact flow_Nodes.mono _ _)
   | (with_reducible exact LeO.refl _)
   | (with_reducible exact LeO.none _)
   | (with_reducible refine LeO.ite ?_ ?_)
   | (with_reducible refine LeO.bind ?_ (fun _ => ?_))
   | exact flow_Nodes.mono _ _
   | exact LeO.none _
   | refine LeO.ite ?_ ?_
   | refine LeO.bind ?_ (fun _ => ?_)
set_option maxHeartbeats 8000000 in
set_option maxRecDepth 100000 in
theorem ladderbacklaw30_awake.calls (k : Nat)  (r : Bool) (w : World) (h : ladderbacklaw30_awake.f k  = some r) :
  Calls Try.prog 19 #[] w fun e w' => e = .returned (.bool r) ∧ Below w.heap.size w w' := by
 have hu44 := Try.underlying44
 have HB := Aside0.mk (Below.refl w.heap.size w)
 have H : ((flow_Nodes.f k (([(⟨31, 2, 0⟩ : S44), (⟨0, 0, 0⟩ : S44), (⟨34, 0, 0⟩ : S44)] : List (S44)))).bind fun t210 => (if (t210.length : Int) = 3 then (if 0 < (t210.length : Int) then (if (((rd_T39 t210 0).f2).length : Int) = 2 then (if 1 < (((rd_T39 t210 0).f2).length : Int) then (some ((rd ((rd_T39 t210 0).f2) 1) == 2)) else (none)) else (some false)) else (none)) else (some false))) = some r := h
 clear h
 obtain ⟨y207, hy207⟩ : ∃ y_ : List (S44), y_ = (([(⟨31, 2, 0⟩ : S44), (⟨0, 0, 0⟩ : S44), (⟨34, 0, 0⟩ : S44)] : List (S44))) := ⟨_, rfl⟩
 replace H : ((flow_Nodes.f k y207).bind fun t210 => (if (t210.length : Int) = 3 then (if 0 < (t210.length : Int) then (if (((rd_T39 t210 0).f2).length : Int) = 2 then (if 1 < (((rd_T39 t210 0).f2).length : Int) then (some ((rd ((rd_T39 t210 0).f2) 1) == 2)) else (none)) else (some false)) else (none)) else (some false))) = some r := by first | (rw [hy207]; with_reducible exact H) | (have H2_ := (Option.bind_some _ _).symm.trans H; rw [hy207]; with_reducible exact H2_) | (have H2_ := (Option.bind_some _ _).symm.trans H; with_reducible exact H2_) | with_reducible exact H | (rw [hy207]; exact H) | exact H
 have Ny207 := Aside0.mk hy207
 clear hy207
 replace H := Option.bind_eq_some_iff.mp H
 obtain ⟨t210, A10, H⟩ := H
 replace H : (if (t210.length : Int) = 3 then (if 0 < (t210.length : Int) then (if (((rd_T39 t210 0).f2).length : Int) = 2 then (if 1 < (((rd_T39 t210 0).f2).length : Int) then (some ((rd ((rd_T39 t210 0).f2) 1) == 2)) else (none)) else (some false)) else (none)) else (some false)) = some r := H
 have A1 := Aside0.mk A10
 clear A10
 by_cases c2 : (t210.length : Int) = 3
 ·
  rw [if_pos c2] at H
  have c2b0 : ((t210.length : Int) == 3) = true := beq_iff_eq.mpr c2
  have c2b1 : ((t210.length : Int) != 3) = false := bne_eq_false_iff_eq.mpr c2
  clear c2
  by_cases c3 : 0 < (t210.length : Int)
  ·
   rw [if_pos c3] at H
   have c3b0 : decide (0 < (t210.length : Int)) = true := decide_eq_true c3
   have c3b1 : decide (0 < t210.length) = true := decide_eq_true (by omega)
   clear c3
   by_cases c4 : (((rd_T39 t210 0).f2).length : Int) = 2
   ·
    rw [if_pos c4] at H
    have c4b0 : ((((rd_T39 t210 0).f2).length : Int) == 2) = true := beq_iff_eq.mpr c4
    have c4b1 : ((((rd_T39 t210 0).f2).length : Int) != 2) = false := bne_eq_false_iff_eq.mpr c4
    clear c4
    by_cases c5 : 1 < (((rd_T39 t210 0).f2).length : Int)
    ·
     rw [if_pos c5] at H
     have c5b0 : decide (1 < (((rd_T39 t210 0).f2).length : Int)) = true := decide_eq_true c5
     have c5b1 : decide (1 < ((rd_T39 t210 0).f2).length) = true := decide_eq_true (by omega)
     clear c5
     obtain rfl := Option.some.inj H
     go_enter Try.func19, Try.ntmps19
     go_wp2_with (first | ((with_reducible refine gate_dst (N := 5) rfl ?_); (try (refine gate_guard (by rfl) ?_; dsimp only)); refine Kd.R_lit k44 _ 44 ?hg (N := 5) ?hd (xs := ([(⟨31, 2, 0⟩ : S44), (⟨0, 0, 0⟩ : S44), (⟨34, 0, 0⟩ : S44)] : List (S44))) (inner := [.int .i64 31, .int .i64 2, .int .i64 0, .int .i64 0, .int .i64 0, .int .i64 0, .int .i64 34, .int .i64 0, .int .i64 0]) (ok := fun _ => True) (okp := fun _ => True) ?hr ?hp (fun _ hk => hk) trivial (Below.refl _ _) (Nat.le_refl _) (by simp) ?_; (case hd => rfl); (case hg => rfl); (case hr => first | (go_simp; done) | (go_simp; rfl)); (case hp => exact (Reps.c3 (show Kd.M k44 _ _ _ (⟨31, 2, 0⟩ : S44) [.int .i64 31, .int .i64 2, .int .i64 0] from (k44_mkM _ _ _ (⟨31, 2, 0⟩ : S44) )) (Reps.c3 (show Kd.M k44 _ _ _ (⟨0, 0, 0⟩ : S44) [.int .i64 0, .int .i64 0, .int .i64 0] from (k44_mkM _ _ _ (⟨0, 0, 0⟩ : S44) )) (Reps.c3 (show Kd.M k44 _ _ _ (⟨34, 0, 0⟩ : S44) [.int .i64 34, .int .i64 0, .int .i64 0] from (k44_mkM _ _ _ (⟨34, 0, 0⟩ : S44) )) (Reps.none _ _))))); intro v208 w6 ho7 hb hg_ hnew_; clear hg_ hnew_; (first | rw [← Ny207.out] at ho7 | (simp only [Int.reduceToNat] at ho7; rw [← Ny207.out] at ho7)); have n0_ := Aside0.mk (Kd.R_lower ho7 (below_size p4_0)); have n1_ := Aside0.mk (below_step p4_0 hb); clear HB; have HO209 := n0_; have HB := n1_; clear n0_ n1_; clear hb ho7; obtain ⟨Ao8, co8, eo8⟩ := Kd.R_slice HO209.out; subst eo8) | ((with_reducible refine gate_callee (f := 25) rfl ?_); refine goesL_ (some 6) rfl rfl Try.func25 (by kernel_rfl) rfl #[.slice Ao8 y207.length co8] rfl p4_1 ?_; (with_reducible refine (flow_Nodes.calls k _ _ y207 t210 _ ?side1 ?side2 A1.out).mono ?_); (case side1 => repeat (first | exact (Kd.R_reads' HO209.out).2.2 | (with_reducible refine Kd.C_alloc ?_ _) | (with_reducible refine Kd.C_drewN ?_ _) | (with_reducible refine Kd.C_drew ?_))); (case side2 => exact (Kd.R_reads' HO209.out).2.1); rintro e w9 ⟨v211, rfl, ho0, hb⟩; refine ⟨_, rfl, ?_⟩; have n0_ := Aside0.mk (Kd.R_below p4_13 hb); have n1_ := Aside0.mk (Kd.S_lower ho0 (below_size p4_0)); have n2_ := Aside0.mk (below_step p4_0 hb); clear HO209; clear HB; have HO209 := n0_; have HO212 := n1_; have HB := n2_; clear n0_ n1_ n2_; (try clear hb); (try clear hb2); (try clear hk); (try clear hi); (try clear ho0); obtain ⟨Ao10, co10, eo10⟩ := Kd.S_slice HO212.out; subst eo10; have p213 : 0 ≤ (0 : Int) := (by omega); have q213 : 0 < (t210.length : Int) := of_decide_eq_true p4_2; obtain ⟨ad213, A213_2, c213_2, e213, hx213_0, hx213_1, hx213_2, hl213_2, hi213_2⟩ := at_T39 (Kd.S_reads' HO212.out).2.2 0 p213 q213; cases e213; obtain ⟨ce213, hce213, hMe213, hcc213⟩ := Kd.S_get HO212.out z39 0 p213 (by first | exact q213 | exact of_decide_eq_true p4_2 | (have e_ := (Kd.S_reads' HO212.out).1; omega)); obtain ⟨ve213_2, rfl, ge213_2⟩ := k39_openM hMe213; have hv213_2 := hcc213 2 _ rfl; rw [add_field _ _ 2 (by omega)] at hv213_2; replace hv213_2 := Option.some.inj (hv213_2.symm.trans hx213_2); rw [hv213_2] at ge213_2; have HL213_2 := Aside0.mk (show Kd.R (Kd.int .i64) 3 _ _ _ _ ((rd_T39 t210 0).f2) from ge213_2); clear hv213_2 ge213_2; clear hcc213 hce213; have qi213 : (0 < t210.length) = True := eq_true (by omega); (try rw [show ((0 : Int)).toNat = 0 from rfl] at hx213_0); (try rw [show 0 * 3 = 0 from rfl] at hx213_0); (try rw [Addr.add_zero'] at hx213_0); (try rw [show ((0 : Int)).toNat = 0 from rfl] at hx213_1); (try rw [show 0 * 3 = 0 from rfl] at hx213_1); (try rw [Addr.add_zero'] at hx213_1); (try rw [show ((0 : Int)).toNat = 0 from rfl] at hx213_2); (try rw [show 0 * 3 = 0 from rfl] at hx213_2); (try rw [Addr.add_zero'] at hx213_2); have HR213_2 := Aside0.mk hi213_2; have HC213_2 := Aside0.mk hl213_2; clear hi213_2 hl213_2; replace p213 := eq_true p213; replace q213 := eq_true q213; have p214 : 0 ≤ (0 : Int) := (by omega); have q214 : 0 < (t210.length : Int) := of_decide_eq_true p4_2; obtain ⟨ad214, A214_2, c214_2, e214, hx214_0, hx214_1, hx214_2, hl214_2, hi214_2⟩ := at_T39 (Kd.S_reads' HO212.out).2.2 0 p214 q214; obtain rfl : ad213 = ad214 := (by injection e214); obtain ⟨ce214, hce214, hMe214, hcc214⟩ := Kd.S_get HO212.out z39 0 p214 (by first | exact q214 | exact of_decide_eq_true p4_2 | (have e_ := (Kd.S_reads' HO212.out).1; omega)); obtain ⟨ve214_2, rfl, ge214_2⟩ := k39_openM hMe214; have hv214_2 := hcc214 2 _ rfl; rw [add_field _ _ 2 (by omega)] at hv214_2; replace hv214_2 := Option.some.inj (hv214_2.symm.trans hx214_2); rw [hv214_2] at ge214_2; have HL214_2 := Aside0.mk (show Kd.R (Kd.int .i64) 3 _ _ _ _ ((rd_T39 t210 0).f2) from ge214_2); clear hv214_2 ge214_2; clear hcc214 hce214; have qi214 : (0 < t210.length) = True := eq_true (by omega); (try rw [show ((0 : Int)).toNat = 0 from rfl] at hx214_0); (try rw [show 0 * 3 = 0 from rfl] at hx214_0); (try rw [Addr.add_zero'] at hx214_0); (try rw [show ((0 : Int)).toNat = 0 from rfl] at hx214_1); (try rw [show 0 * 3 = 0 from rfl] at hx214_1); (try rw [Addr.add_zero'] at hx214_1); (try rw [show ((0 : Int)).toNat = 0 from rfl] at hx214_2); (try rw [show 0 * 3 = 0 from rfl] at hx214_2); (try rw [Addr.add_zero'] at hx214_2); have HR214_2 := Aside0.mk hi214_2; have HC214_2 := Aside0.mk hl214_2; clear hi214_2 hl214_2; replace p214 := eq_true p214; replace q214 := eq_true q214; have ea_ := Option.some.inj (hx213_2.symm.trans hx214_2); injection ea_ with ea_ en_ ec_; subst ea_; subst ec_; clear en_; have p215 : 0 ≤ (1 : Int) := (by omega); have q215 : 1 < (((rd_T39 t210 0).f2).length : Int) := of_decide_eq_true p4_2; obtain ⟨ad215, e215, hx215_0⟩ := Kd.at_int (by repeat (first | (with_reducible exact HR214_2.out) | (with_reducible refine Kd.C_alloc ?_ _) | (with_reducible refine Kd.C_drewN ?_ _) | (with_reducible refine Kd.C_drew ?_) | exact HR214_2.out)) 1 p215 q215; cases e215; (try simp only [show (1 : Int).toNat = 1 from rfl, Nat.reduceMul, Nat.reduceEqDiff, Go.Addr.add, ↓reduceIte] at hx215_0); have qi215 : (1 < ((rd_T39 t210 0).f2).length) = True := eq_true (by omega); (try rw [show ((1 : Int)).toNat = 1 from rfl] at hx215_0); replace p215 := eq_true p215; replace q215 := eq_true q215))
     go_ret
     exact ⟨by first | rfl | (simp [errW_none, errW_some] <;> rfl) | (simp [*, errW_none, errW_some] <;> rfl), by repeat (first | (with_reducible first | exact HB.out | apply below_alloc | apply pw_below_drewN | apply below_drew1) | exact HB.out)⟩
    ·
     rw [if_neg c5] at H
     exact absurd H (by simp)
   ·
    rw [if_neg c4] at H
    have c4b0 : ((((rd_T39 t210 0).f2).length : Int) == 2) = false := beq_eq_false_iff_ne.mpr c4
    have c4b1 : ((((rd_T39 t210 0).f2).length : Int) != 2) = true := bne_iff_ne.mpr c4
    obtain rfl := Option.some.inj H
    go_enter Try.func19, Try.ntmps19
    go_wp2_with (first | ((with_reducible refine gate_dst (N := 5) rfl ?_); (try (refine gate_guard (by rfl) ?_; dsimp only)); refine Kd.R_lit k44 _ 44 ?hg (N := 5) ?hd (xs := ([(⟨31, 2, 0⟩ : S44), (⟨0, 0, 0⟩ : S44), (⟨34, 0, 0⟩ : S44)] : List (S44))) (inner := [.int .i64 31, .int .i64 2, .int .i64 0, .int .i64 0, .int .i64 0, .int .i64 0, .int .i64 34, .int .i64 0, .int .i64 0]) (ok := fun _ => True) (okp := fun _ => True) ?hr ?hp (fun _ hk => hk) trivial (Below.refl _ _) (Nat.le_refl _) (by simp) ?_; (case hd => rfl); (case hg => rfl); (case hr => first | (go_simp; done) | (go_simp; rfl)); (case hp => exact (Reps.c3 (show Kd.M k44 _ _ _ (⟨31, 2, 0⟩ : S44) [.int .i64 31, .int .i64 2, .int .i64 0] from (k44_mkM _ _ _ (⟨31, 2, 0⟩ : S44) )) (Reps.c3 (show Kd.M k44 _ _ _ (⟨0, 0, 0⟩ : S44) [.int .i64 0, .int .i64 0, .int .i64 0] from (k44_mkM _ _ _ (⟨0, 0, 0⟩ : S44) )) (Reps.c3 (show Kd.M k44 _ _ _ (⟨34, 0, 0⟩ : S44) [.int .i64 34, .int .i64 0, .int .i64 0] from (k44_mkM _ _ _ (⟨34, 0, 0⟩ : S44) )) (Reps.none _ _))))); intro v208 w11 ho12 hb hg_ hnew_; clear hg_ hnew_; (first | rw [← Ny207.out] at ho12 | (simp only [Int.reduceToNat] at ho12; rw [← Ny207.out] at ho12)); have n0_ := Aside0.mk (Kd.R_lower ho12 (below_size p4_0)); have n1_ := Aside0.mk (below_step p4_0 hb); clear HB; have HO209 := n0_; have HB := n1_; clear n0_ n1_; clear hb ho12; obtain ⟨Ao13, co13, eo13⟩ := Kd.R_slice HO209.out; subst eo13) | ((with_reducible refine gate_callee (f := 25) rfl ?_); refine goesL_ (some 6) rfl rfl Try.func25 (by kernel_rfl) rfl #[.slice Ao13 y207.length co13] rfl p4_1 ?_; (with_reducible refine (flow_Nodes.calls k _ _ y207 t210 _ ?side1 ?side2 A1.out).mono ?_); (case side1 => repeat (first | exact (Kd.R_reads' HO209.out).2.2 | (with_reducible refine Kd.C_alloc ?_ _) | (with_reducible refine Kd.C_drewN ?_ _) | (with_reducible refine Kd.C_drew ?_))); (case side2 => exact (Kd.R_reads' HO209.out).2.1); rintro e w14 ⟨v211, rfl, ho0, hb⟩; refine ⟨_, rfl, ?_⟩; have n0_ := Aside0.mk (Kd.R_below p4_13 hb); have n1_ := Aside0.mk (Kd.S_lower ho0 (below_size p4_0)); have n2_ := Aside0.mk (below_step p4_0 hb); clear HO209; clear HB; have HO209 := n0_; have HO212 := n1_; have HB := n2_; clear n0_ n1_ n2_; (try clear hb); (try clear hb2); (try clear hk); (try clear hi); (try clear ho0); obtain ⟨Ao15, co15, eo15⟩ := Kd.S_slice HO212.out; subst eo15; have p213 : 0 ≤ (0 : Int) := (by omega); have q213 : 0 < (t210.length : Int) := of_decide_eq_true p4_2; obtain ⟨ad213, A213_2, c213_2, e213, hx213_0, hx213_1, hx213_2, hl213_2, hi213_2⟩ := at_T39 (Kd.S_reads' HO212.out).2.2 0 p213 q213; cases e213; obtain ⟨ce213, hce213, hMe213, hcc213⟩ := Kd.S_get HO212.out z39 0 p213 (by first | exact q213 | exact of_decide_eq_true p4_2 | (have e_ := (Kd.S_reads' HO212.out).1; omega)); obtain ⟨ve213_2, rfl, ge213_2⟩ := k39_openM hMe213; have hv213_2 := hcc213 2 _ rfl; rw [add_field _ _ 2 (by omega)] at hv213_2; replace hv213_2 := Option.some.inj (hv213_2.symm.trans hx213_2); rw [hv213_2] at ge213_2; have HL213_2 := Aside0.mk (show Kd.R (Kd.int .i64) 3 _ _ _ _ ((rd_T39 t210 0).f2) from ge213_2); clear hv213_2 ge213_2; clear hcc213 hce213; have qi213 : (0 < t210.length) = True := eq_true (by omega); (try rw [show ((0 : Int)).toNat = 0 from rfl] at hx213_0); (try rw [show 0 * 3 = 0 from rfl] at hx213_0); (try rw [Addr.add_zero'] at hx213_0); (try rw [show ((0 : Int)).toNat = 0 from rfl] at hx213_1); (try rw [show 0 * 3 = 0 from rfl] at hx213_1); (try rw [Addr.add_zero'] at hx213_1); (try rw [show ((0 : Int)).toNat = 0 from rfl] at hx213_2); (try rw [show 0 * 3 = 0 from rfl] at hx213_2); (try rw [Addr.add_zero'] at hx213_2); have HR213_2 := Aside0.mk hi213_2; have HC213_2 := Aside0.mk hl213_2; clear hi213_2 hl213_2; replace p213 := eq_true p213; replace q213 := eq_true q213))
    go_ret
    exact ⟨by first | rfl | (simp [errW_none, errW_some] <;> rfl) | (simp [*, errW_none, errW_some] <;> rfl), by repeat (first | (with_reducible first | exact HB.out | apply below_alloc | apply pw_below_drewN | apply below_drew1) | exact HB.out)⟩
  ·
   rw [if_neg c3] at H
   exact absurd H (by simp)
 ·
  rw [if_neg c2] at H
  have c2b0 : ((t210.length : Int) == 3) = false := beq_eq_false_iff_ne.mpr c2
  have c2b1 : ((t210.length : Int) != 3) = true := bne_iff_ne.mpr c2
  obtain rfl := Option.some.inj H
  go_enter Try.func19, Try.ntmps19
  go_wp2_with (first | ((with_reducible refine gate_dst (N := 5) rfl ?_); (try (refine gate_guard (by rfl) ?_; dsimp only)); refine Kd.R_lit k44 _ 44 ?hg (N := 5) ?hd (xs := ([(⟨31, 2, 0⟩ : S44), (⟨0, 0, 0⟩ : S44), (⟨34, 0, 0⟩ : S44)] : List (S44))) (inner := [.int .i64 31, .int .i64 2, .int .i64 0, .int .i64 0, .int .i64 0, .int .i64 0, .int .i64 34, .int .i64 0, .int .i64 0]) (ok := fun _ => True) (okp := fun _ => True) ?hr ?hp (fun _ hk => hk) trivial (Below.refl _ _) (Nat.le_refl _) (by simp) ?_; (case hd => rfl); (case hg => rfl); (case hr => first | (go_simp; done) | (go_simp; rfl)); (case hp => exact (Reps.c3 (show Kd.M k44 _ _ _ (⟨31, 2, 0⟩ : S44) [.int .i64 31, .int .i64 2, .int .i64 0] from (k44_mkM _ _ _ (⟨31, 2, 0⟩ : S44) )) (Reps.c3 (show Kd.M k44 _ _ _ (⟨0, 0, 0⟩ : S44) [.int .i64 0, .int .i64 0, .int .i64 0] from (k44_mkM _ _ _ (⟨0, 0, 0⟩ : S44) )) (Reps.c3 (show Kd.M k44 _ _ _ (⟨34, 0, 0⟩ : S44) [.int .i64 34, .int .i64 0, .int .i64 0] from (k44_mkM _ _ _ (⟨34, 0, 0⟩ : S44) )) (Reps.none _ _))))); intro v208 w16 ho17 hb hg_ hnew_; clear hg_ hnew_; (first | rw [← Ny207.out] at ho17 | (simp only [Int.reduceToNat] at ho17; rw [← Ny207.out] at ho17)); have n0_ := Aside0.mk (Kd.R_lower ho17 (below_size p4_0)); have n1_ := Aside0.mk (below_step p4_0 hb); clear HB; have HO209 := n0_; have HB := n1_; clear n0_ n1_; clear hb ho17; obtain ⟨Ao18, co18, eo18⟩ := Kd.R_slice HO209.out; subst eo18) | ((with_reducible refine gate_callee (f := 25) rfl ?_); refine goesL_ (some 6) rfl rfl Try.func25 (by kernel_rfl) rfl #[.slice Ao18 y207.length co18] rfl p4_1 ?_; (with_reducible refine (flow_Nodes.calls k _ _ y207 t210 _ ?side1 ?side2 A1.out).mono ?_); (case side1 => repeat (first | exact (Kd.R_reads' HO209.out).2.2 | (with_reducible refine Kd.C_alloc ?_ _) | (with_reducible refine Kd.C_drewN ?_ _) | (with_reducible refine Kd.C_drew ?_))); (case side2 => exact (Kd.R_reads' HO209.out).2.1); rintro e w19 ⟨v211, rfl, ho0, hb⟩; refine ⟨_, rfl, ?_⟩; have n0_ := Aside0.mk (Kd.R_below p4_13 hb); have n1_ := Aside0.mk (Kd.S_lower ho0 (below_size p4_0)); have n2_ := Aside0.mk (below_step p4_0 hb); clear HO209; clear HB; have HO209 := n0_; have HO212 := n1_; have HB := n2_; clear n0_ n1_ n2_; (try clear hb); (try clear hb2); (try clear hk); (try clear hi); (try clear ho0); obtain ⟨Ao20, co20, eo20⟩ := Kd.S_slice HO212.out; subst eo20))
  go_ret
  exact ⟨by first | rfl | (simp [errW_none, errW_some] <;> rfl) | (simp [*, errW_none, errW_some] <;> rfl), by repeat (first | (with_reducible first | exact HB.out | apply below_alloc | apply pw_below_drewN | apply below_drew1) | exact HB.out)⟩

/-! ### ladderbackref15_Ints: function 22 -/
def ladderbackref15_Ints.l0 : Nat → List Int → List Int → Int → Option (Bool)
 | 0, _, _, _ => none
 | k + 1, x0, x1, x5 => if x5 < (x0.length : Int) then (if 0 ≤ x5 then (if x5 < (x1.length : Int) then (if (rd x0 x5) = (rd x1 x5) then (ladderbackref15_Ints.l0 k x0 x1 (wrap64 (x5 + 1))) else (some false)) else (none)) else (none)) else (some true)
def ladderbackref15_Ints.f (k : Nat) (l0 : List Int) (l1 : List Int) : Option (Bool) := if (l0.length : Int) = (l1.length : Int) then (ladderbackref15_Ints.l0 k l0 l1 0) else (some false)
theorem ladderbackref15_Ints.mono_l : ∀ k, (∀ y0 y1 y2, LeO (ladderbackref15_Ints.l0 k y0 y1 y2) (ladderbackref15_Ints.l0 (k + 1) y0 y1 y2))
 | 0 => fun _ _ _ r h => by simp [ladderbackref15_Ints.l0] at h
 | k + 1 => by
  have ih0 := ladderbackref15_Ints.mono_l k
  ·
   intro y0 y1 y2
   unfold ladderbackref15_Ints.l0
   repeat' first
   | (with_reducible exact ih0 _ _ _)
   | (with_reducible exact LeO.refl _)
   | (with_reducible exact LeO.none _)
   | (with_reducible refine LeO.ite ?_ ?_)
   | (with_reducible refine LeO.bind ?_ (fun _ => ?_))
   | exact ih0 _ _ _
   | exact LeO.none _
   | refine LeO.ite ?_ ?_
   | refine LeO.bind ?_ (fun _ => ?_)
theorem ladderbackref15_Ints.mono : ∀ a0 a1 k, LeO (ladderbackref15_Ints.f k a0 a1) (ladderbackref15_Ints.f (k + 1) a0 a1) := by
 intro a0 a1 k
 have ih0 := ladderbackref15_Ints.mono_l k
 unfold ladderbackref15_Ints.f
 repeat' first
   | (with_reducible exact ih0 _ _ _)
   | (with_reducible exact LeO.refl _)
   | (with_reducible exact LeO.none _)
   | (with_reducible refine LeO.ite ?_ ?_)
   | (with_reducible refine LeO.bind ?_ (fun _ => ?_))
   | exact ih0 _ _ _
   | exact LeO.none _
   | refine LeO.ite ?_ ?_
   | refine LeO.bind ?_ (fun _ => ?_)
set_option maxHeartbeats 8000000 in
set_option maxRecDepth 100000 in
theorem ladderbackref15_Ints.calls (k : Nat) (A0 : Option Addr) (c0 : Nat) (l0 : List Int) (A1 : Option Addr) (c1 : Nat) (l1 : List Int) (r : Bool) (w : World) (hr0 : Kd.C (Kd.int .i64) w A0 l0.length l0) (hc0 : l0.length ≤ c0) (hr1 : Kd.C (Kd.int .i64) w A1 l1.length l1) (hc1 : l1.length ≤ c1) (h : ladderbackref15_Ints.f k l0 l1 = some r) :
  Calls Try.prog 22 #[.slice A0 l0.length c0, .slice A1 l1.length c1] w fun e w' => e = .returned (.bool r) ∧ Drawn0 w w' := by
 have HR0 := Aside0.mk hr0
 have HC0 := Aside0.mk hc0
 clear hr0 hc0
 have HR1 := Aside0.mk hr1
 have HC1 := Aside0.mk hc1
 clear hr1 hc1
 have H : (if (l0.length : Int) = (l1.length : Int) then (ladderbackref15_Ints.l0 k l0 l1 0) else (some false)) = some r := h
 clear h
 by_cases c3 : (l0.length : Int) = (l1.length : Int)
 ·
  rw [if_pos c3] at H
  have c3b0 : ((l0.length : Int) == (l1.length : Int)) = true := beq_iff_eq.mpr c3
  have c3b1 : ((l0.length : Int) != (l1.length : Int)) = false := bne_eq_false_iff_eq.mpr c3
  have c3b2 : (l0.length == l1.length) = true := by first | simpa using c3 | (simp at c3 ⊢; omega)
  clear c3
  have H' := Aside0.mk H
  clear H
  go_enter Try.func22, Try.ntmps22
  go_wp2
  repeat (go_quiet (fail); try go_wp2)
  go_loopg [5] k (fun kq v5 w' => ∃ (x5_1 : Int), v5 = .int .i64 x5_1 ∧ Aside0 (ladderbackref15_Ints.l0 kq l0 l1 x5_1 = some r) ∧ Aside0 (kq ≤ k) ∧ Drawn0 w w')
  case atStart => exact ⟨(0), p4_8, H', ⟨Nat.le_refl _⟩, by repeat (first | exact Drawn0.refl _ | apply Drawn0.step)⟩
  case round =>
   clear H'
   (try clear c1); (try clear c3); (try clear c3b0); (try clear c3b1); (try clear c3b2)
   obtain ⟨x5_1, rfl, HA, HK1, ⟨m1, rfl⟩⟩ := hrel
   cases gk with
   | zero => exact absurd HA.out (by simp [ladderbackref15_Ints.l0])
   | succ k1 =>
    have H := HA.out
    clear HA
    simp only [ladderbackref15_Ints.l0] at H
    by_cases c4 : x5_1 < (l0.length : Int)
    ·
     rw [if_pos c4] at H
     have c4b0 : decide (x5_1 < (l0.length : Int)) = true := decide_eq_true c4
     clear c4
     by_cases c5 : 0 ≤ x5_1
     ·
      rw [if_pos c5] at H
      have c5b0 : decide (0 ≤ x5_1) = true := decide_eq_true c5
      clear c5
      by_cases c6 : x5_1 < (l1.length : Int)
      ·
       rw [if_pos c6] at H
       have c6b0 : decide (x5_1 < (l1.length : Int)) = true := decide_eq_true c6
       clear c6
       by_cases c7 : (rd l0 x5_1) = (rd l1 x5_1)
       ·
        rw [if_pos c7] at H
        have c7b0 : ((rd l0 x5_1) == (rd l1 x5_1)) = true := beq_iff_eq.mpr c7
        have c7b1 : ((rd l0 x5_1) != (rd l1 x5_1)) = false := bne_eq_false_iff_eq.mpr c7
        clear c7
        have H' := Aside0.mk H
        clear H
        have p216 : 0 ≤ (x5_1 : Int) := of_decide_eq_true p4_2
        have q216 : x5_1 < (l0.length : Int) := of_decide_eq_true p4_2
        obtain ⟨ad216, e216, hx216_0⟩ := Kd.at_int HR0.out x5_1 p216 q216
        cases e216
        replace p216 := eq_true p216
        replace q216 := eq_true q216
        have p217 : 0 ≤ (x5_1 : Int) := of_decide_eq_true p4_2
        have q217 : x5_1 < (l1.length : Int) := of_decide_eq_true p4_2
        obtain ⟨ad217, e217, hx217_0⟩ := Kd.at_int HR1.out x5_1 p217 q217
        cases e217
        replace p217 := eq_true p217
        replace q217 := eq_true q217
        go_wp2
        repeat (go_quiet (fail); try go_wp2)
        go_roundg k1
        case measure => have := HK1.out; omega
        case rel => exact ⟨(wrap64 (x5_1 + 1)), p4_8, H', ⟨by have := HK1.out; omega⟩, by repeat (first | exact Drawn0.refl _ | apply Drawn0.step)⟩
       ·
        rw [if_neg c7] at H
        have c7b0 : ((rd l0 x5_1) == (rd l1 x5_1)) = false := beq_eq_false_iff_ne.mpr c7
        have c7b1 : ((rd l0 x5_1) != (rd l1 x5_1)) = true := bne_iff_ne.mpr c7
        obtain rfl := Option.some.inj H
        have p216 : 0 ≤ (x5_1 : Int) := of_decide_eq_true p4_2
        have q216 : x5_1 < (l0.length : Int) := of_decide_eq_true p4_2
        obtain ⟨ad216, e216, hx216_0⟩ := Kd.at_int HR0.out x5_1 p216 q216
        cases e216
        replace p216 := eq_true p216
        replace q216 := eq_true q216
        have p217 : 0 ≤ (x5_1 : Int) := of_decide_eq_true p4_2
        have q217 : x5_1 < (l1.length : Int) := of_decide_eq_true p4_2
        obtain ⟨ad217, e217, hx217_0⟩ := Kd.at_int HR1.out x5_1 p217 q217
        cases e217
        replace p217 := eq_true p217
        replace q217 := eq_true q217
        go_wp2
        repeat (go_quiet (fail); try go_wp2)
        go_ret
        exact ⟨by first | rfl | (simp; done) | (simp [*]; done), by repeat (first | exact Drawn0.refl _ | apply Drawn0.step)⟩
      ·
       rw [if_neg c6] at H
       exact absurd H (by simp)
     ·
      rw [if_neg c5] at H
      exact absurd H (by simp)
    ·
     rw [if_neg c4] at H
     have c4b0 : decide (x5_1 < (l0.length : Int)) = false := decide_eq_false c4
     clear c4
     obtain rfl := Option.some.inj H
     go_wp2
     repeat (go_quiet (fail); try go_wp2)
     go_ret
     exact ⟨by first | rfl | (simp; done) | (simp [*]; done), by repeat (first | exact Drawn0.refl _ | apply Drawn0.step)⟩
 ·
  rw [if_neg c3] at H
  have c3b0 : ((l0.length : Int) == (l1.length : Int)) = false := beq_eq_false_iff_ne.mpr c3
  have c3b1 : ((l0.length : Int) != (l1.length : Int)) = true := bne_iff_ne.mpr c3
  have c3b2 : (l0.length == l1.length) = false := by first | simpa using c3 | (simp at c3 ⊢; omega)
  obtain rfl := Option.some.inj H
  go_enter Try.func22, Try.ntmps22
  go_wp2
  repeat (go_quiet (fail); try go_wp2)
  go_ret
  exact ⟨by first | rfl | (simp; done) | (simp [*]; done), by repeat (first | exact Drawn0.refl _ | apply Drawn0.step)⟩

end Go.Proofs.Ytfiffhcpgojkhaa.QFlowBlocks
