-- Printed by a program of this session's over the kit's printer (wip/patch_print.py).
import Derived.Test.YtfiffhcpgojkhaaQInterReducesx0
import Derived.Test.YtfiffhcpgojkhaaQInterReducesx4
namespace Go.Proofs.Ytfiffhcpgojkhaa.QInterReduces
open Go.RowKit Go.Proofs.Ytfiffhcpgojkhaa Go.Proofs.YtfiffhcpgojkhaaW.PrintWords Go.Proofs.YtfiffhcpgojkhaaW.PrintLast Go.Proofs.YtfiffhcpgojkhaaW.PrintMore
attribute [local go_sem] setCell_drewN0 max2_int min2_int max_two min_two max_three min_three max_four min_four   -- for this text's walks alone
set_option linter.unusedVariables false
set_option linter.unusedSimpArgs false

/-! ### ladderbackref31_Dominates: function 52 -/
theorem p5_0 {P : Prop} (h : P := by repeat (first | (with_reducible first | exact HB.out | apply below_alloc | apply pw_below_drewN | apply below_drew1) | exact HB.out)) : P := h
theorem p5_1 {P : Prop} (h : P := by (try simp only [List.map_toArray, List.map_cons, List.map_nil]); first | done | rfl | (simp only [List.length_drop, List.length_take]; rfl)) : P := h
theorem p5_2 {P : Prop} (h : P := by first | (with_reducible assumption) | assumption) : P := h
def ladderbackref31_Dominates.f (k : Nat) (l0 : List (List Int)) (a1 : Int) (a2 : Int) : Option (Bool) := (ladderbackref31_Reach.f k l0 0 (-1)).bind fun t222 => (if a2 < 0 then (some false) else (if a2 ≥ (l0.length : Int) then (some false) else (if a1 < 0 then (some false) else (if a1 ≥ (l0.length : Int) then (some false) else (if 0 ≤ a2 then (if a2 < (t222.length : Int) then (if rdOf false t222 a2 = true then ((ladderbackref31_Reach.f k l0 0 a1).bind fun t226 => (if a2 < (t226.length : Int) then (some (!(rdOf false t226 a2))) else (none))) else (some false)) else (none)) else (none))))))
theorem ladderbackref31_Dominates.mono : ∀ a0 a1 a2 k, LeO (ladderbackref31_Dominates.f k a0 a1 a2) (ladderbackref31_Dominates.f (k + 1) a0 a1 a2) := by
 intro a0 a1 a2 k
 unfold ladderbackref31_Dominates.f
 repeat' first
   | (with_reducible exact ladderbackref31_Reach.mono _ _ _ _)
   | (with_reducible exact LeO.refl _)
   | (with_reducible exact LeO.none _)
   | (with_reducible refine LeO.ite ?_ ?_)
   | (with_reducible refine LeO.bind ?_ (fun _ => ?_))
   | exact ladderbackref31_Reach.mono _ _ _ _
   | exact LeO.none _
   | refine LeO.ite ?_ ?_
   | refine LeO.bind ?_ (fun _ => ?_)
set_option maxHeartbeats 8000000 in
set_option maxRecDepth 100000 in
theorem ladderbackref31_Dominates.calls (k : Nat) (A0 : Option Addr) (c0 : Nat) (l0 : List (List Int)) (a1 : Int) (a2 : Int) (r : Bool) (w : World) (hr0 : Kd.C (Kd.slice 3 (Kd.int .i64)) w A0 l0.length l0) (hc0 : l0.length ≤ c0) (h : ladderbackref31_Dominates.f k l0 a1 a2 = some r) :
  Calls Try.prog 52 #[.slice A0 l0.length c0, .int .i64 a1, .int .i64 a2] w fun e w' => e = .returned (.bool r) ∧ Below w.heap.size w w' := by
 have HR0 := Aside0.mk hr0
 have HC0 := Aside0.mk hc0
 clear hr0 hc0
 have HB := Aside0.mk (Below.refl w.heap.size w)
 have H : ((ladderbackref31_Reach.f k l0 0 (-1)).bind fun t222 => (if a2 < 0 then (some false) else (if a2 ≥ (l0.length : Int) then (some false) else (if a1 < 0 then (some false) else (if a1 ≥ (l0.length : Int) then (some false) else (if 0 ≤ a2 then (if a2 < (t222.length : Int) then (if rdOf false t222 a2 = true then ((ladderbackref31_Reach.f k l0 0 a1).bind fun t226 => (if a2 < (t226.length : Int) then (some (!(rdOf false t226 a2))) else (none))) else (some false)) else (none)) else (none))))))) = some r := h
 clear h
 replace H := Option.bind_eq_some_iff.mp H
 obtain ⟨t222, A40, H⟩ := H
 replace H : (if a2 < 0 then (some false) else (if a2 ≥ (l0.length : Int) then (some false) else (if a1 < 0 then (some false) else (if a1 ≥ (l0.length : Int) then (some false) else (if 0 ≤ a2 then (if a2 < (t222.length : Int) then (if rdOf false t222 a2 = true then ((ladderbackref31_Reach.f k l0 0 a1).bind fun t226 => (if a2 < (t226.length : Int) then (some (!(rdOf false t226 a2))) else (none))) else (some false)) else (none)) else (none)))))) = some r := H
 have A4 := Aside0.mk A40
 clear A40
 by_cases c5 : a2 < 0
 ·
  rw [if_pos c5] at H
  have c5b0 : decide (a2 < 0) = true := decide_eq_true c5
  clear c5
  obtain rfl := Option.some.inj H
  go_enter Try.func52, Try.ntmps52
  go_wp2_with (first | ((with_reducible refine gate_callee (f := 49) rfl ?_); refine goesL_ (some 9) rfl rfl Try.func49 (by kernel_rfl) rfl #[.slice A0 l0.length c0, .int .i64 0, .int .i64 (-1)] rfl p5_1 ?_; (with_reducible refine (ladderbackref31_Reach.calls k _ _ l0 0 (-1) t222 _ ?side1 ?side2 A4.out).mono ?_); (case side1 => repeat (first | exact HR0.out | (with_reducible refine Kd.C_alloc ?_ _) | (with_reducible refine Kd.C_drewN ?_ _) | (with_reducible refine Kd.C_drew ?_))); (case side2 => exact HC0.out); rintro e w6 ⟨v223, rfl, ho0, hb⟩; refine ⟨_, rfl, ?_⟩; have n0_ := Aside0.mk (Kd.R_lower ho0 (below_size p5_0)); have n1_ := Aside0.mk (below_step p5_0 hb); clear HB; have HO224 := n0_; have HB := n1_; clear n0_ n1_; (try clear hb); (try clear hb2); (try clear hk); (try clear hi); (try clear ho0)))
  go_ret
  exact ⟨by first | rfl | (simp [errW_none, errW_some] <;> rfl) | (simp [*, errW_none, errW_some] <;> rfl), by repeat (first | (with_reducible first | exact HB.out | apply below_alloc | apply pw_below_drewN | apply below_drew1) | exact HB.out)⟩
 ·
  rw [if_neg c5] at H
  have c5b0 : decide (a2 < 0) = false := decide_eq_false c5
  clear c5
  by_cases c7 : a2 ≥ (l0.length : Int)
  ·
   rw [if_pos c7] at H
   have c7b0 : decide ((l0.length : Int) ≤ a2) = true := decide_eq_true c7
   clear c7
   obtain rfl := Option.some.inj H
   go_enter Try.func52, Try.ntmps52
   go_wp2_with (first | ((with_reducible refine gate_callee (f := 49) rfl ?_); refine goesL_ (some 9) rfl rfl Try.func49 (by kernel_rfl) rfl #[.slice A0 l0.length c0, .int .i64 0, .int .i64 (-1)] rfl p5_1 ?_; (with_reducible refine (ladderbackref31_Reach.calls k _ _ l0 0 (-1) t222 _ ?side1 ?side2 A4.out).mono ?_); (case side1 => repeat (first | exact HR0.out | (with_reducible refine Kd.C_alloc ?_ _) | (with_reducible refine Kd.C_drewN ?_ _) | (with_reducible refine Kd.C_drew ?_))); (case side2 => exact HC0.out); rintro e w8 ⟨v223, rfl, ho0, hb⟩; refine ⟨_, rfl, ?_⟩; have n0_ := Aside0.mk (Kd.R_lower ho0 (below_size p5_0)); have n1_ := Aside0.mk (below_step p5_0 hb); clear HB; have HO224 := n0_; have HB := n1_; clear n0_ n1_; (try clear hb); (try clear hb2); (try clear hk); (try clear hi); (try clear ho0)))
   go_ret
   exact ⟨by first | rfl | (simp [errW_none, errW_some] <;> rfl) | (simp [*, errW_none, errW_some] <;> rfl), by repeat (first | (with_reducible first | exact HB.out | apply below_alloc | apply pw_below_drewN | apply below_drew1) | exact HB.out)⟩
  ·
   rw [if_neg c7] at H
   have c7b0 : decide ((l0.length : Int) ≤ a2) = false := decide_eq_false c7
   clear c7
   by_cases c9 : a1 < 0
   ·
    rw [if_pos c9] at H
    have c9b0 : decide (a1 < 0) = true := decide_eq_true c9
    clear c9
    obtain rfl := Option.some.inj H
    go_enter Try.func52, Try.ntmps52
    go_wp2_with (first | ((with_reducible refine gate_callee (f := 49) rfl ?_); refine goesL_ (some 9) rfl rfl Try.func49 (by kernel_rfl) rfl #[.slice A0 l0.length c0, .int .i64 0, .int .i64 (-1)] rfl p5_1 ?_; (with_reducible refine (ladderbackref31_Reach.calls k _ _ l0 0 (-1) t222 _ ?side1 ?side2 A4.out).mono ?_); (case side1 => repeat (first | exact HR0.out | (with_reducible refine Kd.C_alloc ?_ _) | (with_reducible refine Kd.C_drewN ?_ _) | (with_reducible refine Kd.C_drew ?_))); (case side2 => exact HC0.out); rintro e w10 ⟨v223, rfl, ho0, hb⟩; refine ⟨_, rfl, ?_⟩; have n0_ := Aside0.mk (Kd.R_lower ho0 (below_size p5_0)); have n1_ := Aside0.mk (below_step p5_0 hb); clear HB; have HO224 := n0_; have HB := n1_; clear n0_ n1_; (try clear hb); (try clear hb2); (try clear hk); (try clear hi); (try clear ho0)))
    go_ret
    exact ⟨by first | rfl | (simp [errW_none, errW_some] <;> rfl) | (simp [*, errW_none, errW_some] <;> rfl), by repeat (first | (with_reducible first | exact HB.out | apply below_alloc | apply pw_below_drewN | apply below_drew1) | exact HB.out)⟩
   ·
    rw [if_neg c9] at H
    have c9b0 : decide (a1 < 0) = false := decide_eq_false c9
    clear c9
    by_cases c11 : a1 ≥ (l0.length : Int)
    ·
     rw [if_pos c11] at H
     have c11b0 : decide ((l0.length : Int) ≤ a1) = true := decide_eq_true c11
     clear c11
     obtain rfl := Option.some.inj H
     go_enter Try.func52, Try.ntmps52
     go_wp2_with (first | ((with_reducible refine gate_callee (f := 49) rfl ?_); refine goesL_ (some 9) rfl rfl Try.func49 (by kernel_rfl) rfl #[.slice A0 l0.length c0, .int .i64 0, .int .i64 (-1)] rfl p5_1 ?_; (with_reducible refine (ladderbackref31_Reach.calls k _ _ l0 0 (-1) t222 _ ?side1 ?side2 A4.out).mono ?_); (case side1 => repeat (first | exact HR0.out | (with_reducible refine Kd.C_alloc ?_ _) | (with_reducible refine Kd.C_drewN ?_ _) | (with_reducible refine Kd.C_drew ?_))); (case side2 => exact HC0.out); rintro e w12 ⟨v223, rfl, ho0, hb⟩; refine ⟨_, rfl, ?_⟩; have n0_ := Aside0.mk (Kd.R_lower ho0 (below_size p5_0)); have n1_ := Aside0.mk (below_step p5_0 hb); clear HB; have HO224 := n0_; have HB := n1_; clear n0_ n1_; (try clear hb); (try clear hb2); (try clear hk); (try clear hi); (try clear ho0)))
     go_ret
     exact ⟨by first | rfl | (simp [errW_none, errW_some] <;> rfl) | (simp [*, errW_none, errW_some] <;> rfl), by repeat (first | (with_reducible first | exact HB.out | apply below_alloc | apply pw_below_drewN | apply below_drew1) | exact HB.out)⟩
    ·
     rw [if_neg c11] at H
     have c11b0 : decide ((l0.length : Int) ≤ a1) = false := decide_eq_false c11
     clear c11
     by_cases c13 : 0 ≤ a2
     ·
      rw [if_pos c13] at H
      have c13b0 : decide (0 ≤ a2) = true := decide_eq_true c13
      clear c13
      by_cases c14 : a2 < (t222.length : Int)
      ·
       rw [if_pos c14] at H
       have c14b0 : decide (a2 < (t222.length : Int)) = true := decide_eq_true c14
       clear c14
       obtain ⟨bq15, hbq15⟩ : ∃ b_ : Bool, b_ = (rdOf false t222 a2) := ⟨_, rfl⟩
       replace H : (if bq15 = true then ((ladderbackref31_Reach.f k l0 0 a1).bind fun t226 => (if a2 < (t226.length : Int) then (some (!(rdOf false t226 a2))) else (none))) else (some false)) = some r := by rw [← hbq15] at H; exact H
       (try rw [← hbq15] at A4)
       have Nbq15 := Aside0.mk hbq15
       clear hbq15
       (try rw [← Nbq15.out])
       by_cases c16 : bq15 = true
       ·
        subst c16
        have H1 : ((ladderbackref31_Reach.f k l0 0 a1).bind fun t226 => (if a2 < (t226.length : Int) then (some (!(rdOf false t226 a2))) else (none))) = some r := by rw [if_pos rfl] at H; exact H
        clear H
        have H := H1
        clear H1
        replace H := Option.bind_eq_some_iff.mp H
        obtain ⟨t226, A170, H⟩ := H
        replace H : (if a2 < (t226.length : Int) then (some (!(rdOf false t226 a2))) else (none)) = some r := H
        have A17 := Aside0.mk A170
        clear A170
        by_cases c18 : a2 < (t226.length : Int)
        ·
         rw [if_pos c18] at H
         have c18b0 : decide (a2 < (t226.length : Int)) = true := decide_eq_true c18
         clear c18
         obtain rfl := Option.some.inj H
         go_enter Try.func52, Try.ntmps52
         go_wp2_with (first | ((with_reducible refine gate_callee (f := 49) rfl ?_); refine goesL_ (some 9) rfl rfl Try.func49 (by kernel_rfl) rfl #[.slice A0 l0.length c0, .int .i64 0, .int .i64 (-1)] rfl p5_1 ?_; (with_reducible refine (ladderbackref31_Reach.calls k _ _ l0 0 (-1) t222 _ ?side1 ?side2 A4.out).mono ?_); (case side1 => repeat (first | exact HR0.out | (with_reducible refine Kd.C_alloc ?_ _) | (with_reducible refine Kd.C_drewN ?_ _) | (with_reducible refine Kd.C_drew ?_))); (case side2 => exact HC0.out); rintro e w19 ⟨v223, rfl, ho0, hb⟩; refine ⟨_, rfl, ?_⟩; have n0_ := Aside0.mk (Kd.R_lower ho0 (below_size p5_0)); have n1_ := Aside0.mk (below_step p5_0 hb); clear HB; have HO224 := n0_; have HB := n1_; clear n0_ n1_; (try clear hb); (try clear hb2); (try clear hk); (try clear hi); (try clear ho0); obtain ⟨Ao20, co20, eo20⟩ := Kd.R_slice HO224.out; subst eo20; have p225 : 0 ≤ (a2 : Int) := of_decide_eq_true p5_2; have q225 : a2 < (t222.length : Int) := of_decide_eq_true p5_2; obtain ⟨ad225, e225, hx225_0⟩ := Kd.at_bool (Kd.R_reads' HO224.out).2.2 a2 p225 q225; (try rw [← Nbq15.out] at hx225_0); cases e225; replace p225 := eq_true p225; replace q225 := eq_true q225) | ((with_reducible refine gate_callee (f := 49) rfl ?_); refine goesL_ (some 37) rfl rfl Try.func49 (by kernel_rfl) rfl #[.slice A0 l0.length c0, .int .i64 0, .int .i64 a1] rfl p5_1 ?_; (with_reducible refine (ladderbackref31_Reach.calls k _ _ l0 0 a1 t226 _ ?side1 ?side2 A17.out).mono ?_); (case side1 => repeat (first | exact (Kd.C_below HR0.out HB.out) | (with_reducible refine Kd.C_alloc ?_ _) | (with_reducible refine Kd.C_drewN ?_ _) | (with_reducible refine Kd.C_drew ?_))); (case side2 => exact HC0.out); rintro e w21 ⟨v227, rfl, ho0, hb⟩; refine ⟨_, rfl, ?_⟩; have n0_ := Aside0.mk (Kd.R_elder' (by (with_reducible repeat (first | apply Kd.R_alloc | apply Kd.R_drewN | apply Kd.R_drew)); exact HO224.out) (Kd.R_base ho0) hb); have n1_ := Aside0.mk (Kd.R_lower (Kd.R_new' ho0 (Kd.R_lt (by (with_reducible repeat (first | apply Kd.R_alloc | apply Kd.R_drewN | apply Kd.R_drew)); exact HO224.out))) (below_size p5_0)); have n2_ := Aside0.mk (below_step p5_0 hb); clear HO224; clear HB; have HO224 := n0_; have HO228 := n1_; have HB := n2_; clear n0_ n1_ n2_; (try clear hb); (try clear hb2); (try clear hk); (try clear hi); (try clear ho0); obtain ⟨Ao22, co22, eo22⟩ := Kd.R_slice HO228.out; subst eo22; have p229 : 0 ≤ (a2 : Int) := of_decide_eq_true p5_2; have q229 : a2 < (t226.length : Int) := of_decide_eq_true p5_2; obtain ⟨ad229, e229, hx229_0⟩ := Kd.at_bool (Kd.R_reads' HO228.out).2.2 a2 p229 q229; (try rw [← Nbq15.out] at hx229_0); cases e229; replace p229 := eq_true p229; replace q229 := eq_true q229))
         go_ret
         exact ⟨by first | rfl | (simp [errW_none, errW_some] <;> rfl) | (simp [*, errW_none, errW_some] <;> rfl), by repeat (first | (with_reducible first | exact HB.out | apply below_alloc | apply pw_below_drewN | apply below_drew1) | exact HB.out)⟩
        ·
         rw [if_neg c18] at H
         exact absurd H (by simp)
       ·
        replace c16 := Bool.eq_false_iff.mpr c16
        subst c16
        have H1 : (some false) = some r := by rw [if_neg (show ¬ (false = true) by decide)] at H; exact H
        clear H
        have H := H1
        clear H1
        obtain rfl := Option.some.inj H
        go_enter Try.func52, Try.ntmps52
        go_wp2_with (first | ((with_reducible refine gate_callee (f := 49) rfl ?_); refine goesL_ (some 9) rfl rfl Try.func49 (by kernel_rfl) rfl #[.slice A0 l0.length c0, .int .i64 0, .int .i64 (-1)] rfl p5_1 ?_; (with_reducible refine (ladderbackref31_Reach.calls k _ _ l0 0 (-1) t222 _ ?side1 ?side2 A4.out).mono ?_); (case side1 => repeat (first | exact HR0.out | (with_reducible refine Kd.C_alloc ?_ _) | (with_reducible refine Kd.C_drewN ?_ _) | (with_reducible refine Kd.C_drew ?_))); (case side2 => exact HC0.out); rintro e w23 ⟨v223, rfl, ho0, hb⟩; refine ⟨_, rfl, ?_⟩; have n0_ := Aside0.mk (Kd.R_lower ho0 (below_size p5_0)); have n1_ := Aside0.mk (below_step p5_0 hb); clear HB; have HO224 := n0_; have HB := n1_; clear n0_ n1_; (try clear hb); (try clear hb2); (try clear hk); (try clear hi); (try clear ho0); obtain ⟨Ao24, co24, eo24⟩ := Kd.R_slice HO224.out; subst eo24; have p225 : 0 ≤ (a2 : Int) := of_decide_eq_true p5_2; have q225 : a2 < (t222.length : Int) := of_decide_eq_true p5_2; obtain ⟨ad225, e225, hx225_0⟩ := Kd.at_bool (Kd.R_reads' HO224.out).2.2 a2 p225 q225; (try rw [← Nbq15.out] at hx225_0); cases e225; replace p225 := eq_true p225; replace q225 := eq_true q225))
        go_ret
        exact ⟨by first | rfl | (simp [errW_none, errW_some] <;> rfl) | (simp [*, errW_none, errW_some] <;> rfl), by repeat (first | (with_reducible first | exact HB.out | apply below_alloc | apply pw_below_drewN | apply below_drew1) | exact HB.out)⟩
      ·
       rw [if_neg c14] at H
       exact absurd H (by simp)
     ·
      rw [if_neg c13] at H
      exact absurd H (by simp)

/-! ### ladderbackref33_Back: function 73 -/
def ladderbackref33_Back.f (k : Nat) (l0 : List (List Int)) (a1 : Int) (a2 : Int) : Option (Bool) := if a1 ≥ 0 then (if a1 < (l0.length : Int) then (if a2 ≥ 0 then (if a2 < (l0.length : Int) then (if 0 ≤ a1 then ((ladderbackref30_Has.f k (rd_L1 l0 a1) a2).bind fun t231 => (if t231 = true then ((ladderbackref31_Dominates.f k l0 a2 a1).bind fun t232 => (some t232)) else (some false))) else (none)) else (some false)) else (some false)) else (some false)) else (some false)
theorem ladderbackref33_Back.mono : ∀ a0 a1 a2 k, LeO (ladderbackref33_Back.f k a0 a1 a2) (ladderbackref33_Back.f (k + 1) a0 a1 a2) := by
 intro a0 a1 a2 k
 unfold ladderbackref33_Back.f
 repeat' first
   | (with_reducible exact ladderbackref30_Has.mono _ _ _)
   | (with_reducible exact ladderbackref31_Dominates.mono _ _ _ _)
   | (with_reducible exact LeO.refl _)
   | (with_reducible exact LeO.none _)
   | (with_reducible refine LeO.ite ?_ ?_)
   | (with_reducible refine LeO.bind ?_ (fun _ => ?_))
   | exact ladderbackref30_Has.mono _ _ _
   | exact ladderbackref31_Dominates.mono _ _ _ _
   | exact LeO.none _
   | refine LeO.ite ?_ ?_
   | refine LeO.bind ?_ (fun _ => ?_)
set_option maxHeartbeats 8000000 in
set_option maxRecDepth 100000 in
theorem ladderbackref33_Back.calls (k : Nat) (A0 : Option Addr) (c0 : Nat) (l0 : List (List Int)) (a1 : Int) (a2 : Int) (r : Bool) (w : World) (hr0 : Kd.C (Kd.slice 3 (Kd.int .i64)) w A0 l0.length l0) (hc0 : l0.length ≤ c0) (h : ladderbackref33_Back.f k l0 a1 a2 = some r) :
  Calls Try.prog 73 #[.slice A0 l0.length c0, .int .i64 a1, .int .i64 a2] w fun e w' => e = .returned (.bool r) ∧ Below w.heap.size w w' := by
 have HR0 := Aside0.mk hr0
 have HC0 := Aside0.mk hc0
 clear hr0 hc0
 have HB := Aside0.mk (Below.refl w.heap.size w)
 have H : (if a1 ≥ 0 then (if a1 < (l0.length : Int) then (if a2 ≥ 0 then (if a2 < (l0.length : Int) then (if 0 ≤ a1 then ((ladderbackref30_Has.f k (rd_L1 l0 a1) a2).bind fun t231 => (if t231 = true then ((ladderbackref31_Dominates.f k l0 a2 a1).bind fun t232 => (some t232)) else (some false))) else (none)) else (some false)) else (some false)) else (some false)) else (some false)) = some r := h
 clear h
 by_cases c4 : a1 ≥ 0
 ·
  rw [if_pos c4] at H
  have c4b0 : decide (0 ≤ a1) = true := decide_eq_true c4
  clear c4
  by_cases c5 : a1 < (l0.length : Int)
  ·
   rw [if_pos c5] at H
   have c5b0 : decide (a1 < (l0.length : Int)) = true := decide_eq_true c5
   clear c5
   by_cases c6 : a2 ≥ 0
   ·
    rw [if_pos c6] at H
    have c6b0 : decide (0 ≤ a2) = true := decide_eq_true c6
    clear c6
    by_cases c7 : a2 < (l0.length : Int)
    ·
     rw [if_pos c7] at H
     have c7b0 : decide (a2 < (l0.length : Int)) = true := decide_eq_true c7
     clear c7
     by_cases c8 : 0 ≤ a1
     ·
      rw [if_pos c8] at H
      have c8b0 : decide (0 ≤ a1) = true := decide_eq_true c8
      clear c8
      replace H := Option.bind_eq_some_iff.mp H
      obtain ⟨t231, A90, H⟩ := H
      replace H : (if t231 = true then ((ladderbackref31_Dominates.f k l0 a2 a1).bind fun t232 => (some t232)) else (some false)) = some r := H
      have A9 := Aside0.mk A90
      clear A90
      by_cases c10 : t231 = true
      ·
       subst c10
       have H1 : ((ladderbackref31_Dominates.f k l0 a2 a1).bind fun t232 => (some t232)) = some r := by rw [if_pos rfl] at H; exact H
       clear H
       have H := H1
       clear H1
       replace H := Option.bind_eq_some_iff.mp H
       obtain ⟨t232, A110, H⟩ := H
       replace H : (some t232) = some r := H
       have A11 := Aside0.mk A110
       clear A110
       obtain rfl := Option.some.inj H
       have p230 : 0 ≤ (a1 : Int) := of_decide_eq_true p5_2
       have q230 : a1 < (l0.length : Int) := of_decide_eq_true p5_2
       obtain ⟨ad230, A230_0, c230_0, e230, hx230_0, hl230_0, hi230_0⟩ := at_L1 HR0.out a1 p230 q230
       cases e230
       have HR230_0 := Aside0.mk hi230_0
       have HC230_0 := Aside0.mk hl230_0
       clear hi230_0 hl230_0
       replace p230 := eq_true p230
       replace q230 := eq_true q230
       go_enter Try.func73, Try.ntmps73
       go_wp2_with (first | (go_at_call 18; (with_reducible refine (ladderbackref30_Has.calls k _ _ (rd_L1 l0 a1) a2 true _ ?side1 ?side2 A9.out).mono ?_); (case side1 => repeat (first | exact HR230_0.out | (with_reducible refine Kd.C_alloc ?_ _) | (with_reducible refine Kd.C_drewN ?_ _) | (with_reducible refine Kd.C_drew ?_))); (case side2 => exact HC230_0.out); rintro e w' ⟨rfl, ⟨nd, rfl⟩⟩) | (go_at_call 52; (with_reducible refine (ladderbackref31_Dominates.calls k _ _ l0 a2 a1 t232 _ ?side1 ?side2 A11.out).mono ?_); (case side1 => repeat (first | exact HR0.out | (with_reducible refine Kd.C_alloc ?_ _) | (with_reducible refine Kd.C_drewN ?_ _) | (with_reducible refine Kd.C_drew ?_))); (case side2 => exact HC0.out); rintro e w12 ⟨rfl, hb⟩; have n0_ := Aside0.mk (below_step p5_0 hb); clear HB; have HB := n0_; clear n0_; (try clear hb); (try clear hb2); (try clear hk); (try clear hi)))
       go_ret
       exact ⟨by first | rfl | (simp [errW_none, errW_some] <;> rfl) | (simp [*, errW_none, errW_some] <;> rfl), by repeat (first | (with_reducible first | exact HB.out | apply below_alloc | apply pw_below_drewN | apply below_drew1) | exact HB.out)⟩
      ·
       replace c10 := Bool.eq_false_iff.mpr c10
       subst c10
       have H1 : (some false) = some r := by rw [if_neg (show ¬ (false = true) by decide)] at H; exact H
       clear H
       have H := H1
       clear H1
       obtain rfl := Option.some.inj H
       have p230 : 0 ≤ (a1 : Int) := of_decide_eq_true p5_2
       have q230 : a1 < (l0.length : Int) := of_decide_eq_true p5_2
       obtain ⟨ad230, A230_0, c230_0, e230, hx230_0, hl230_0, hi230_0⟩ := at_L1 HR0.out a1 p230 q230
       cases e230
       have HR230_0 := Aside0.mk hi230_0
       have HC230_0 := Aside0.mk hl230_0
       clear hi230_0 hl230_0
       replace p230 := eq_true p230
       replace q230 := eq_true q230
       go_enter Try.func73, Try.ntmps73
       go_wp2_with (first | (go_at_call 18; (with_reducible refine (ladderbackref30_Has.calls k _ _ (rd_L1 l0 a1) a2 false _ ?side1 ?side2 A9.out).mono ?_); (case side1 => repeat (first | exact HR230_0.out | (with_reducible refine Kd.C_alloc ?_ _) | (with_reducible refine Kd.C_drewN ?_ _) | (with_reducible refine Kd.C_drew ?_))); (case side2 => exact HC230_0.out); rintro e w' ⟨rfl, ⟨nd, rfl⟩⟩))
       go_ret
       exact ⟨by first | rfl | (simp [errW_none, errW_some] <;> rfl) | (simp [*, errW_none, errW_some] <;> rfl), by repeat (first | (with_reducible first | exact HB.out | apply below_alloc | apply pw_below_drewN | apply below_drew1) | exact HB.out)⟩
     ·
      rw [if_neg c8] at H
      exact absurd H (by simp)
    ·
     rw [if_neg c7] at H
     have c7b0 : decide (a2 < (l0.length : Int)) = false := decide_eq_false c7
     clear c7
     obtain rfl := Option.some.inj H
     go_enter Try.func73, Try.ntmps73
     go_wp2
     go_ret
     exact ⟨by first | rfl | (simp [errW_none, errW_some] <;> rfl) | (simp [*, errW_none, errW_some] <;> rfl), by repeat (first | (with_reducible first | exact HB.out | apply below_alloc | apply pw_below_drewN | apply below_drew1) | exact HB.out)⟩
   ·
    rw [if_neg c6] at H
    have c6b0 : decide (0 ≤ a2) = false := decide_eq_false c6
    clear c6
    obtain rfl := Option.some.inj H
    go_enter Try.func73, Try.ntmps73
    go_wp2
    go_ret
    exact ⟨by first | rfl | (simp [errW_none, errW_some] <;> rfl) | (simp [*, errW_none, errW_some] <;> rfl), by repeat (first | (with_reducible first | exact HB.out | apply below_alloc | apply pw_below_drewN | apply below_drew1) | exact HB.out)⟩
  ·
   rw [if_neg c5] at H
   have c5b0 : decide (a1 < (l0.length : Int)) = false := decide_eq_false c5
   clear c5
   obtain rfl := Option.some.inj H
   go_enter Try.func73, Try.ntmps73
   go_wp2
   go_ret
   exact ⟨by first | rfl | (simp [errW_none, errW_some] <;> rfl) | (simp [*, errW_none, errW_some] <;> rfl), by repeat (first | (with_reducible first | exact HB.out | apply below_alloc | apply pw_below_drewN | apply below_drew1) | exact HB.out)⟩
 ·
  rw [if_neg c4] at H
  have c4b0 : decide (0 ≤ a1) = false := decide_eq_false c4
  clear c4
  obtain rfl := Option.some.inj H
  go_enter Try.func73, Try.ntmps73
  go_wp2
  go_ret
  exact ⟨by first | rfl | (simp [errW_none, errW_some] <;> rfl) | (simp [*, errW_none, errW_some] <;> rfl), by repeat (first | (with_reducible first | exact HB.out | apply below_alloc | apply pw_below_drewN | apply below_drew1) | exact HB.out)⟩

end Go.Proofs.Ytfiffhcpgojkhaa.QInterReduces
