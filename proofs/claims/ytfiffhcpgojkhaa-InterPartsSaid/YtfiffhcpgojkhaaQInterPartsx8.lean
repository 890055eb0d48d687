-- Printed by a program of this session's over the kit's printer (wip/patch_print.py).
import Derived.Test.YtfiffhcpgojkhaaQInterPartsx0
import Derived.Test.YtfiffhcpgojkhaaQInterPartsx1
import Derived.Test.YtfiffhcpgojkhaaQInterPartsx3
import Derived.Test.YtfiffhcpgojkhaaQInterPartsx4
import Derived.Test.YtfiffhcpgojkhaaDeriveInterParts
import Derived.Test.YtfiffhcpgojkhaaRefPInterParts
namespace Go.Proofs.Ytfiffhcpgojkhaa.QInterParts
open Go.RowKit Go.Proofs.Ytfiffhcpgojkhaa Go.Proofs.YtfiffhcpgojkhaaW.PrintWords Go.Proofs.YtfiffhcpgojkhaaW.PrintLast Go.Proofs.YtfiffhcpgojkhaaW.PrintMore
attribute [local go_sem] setCell_drewN0 max2_int min2_int max_two min_two max_three min_three max_four min_four   -- for this text's walks alone
set_option linter.unusedVariables false
set_option linter.unusedSimpArgs false

/-! ### ladderbacklaw34_InterParts: function 10 -/
theorem p8_0 {P : Prop} (h : P := by repeat (first | (with_reducible first | exact HB.out | apply below_alloc | apply pw_below_drewN | apply below_drew1) | exact HB.out)) : P := h
theorem p8_1 {P : Prop} (h : P := by (try simp only [List.map_toArray, List.map_cons, List.map_nil]); first | done | rfl | (simp only [List.length_drop, List.length_take]; rfl)) : P := h
theorem p8_2 {P : Prop} (h : P := by (with_reducible repeat (first | apply Kd.N_alloc | apply Kd.N_drewN | apply Kd.N_drew)); exact HO264.out) : P := h
theorem p8_3 {P : Prop} (h : P := by (with_reducible repeat (first | apply Kd.N_alloc | apply Kd.N_drewN | apply Kd.N_drew)); exact HO267.out) : P := h
theorem p8_4 {P : Prop} (h : P := by (with_reducible repeat (first | apply Kd.N_alloc | apply Kd.N_drewN | apply Kd.N_drew)); exact HO271.out) : P := h
def ladderbacklaw34_InterParts.f (k : Nat) (l0 : List (List Int)) : Option (Bool) := (ladderbackref31_Few.f k l0 16).bind fun t260 => (if t260 = true then ((inter_Parts.f k l0).bind fun t262 => ((ladderbackref34_Parts.f k l0).bind fun t265 => ((ladderbacklaw34_lists.f k t262 t265).bind fun t268 => (if t268 = true then ((inter_Derive.f k l0).bind fun t269 => ((ladderbackref34_Derive.f k l0).bind fun t272 => ((ladderbacklaw34_lists.f k t269 t272).bind fun t275 => (if t275 = true then ((ladderbacklaw34_awake.f k).bind fun t276 => (some t276)) else (some false))))) else (some false))))) else ((ladderbacklaw34_awake.f k).bind fun t261 => (some t261)))
theorem ladderbacklaw34_InterParts.mono : ∀ a0 k, LeO (ladderbacklaw34_InterParts.f k a0) (ladderbacklaw34_InterParts.f (k + 1) a0) := by
 intro a0 k
 unfold ladderbacklaw34_InterParts.f
 repeat' first
   | (with_reducible exact inter_Derive.mono _ _)
   | (with_reducible exact inter_Parts.mono _ _)
   | (with_reducible exact ladderbacklaw34_awake.mono _)
   | (with_reducible exact ladderbacklaw34_lists.mono _ _ _)
   | (with_reducible exact ladderbackref31_Few.mono _ _ _)
   | (with_reducible exact ladderbackref34_Derive.mono _ _)
   | (with_reducible exact ladderbackref34_Parts.mono _ _)
   | (with_reducible exact LeO.refl _)
   | (with_reducible exact LeO.none _)
   | (with_reducible refine LeO.ite ?_ ?_)
   | (with_reducible refine LeO.bind ?_ (fun _ => ?_))
   | exact inter_Derive.mono _ _
   | exact inter_Parts.mono _ _
   | exact ladderbacklaw34_awake.mono _
   | exact ladderbacklaw34_lists.mono _ _ _
   | exact ladderbackref31_Few.mono _ _ _
   | exact ladderbackref34_Derive.mono _ _
   | exact ladderbackref34_Parts.mono _ _
   | exact LeO.none _
   | refine LeO.ite ?_ ?_
   | refine LeO.bind ?_ (fun _ => ?_)
set_option maxHeartbeats 8000000 in
set_option maxRecDepth 100000 in
theorem ladderbacklaw34_InterParts.calls (k : Nat) (A0 : Option Addr) (c0 : Nat) (l0 : List (List Int)) (r : Bool) (w : World) (hr0 : Kd.C (Kd.slice 3 (Kd.int .i64)) w A0 l0.length l0) (hc0 : l0.length ≤ c0) (h : ladderbacklaw34_InterParts.f k l0 = some r) (hrt_ : r = true := by rfl) :
  Calls Try.prog 10 #[.slice A0 l0.length c0] w fun e w' => e = .returned (.bool r) ∧ Below w.heap.size w w' := by
 have HR0 := Aside0.mk hr0
 have HC0 := Aside0.mk hc0
 clear hr0 hc0
 have HB := Aside0.mk (Below.refl w.heap.size w)
 have H : ((ladderbackref31_Few.f k l0 16).bind fun t260 => (if t260 = true then ((inter_Parts.f k l0).bind fun t262 => ((ladderbackref34_Parts.f k l0).bind fun t265 => ((ladderbacklaw34_lists.f k t262 t265).bind fun t268 => (if t268 = true then ((inter_Derive.f k l0).bind fun t269 => ((ladderbackref34_Derive.f k l0).bind fun t272 => ((ladderbacklaw34_lists.f k t269 t272).bind fun t275 => (if t275 = true then ((ladderbacklaw34_awake.f k).bind fun t276 => (some t276)) else (some false))))) else (some false))))) else ((ladderbacklaw34_awake.f k).bind fun t261 => (some t261)))) = some r := h
 clear h
 have HRT := Aside0.mk hrt_
 clear hrt_
 replace H := Option.bind_eq_some_iff.mp H
 obtain ⟨t260, A20, H⟩ := H
 replace H : (if t260 = true then ((inter_Parts.f k l0).bind fun t262 => ((ladderbackref34_Parts.f k l0).bind fun t265 => ((ladderbacklaw34_lists.f k t262 t265).bind fun t268 => (if t268 = true then ((inter_Derive.f k l0).bind fun t269 => ((ladderbackref34_Derive.f k l0).bind fun t272 => ((ladderbacklaw34_lists.f k t269 t272).bind fun t275 => (if t275 = true then ((ladderbacklaw34_awake.f k).bind fun t276 => (some t276)) else (some false))))) else (some false))))) else ((ladderbacklaw34_awake.f k).bind fun t261 => (some t261))) = some r := H
 have A2 := Aside0.mk A20
 clear A20
 by_cases c3 : t260 = true
 ·
  subst c3
  have H1 : ((inter_Parts.f k l0).bind fun t262 => ((ladderbackref34_Parts.f k l0).bind fun t265 => ((ladderbacklaw34_lists.f k t262 t265).bind fun t268 => (if t268 = true then ((inter_Derive.f k l0).bind fun t269 => ((ladderbackref34_Derive.f k l0).bind fun t272 => ((ladderbacklaw34_lists.f k t269 t272).bind fun t275 => (if t275 = true then ((ladderbacklaw34_awake.f k).bind fun t276 => (some t276)) else (some false))))) else (some false))))) = some r := by rw [if_pos rfl] at H; exact H
  clear H
  have H := H1
  clear H1
  replace H := Option.bind_eq_some_iff.mp H
  obtain ⟨t262, A40, H⟩ := H
  replace H : ((ladderbackref34_Parts.f k l0).bind fun t265 => ((ladderbacklaw34_lists.f k t262 t265).bind fun t268 => (if t268 = true then ((inter_Derive.f k l0).bind fun t269 => ((ladderbackref34_Derive.f k l0).bind fun t272 => ((ladderbacklaw34_lists.f k t269 t272).bind fun t275 => (if t275 = true then ((ladderbacklaw34_awake.f k).bind fun t276 => (some t276)) else (some false))))) else (some false)))) = some r := H
  have A4 := Aside0.mk A40
  clear A40
  replace H := Option.bind_eq_some_iff.mp H
  obtain ⟨t265, A50, H⟩ := H
  replace H : ((ladderbacklaw34_lists.f k t262 t265).bind fun t268 => (if t268 = true then ((inter_Derive.f k l0).bind fun t269 => ((ladderbackref34_Derive.f k l0).bind fun t272 => ((ladderbacklaw34_lists.f k t269 t272).bind fun t275 => (if t275 = true then ((ladderbacklaw34_awake.f k).bind fun t276 => (some t276)) else (some false))))) else (some false))) = some r := H
  have A5 := Aside0.mk A50
  clear A50
  replace H := Option.bind_eq_some_iff.mp H
  obtain ⟨t268, A60, H⟩ := H
  replace H : (if t268 = true then ((inter_Derive.f k l0).bind fun t269 => ((ladderbackref34_Derive.f k l0).bind fun t272 => ((ladderbacklaw34_lists.f k t269 t272).bind fun t275 => (if t275 = true then ((ladderbacklaw34_awake.f k).bind fun t276 => (some t276)) else (some false))))) else (some false)) = some r := H
  have A6 := Aside0.mk A60
  clear A60
  by_cases c7 : t268 = true
  ·
   subst c7
   have H1 : ((inter_Derive.f k l0).bind fun t269 => ((ladderbackref34_Derive.f k l0).bind fun t272 => ((ladderbacklaw34_lists.f k t269 t272).bind fun t275 => (if t275 = true then ((ladderbacklaw34_awake.f k).bind fun t276 => (some t276)) else (some false))))) = some r := by rw [if_pos rfl] at H; exact H
   clear H
   have H := H1
   clear H1
   replace H := Option.bind_eq_some_iff.mp H
   obtain ⟨t269, A80, H⟩ := H
   replace H : ((ladderbackref34_Derive.f k l0).bind fun t272 => ((ladderbacklaw34_lists.f k t269 t272).bind fun t275 => (if t275 = true then ((ladderbacklaw34_awake.f k).bind fun t276 => (some t276)) else (some false)))) = some r := H
   have A8 := Aside0.mk A80
   clear A80
   replace H := Option.bind_eq_some_iff.mp H
   obtain ⟨t272, A90, H⟩ := H
   replace H : ((ladderbacklaw34_lists.f k t269 t272).bind fun t275 => (if t275 = true then ((ladderbacklaw34_awake.f k).bind fun t276 => (some t276)) else (some false))) = some r := H
   have A9 := Aside0.mk A90
   clear A90
   replace H := Option.bind_eq_some_iff.mp H
   obtain ⟨t275, A100, H⟩ := H
   replace H : (if t275 = true then ((ladderbacklaw34_awake.f k).bind fun t276 => (some t276)) else (some false)) = some r := H
   have A10 := Aside0.mk A100
   clear A100
   by_cases c11 : t275 = true
   ·
    subst c11
    have H1 : ((ladderbacklaw34_awake.f k).bind fun t276 => (some t276)) = some r := by rw [if_pos rfl] at H; exact H
    clear H
    have H := H1
    clear H1
    replace H := Option.bind_eq_some_iff.mp H
    obtain ⟨t276, A120, H⟩ := H
    replace H : (some t276) = some r := H
    have A12 := Aside0.mk A120
    clear A120
    obtain rfl := Option.some.inj H
    go_enter Try.func10, Try.ntmps10
    go_wp2_with (first | ((with_reducible refine gate_callee (f := 13) rfl ?_); refine goesL_ (some 4) rfl rfl Try.func13 (by kernel_rfl) rfl #[.slice A0 l0.length c0, .int .i64 16] rfl p8_1 ?_; (with_reducible refine (ladderbackref31_Few.calls k _ _ l0 16 true _ ?side1 ?side2 A2.out).mono ?_); (case side1 => repeat (first | exact HR0.out | (with_reducible refine Kd.C_alloc ?_ _) | (with_reducible refine Kd.C_drewN ?_ _) | (with_reducible refine Kd.C_drew ?_))); (case side2 => exact HC0.out); rintro e w' ⟨rfl, ⟨nd, rfl⟩⟩; refine ⟨_, rfl, ?_⟩) | ((with_reducible refine gate_callee (f := 44) rfl ?_); refine goesL_ (some 8) rfl rfl Try.func44 (by kernel_rfl) rfl #[.slice A0 l0.length c0] rfl p8_1 ?_; (with_reducible refine (inter_Parts.calls k (fun k_ => k_ < w.heap.size) _ _ l0 t262 _ ?side1 A4.out).mono ?_); (case side1 => exact Kd.V_mk HC0.out (Kd.F_below (Kd.C_F (Kd.heap_slice 3 (Kd.heap_int .i64)) HR0.out) p8_0)); rintro e w13 ⟨v263, rfl, ho0, hb⟩; refine ⟨_, rfl, ?_⟩; have n0_ := Aside0.mk (Kd.N_lower (Kd.N_mono (ok' := fun k_ => True) ho0 (fun k_ hk_ => trivial)) (below_size p8_0)); have n1_ := Aside0.mk (below_step p8_0 hb); clear HB; have HO264 := n0_; have HB := n1_; clear n0_ n1_; (try clear hb); (try clear hb2); (try clear hk); (try clear hi); (try clear ho0)) | ((with_reducible refine gate_callee (f := 45) rfl ?_); refine goesL_ (some 10) rfl rfl Try.func45 (by kernel_rfl) rfl #[.slice A0 l0.length c0] rfl p8_1 ?_; (with_reducible refine (ladderbackref34_Parts.calls k _ _ l0 t265 _ ?side1 ?side2 A5.out).mono ?_); (case side1 => repeat (first | exact (Kd.C_below HR0.out HB.out) | (with_reducible refine Kd.C_alloc ?_ _) | (with_reducible refine Kd.C_drewN ?_ _) | (with_reducible refine Kd.C_drew ?_))); (case side2 => exact HC0.out); rintro e w14 ⟨v266, rfl, ho0, hb⟩; refine ⟨_, rfl, ?_⟩; have n0_ := Aside0.mk (Kd.N_elder' p8_2 (Kd.N_base (Kd.S_N ho0)) hb); have n1_ := Aside0.mk (Kd.N_lower (Kd.N_mono (ok' := fun k_ => some k_ ≠ (v263 : Value).ownBlock) (Kd.S_N (Kd.S_bound ho0)) (fun k_ hk_ => (Kd.fresh' (Kd.N_lt p8_2) k_ hk_.2.1))) (below_size p8_0)); have n2_ := Aside0.mk (below_step p8_0 hb); clear HO264; clear HB; have HO264 := n0_; have HO267 := n1_; have HB := n2_; clear n0_ n1_ n2_; (try clear hb); (try clear hb2); (try clear hk); (try clear hi); (try clear ho0); obtain ⟨Ao15, co15, eo15⟩ := Kd.N_slice HO264.out; subst eo15; obtain ⟨Ao16, co16, eo16⟩ := Kd.N_slice HO267.out; subst eo16) | ((with_reducible refine gate_callee (f := 43) rfl ?_); refine goesL_ (some 11) rfl rfl Try.func43 (by kernel_rfl) rfl #[.slice Ao15 t262.length co15, .slice Ao16 t265.length co16] rfl p8_1 ?_; (with_reducible refine (ladderbacklaw34_lists.calls k _ _ t262 _ _ t265 true _ ?side1 ?side2 ?side3 ?side4 A6.out).mono ?_); (case side1 => repeat (first | exact (Kd.N_reads' HO264.out).2.2 | (with_reducible refine Kd.C_alloc ?_ _) | (with_reducible refine Kd.C_drewN ?_ _) | (with_reducible refine Kd.C_drew ?_))); (case side2 => exact (Kd.N_reads' HO264.out).2.1); (case side3 => repeat (first | exact (Kd.N_reads' HO267.out).2.2 | (with_reducible refine Kd.C_alloc ?_ _) | (with_reducible refine Kd.C_drewN ?_ _) | (with_reducible refine Kd.C_drew ?_))); (case side4 => exact (Kd.N_reads' HO267.out).2.1); rintro e w' ⟨rfl, ⟨nd, rfl⟩⟩; refine ⟨_, rfl, ?_⟩) | (go_at_call 46; (with_reducible refine (inter_Derive.calls k _ _ l0 t269 _ ?side1 ?side2 A8.out).mono ?_); (case side1 => repeat (first | exact (Kd.C_below HR0.out p8_0) | (with_reducible refine Kd.C_alloc ?_ _) | (with_reducible refine Kd.C_drewN ?_ _) | (with_reducible refine Kd.C_drew ?_))); (case side2 => exact HC0.out); rintro e w17 ⟨v270, rfl, ho0, hb⟩; have n0_ := Aside0.mk (Kd.N_elder' p8_2 (Kd.N_base (Kd.S_N ho0)) hb); have n1_ := Aside0.mk (Kd.N_elder' p8_3 (Kd.N_base (Kd.S_N ho0)) hb); have n2_ := Aside0.mk (Kd.N_lower (Kd.N_mono (ok' := fun k_ => some k_ ≠ (.slice Ao15 t262.length co15 : Value).ownBlock ∧ some k_ ≠ (.slice Ao16 t265.length co16 : Value).ownBlock) (Kd.S_N (Kd.S_bound ho0)) (fun k_ hk_ => ⟨(Kd.fresh' (Kd.N_lt p8_2) k_ hk_.2.1), (Kd.fresh' (Kd.N_lt p8_3) k_ hk_.2.1)⟩)) (below_size p8_0)); have n3_ := Aside0.mk (below_step p8_0 hb); clear HO264; clear HO267; clear HB; have HO264 := n0_; have HO267 := n1_; have HO271 := n2_; have HB := n3_; clear n0_ n1_ n2_ n3_; (try clear hb); (try clear hb2); (try clear hk); (try clear hi); (try clear ho0)) | (go_at_call 47; (with_reducible refine (ladderbackref34_Derive.calls k _ _ l0 t272 _ ?side1 ?side2 A9.out).mono ?_); (case side1 => repeat (first | exact (Kd.C_below HR0.out HB.out) | (with_reducible refine Kd.C_alloc ?_ _) | (with_reducible refine Kd.C_drewN ?_ _) | (with_reducible refine Kd.C_drew ?_))); (case side2 => exact HC0.out); rintro e w18 ⟨v273, rfl, ho0, hb⟩; have n0_ := Aside0.mk (Kd.N_elder' p8_2 (Kd.N_base (Kd.S_N ho0)) hb); have n1_ := Aside0.mk (Kd.N_elder' p8_3 (Kd.N_base (Kd.S_N ho0)) hb); have n2_ := Aside0.mk (Kd.N_elder' p8_4 (Kd.N_base (Kd.S_N ho0)) hb); have n3_ := Aside0.mk (Kd.N_lower (Kd.N_mono (ok' := fun k_ => some k_ ≠ (.slice Ao15 t262.length co15 : Value).ownBlock ∧ some k_ ≠ (.slice Ao16 t265.length co16 : Value).ownBlock ∧ some k_ ≠ (v270 : Value).ownBlock) (Kd.S_N (Kd.S_bound ho0)) (fun k_ hk_ => ⟨(Kd.fresh' (Kd.N_lt p8_2) k_ hk_.2.1), (Kd.fresh' (Kd.N_lt p8_3) k_ hk_.2.1), (Kd.fresh' (Kd.N_lt p8_4) k_ hk_.2.1)⟩)) (below_size p8_0)); have n4_ := Aside0.mk (below_step p8_0 hb); clear HO264; clear HO267; clear HO271; clear HB; have HO264 := n0_; have HO267 := n1_; have HO271 := n2_; have HO274 := n3_; have HB := n4_; clear n0_ n1_ n2_ n3_ n4_; (try clear hb); (try clear hb2); (try clear hk); (try clear hi); (try clear ho0); obtain ⟨Ao19, co19, eo19⟩ := Kd.N_slice HO271.out; subst eo19; obtain ⟨Ao20, co20, eo20⟩ := Kd.N_slice HO274.out; subst eo20) | (go_at_call 43; (with_reducible refine (ladderbacklaw34_lists.calls k _ _ t269 _ _ t272 true _ ?side1 ?side2 ?side3 ?side4 A10.out).mono ?_); (case side1 => repeat (first | exact (Kd.N_reads' HO271.out).2.2 | (with_reducible refine Kd.C_alloc ?_ _) | (with_reducible refine Kd.C_drewN ?_ _) | (with_reducible refine Kd.C_drew ?_))); (case side2 => exact (Kd.N_reads' HO271.out).2.1); (case side3 => repeat (first | exact (Kd.N_reads' HO274.out).2.2 | (with_reducible refine Kd.C_alloc ?_ _) | (with_reducible refine Kd.C_drewN ?_ _) | (with_reducible refine Kd.C_drew ?_))); (case side4 => exact (Kd.N_reads' HO274.out).2.1); rintro e w' ⟨rfl, ⟨nd, rfl⟩⟩) | (go_at_call 42; (with_reducible refine (ladderbacklaw34_awake.calls k  t276 _ A12.out).mono ?_); rintro e w21 ⟨rfl, hb⟩; have n0_ := Aside0.mk (Kd.N_below p8_2 hb); have n1_ := Aside0.mk (Kd.N_below p8_3 hb); have n2_ := Aside0.mk (Kd.N_below p8_4 hb); have n3_ := Aside0.mk (Kd.N_below (by (with_reducible repeat (first | apply Kd.N_alloc | apply Kd.N_drewN | apply Kd.N_drew)); exact HO274.out) hb); have n4_ := Aside0.mk (below_step p8_0 hb); clear HO264; clear HO267; clear HO271; clear HO274; clear HB; have HO264 := n0_; have HO267 := n1_; have HO271 := n2_; have HO274 := n3_; have HB := n4_; clear n0_ n1_ n2_ n3_ n4_; (try clear hb); (try clear hb2); (try clear hk); (try clear hi)))
    go_ret
    exact ⟨by first | rfl | (simp [errW_none, errW_some] <;> rfl) | (simp [*, errW_none, errW_some] <;> rfl), by repeat (first | (with_reducible first | exact HB.out | apply below_alloc | apply pw_below_drewN | apply below_drew1) | exact HB.out)⟩
   ·
    replace c11 := Bool.eq_false_iff.mpr c11
    subst c11
    have H1 : (some false) = some r := by rw [if_neg (show ¬ (false = true) by decide)] at H; exact H
    clear H
    have H := H1
    clear H1
    exact absurd (Option.some.inj H) (by rw [HRT.out]; decide)
  ·
   replace c7 := Bool.eq_false_iff.mpr c7
   subst c7
   have H1 : (some false) = some r := by rw [if_neg (show ¬ (false = true) by decide)] at H; exact H
   clear H
   have H := H1
   clear H1
   exact absurd (Option.some.inj H) (by rw [HRT.out]; decide)
 ·
  replace c3 := Bool.eq_false_iff.mpr c3
  subst c3
  have H1 : ((ladderbacklaw34_awake.f k).bind fun t261 => (some t261)) = some r := by rw [if_neg (show ¬ (false = true) by decide)] at H; exact H
  clear H
  have H := H1
  clear H1
  replace H := Option.bind_eq_some_iff.mp H
  obtain ⟨t261, A220, H⟩ := H
  replace H : (some t261) = some r := H
  have A22 := Aside0.mk A220
  clear A220
  obtain rfl := Option.some.inj H
  go_enter Try.func10, Try.ntmps10
  go_wp2_with (first | ((with_reducible refine gate_callee (f := 13) rfl ?_); refine goesL_ (some 4) rfl rfl Try.func13 (by kernel_rfl) rfl #[.slice A0 l0.length c0, .int .i64 16] rfl p8_1 ?_; (with_reducible refine (ladderbackref31_Few.calls k _ _ l0 16 false _ ?side1 ?side2 A2.out).mono ?_); (case side1 => repeat (first | exact HR0.out | (with_reducible refine Kd.C_alloc ?_ _) | (with_reducible refine Kd.C_drewN ?_ _) | (with_reducible refine Kd.C_drew ?_))); (case side2 => exact HC0.out); rintro e w' ⟨rfl, ⟨nd, rfl⟩⟩; refine ⟨_, rfl, ?_⟩) | ((with_reducible refine gate_callee (f := 42) rfl ?_); refine goesL_ (some 6) rfl rfl Try.func42 (by kernel_rfl) rfl #[] rfl p8_1 ?_; (with_reducible refine (ladderbacklaw34_awake.calls k  t261 _ A22.out).mono ?_); rintro e w23 ⟨rfl, hb⟩; refine ⟨_, rfl, ?_⟩; have n0_ := Aside0.mk (below_step p8_0 hb); clear HB; have HB := n0_; clear n0_; (try clear hb); (try clear hb2); (try clear hk); (try clear hi)))
  go_ret
  exact ⟨by first | rfl | (simp [errW_none, errW_some] <;> rfl) | (simp [*, errW_none, errW_some] <;> rfl), by repeat (first | (with_reducible first | exact HB.out | apply below_alloc | apply pw_below_drewN | apply below_drew1) | exact HB.out)⟩
/-- The pure statement of ladderbacklaw34_InterParts. -/
def ladderbacklaw34_InterParts.Pure : Prop := ∀ (y0 : List (List Int)), (y0.length ≤ 9223372036854775807 ∧ ∀ y0_ ∈ y0, (y0_.length ≤ 9223372036854775807 ∧ ∀ y1_ ∈ y0_, (Lit.int .i64 y1_).wf = true)) → ∃ k, ladderbacklaw34_InterParts.f k y0 = some true

end Go.Proofs.Ytfiffhcpgojkhaa.QInterParts
