-- Printed by a program of this session's over the kit's printer (wip/patch_print.py).
import Derived.Test.YtfiffhcpgojkhaaQInterReducesx0
import Derived.Test.YtfiffhcpgojkhaaQInterReducesx1
import Derived.Test.YtfiffhcpgojkhaaQInterReducesx3
import Derived.Test.YtfiffhcpgojkhaaQInterReducesx4
import Derived.Test.YtfiffhcpgojkhaaQInterReducesx6
namespace Go.Proofs.Ytfiffhcpgojkhaa.QInterReduces
open Go.RowKit Go.Proofs.Ytfiffhcpgojkhaa Go.Proofs.YtfiffhcpgojkhaaW.PrintWords Go.Proofs.YtfiffhcpgojkhaaW.PrintLast Go.Proofs.YtfiffhcpgojkhaaW.PrintMore
attribute [local go_sem] setCell_drewN0 max2_int min2_int max_two min_two max_three min_three max_four min_four   -- for this text's walks alone
set_option linter.unusedVariables false
set_option linter.unusedSimpArgs false

/-! ### ladderbacklaw34_InterReduces: function 11 -/
theorem p7_0 {P : Prop} (h : P := by repeat (first | (with_reducible first | exact HB.out | apply below_alloc | apply pw_below_drewN | apply below_drew1) | exact HB.out)) : P := h
theorem p7_1 {P : Prop} (h : P := by (with_reducible repeat (first | apply Kd.R_alloc | apply Kd.R_drewN | apply Kd.R_drew)); exact HO_3.out) : P := h
theorem p7_2 {P : Prop} (h : P := by first | (with_reducible assumption) | assumption) : P := h
theorem p7_3 {P : Prop} (h : P := by first | rfl | (simp; done) | (simp [*]; done)) : P := h
theorem p7_4 {P : Prop} (h : P := by (with_reducible repeat (first | apply Kd.R_alloc | apply Kd.R_drewN | apply Kd.R_drew)); exact HO260.out) : P := h
mutual
def ladderbacklaw34_InterReduces.l0 : Nat → List (List Int) → List Int → Int → List Bool → Int → Option (Bool)
 | 0, _, _, _, _, _ => none
 | k + 1, x0, x3, x4, x5, x6 => if x6 < (x5.length : Int) then (if 0 ≤ x6 then (if rdOf false x5 x6 = true then (ladderbacklaw34_InterReduces.l0 k x0 x3 (wrap64 (x4 + 1)) x5 (wrap64 (x6 + 1))) else (ladderbacklaw34_InterReduces.l0 k x0 x3 x4 x5 (wrap64 (x6 + 1)))) else (none)) else (if (x3.length : Int) = 0 then (ladderbacklaw34_InterReduces.j1 k x0 x3 true) else (if 0 < (x3.length : Int) then (ladderbacklaw34_InterReduces.j1 k x0 x3 ((rd x3 0) != x4)) else (none)))
def ladderbacklaw34_InterReduces.j1 : Nat → List (List Int) → List Int → Bool → Option (Bool)
 | 0, _, _, _ => none
 | k + 1, x0, x3, x38 => if x38 = true then (some false) else (ladderbacklaw34_InterReduces.l1 k x0 x3 1)
def ladderbacklaw34_InterReduces.l1 : Nat → List (List Int) → List Int → Int → Option (Bool)
 | 0, _, _, _ => none
 | k + 1, x0, x3, x7 => if x7 < (x3.length : Int) then (if 0 ≤ x7 then (if 0 ≤ (wrap64 (x7 - 1)) then (if (wrap64 (x7 - 1)) < (x3.length : Int) then (if (rd x3 x7) ≥ (rd x3 (wrap64 (x7 - 1))) then (some false) else (ladderbacklaw34_InterReduces.l1 k x0 x3 (wrap64 (x7 + 1)))) else (none)) else (none)) else (none)) else ((ladderbackref34_Plain.f k x0).bind fun t268 => ((inter_Reducible.f k x0).bind fun t269 => (if (t269 == t268) = true then (if 0 ≤ (wrap64 ((x3.length : Int) - 1)) then (if (wrap64 ((x3.length : Int) - 1)) < (x3.length : Int) then (if ((decide ((rd x3 (wrap64 ((x3.length : Int) - 1))) ≤ 1)) == t268) = true then ((ladderbacklaw34_awake.f k).bind fun t271 => (some t271)) else (some false)) else (none)) else (none)) else (some false))))
end
def ladderbacklaw34_InterReduces.f (k : Nat) (l0 : List (List Int)) : Option (Bool) := (ladderbackref31_Few.f k l0 16).bind fun t256 => (if t256 = true then ((inter_Tower.f k l0).bind fun t258 => ((ladderbackref31_Reach.f k l0 0 (-1)).bind fun t261 => (ladderbacklaw34_InterReduces.l0 k l0 t258 0 t261 0))) else ((ladderbacklaw34_awake.f k).bind fun t257 => (some t257)))
theorem ladderbacklaw34_InterReduces.mono_l : ∀ k, (∀ y0 y1 y2 y3 y4, LeO (ladderbacklaw34_InterReduces.l0 k y0 y1 y2 y3 y4) (ladderbacklaw34_InterReduces.l0 (k + 1) y0 y1 y2 y3 y4)) ∧ (∀ y0 y1 y2, LeO (ladderbacklaw34_InterReduces.j1 k y0 y1 y2) (ladderbacklaw34_InterReduces.j1 (k + 1) y0 y1 y2)) ∧ (∀ y0 y1 y2, LeO (ladderbacklaw34_InterReduces.l1 k y0 y1 y2) (ladderbacklaw34_InterReduces.l1 (k + 1) y0 y1 y2))
 | 0 => ⟨fun _ _ _ _ _ r h => by simp [ladderbacklaw34_InterReduces.l0] at h, fun _ _ _ r h => by simp [ladderbacklaw34_InterReduces.j1] at h, fun _ _ _ r h => by simp [ladderbacklaw34_InterReduces.l1] at h⟩
 | k + 1 => by
  obtain ⟨ih0, ih1, ih2⟩ := ladderbacklaw34_InterReduces.mono_l k
  refine ⟨?_, ?_, ?_⟩
  ·
   intro y0 y1 y2 y3 y4
   unfold ladderbacklaw34_InterReduces.l0
   repeat' first
   | (with_reducible exact ih0 _ _ _ _ _)
   | (with_reducible exact ih1 _ _ _)
   | (with_reducible exact ih2 _ _ _)
   | (with_reducible exact inter_Reducible.mono _ _)
   | (with_reducible exact inter_Tower.mono _ _)
   | (with_reducible exact ladderbacklaw34_awake.mono _)
   | (with_reducible exact ladderbackref31_Few.mono _ _ _)
   | (with_reducible exact ladderbackref31_Reach.mono _ _ _ _)
   | (with_reducible exact ladderbackref34_Plain.mono _ _)
   | (with_reducible exact LeO.refl _)
   | (with_reducible exact LeO.none _)
   | (with_reducible refine LeO.ite ?_ ?_)
   | (with_reducible refine LeO.bind ?_ (fun _ => ?_))
   | exact ih0 _ _ _ _ _
   | exact ih1 _ _ _
   | exact ih2 _ _ _
   | exact inter_Reducible.mono _ _
   | exact inter_Tower.mono _ _
   | exact ladderbacklaw34_awake.mono _
   | exact ladderbackref31_Few.mono _ _ _
   | exact ladderbackref31_Reach.mono _ _ _ _
   | exact ladderbackref34_Plain.mono _ _
   | exact LeO.none _
   | refine LeO.ite ?_ ?_
   | refine LeO.bind ?_ (fun _ => ?_)
  ·
   intro y0 y1 y2
   unfold ladderbacklaw34_InterReduces.j1
   repeat' first
   | (with_reducible exact ih0 _ _ _ _ _)
   | (with_reducible exact ih1 _ _ _)
   | (with_reducible exact ih2 _ _ _)
   | (with_reducible exact inter_Reducible.mono _ _)
   | (with_reducible exact inter_Tower.mono _ _)
   | (with_reducible exact ladderbacklaw34_awake.mono _)
   | (with_reducible exact ladderbackref31_Few.mono _ _ _)
   | (with_reducible exact ladderbackref31_Reach.mono _ _ _ _)
   | (with_reducible exact ladderbackref34_Plain.mono _ _)
   | (with_reducible exact LeO.refl _)
   | (with_reducible exact LeO.none _)
   | (with_reducible refine LeO.ite ?_ ?_)
   | (with_reducible refine LeO.bind ?_ (fun _ => ?_))
   | exact ih0 _ _ _ _ _
   | exact ih1 _ _ _
   | exact ih2 _ _ _
   | exact inter_Reducible.mono _ _
   | exact inter_Tower.mono _ _
   | exact ladderbacklaw34_awake.mono _
   | exact ladderbackref31_Few.mono _ _ _
   | exact ladderbackref31_Reach.mono _ _ _ _
   | exact ladderbackref34_Plain.mono _ _
   | exact LeO.none _
   | refine LeO.ite ?_ ?_
   | refine LeO.bind ?_ (fun _ => ?_)
  ·
   intro y0 y1 y2
   unfold ladderbacklaw34_InterReduces.l1
   repeat' first
   | (with_reducible exact ih0 _ _ _ _ _)
   | (with_reducible exact ih1 _ _ _)
   | (with_reducible exact ih2 _ _ _)
   | (with_reducible exact inter_Reducible.mono _ _)
   | (with_reducible exact inter_Tower.mono _ _)
   | (with_reducible exact ladderbacklaw34_awake.mono _)
   | (with_reducible exact ladderbackref31_Few.mono _ _ _)
   | (with_reducible exact ladderbackref31_Reach.mono _ _ _ _)
   | (with_reducible exact ladderbackref34_Plain.mono _ _)
   | (with_reducible exact LeO.refl _)
   | (with_reducible exact LeO.none _)
   | (with_reducible refine LeO.ite ?_ ?_)
   | (with_reducible refine LeO.bind ?_ (fun _ => ?_))
   | exact ih0 _ _ _ _ _
   | exact ih1 _ _ _
   | exact ih2 _ _ _
   | exact inter_Reducible.mono _ _
   | exact inter_Tower.mono _ _
   | exact ladderbacklaw34_awake.mono _
   | exact ladderbackref31_Few.mono _ _ _
   | exact ladderbackref31_Reach.mono _ _ _ _
   | exact ladderbackref34_Plain.mono _ _
   | exact LeO.none _
   | refine LeO.ite ?_ ?_
   | refine LeO.bind ?_ (fun _ => ?_)
theorem ladderbacklaw34_InterReduces.mono : ∀ a0 k, LeO (ladderbacklaw34_InterReduces.f k a0) (ladderbacklaw34_InterReduces.f (k + 1) a0) := by
 intro a0 k
 obtain ⟨ih0, ih1, ih2⟩ := ladderbacklaw34_InterReduces.mono_l k
 unfold ladderbacklaw34_InterReduces.f
 repeat' first
   | (with_reducible exact ih0 _ _ _ _ _)
   | (with_reducible exact ih1 _ _ _)
   | (with_reducible exact ih2 _ _ _)
   | (with_reducible exact inter_Reducible.mono _ _)
   | (with_reducible exact inter_Tower.mono _ _)
   | (with_reducible exact ladderbacklaw34_awake.mono _)
   | (with_reducible exact ladderbackref31_Few.mono _ _ _)
   | (with_reducible exact ladderbackref31_Reach.mono _ _ _ _)
   | (with_reducible exact ladderbackref34_Plain.mono _ _)
   | (with_reducible exact LeO.refl _)
   | (with_reducible exact LeO.none _)
   | (with_reducible refine LeO.ite ?_ ?_)
   | (with_reducible refine LeO.bind ?_ (fun _ => ?_))
   | exact ih0 _ _ _ _ _
   | exact ih1 _ _ _
   | exact ih2 _ _ _
   | exact inter_Reducible.mono _ _
   | exact inter_Tower.mono _ _
   | exact ladderbacklaw34_awake.mono _
   | exact ladderbackref31_Few.mono _ _ _
   | exact ladderbackref31_Reach.mono _ _ _ _
   | exact ladderbackref34_Plain.mono _ _
   | exact LeO.none _
   | refine LeO.ite ?_ ?_
   | refine LeO.bind ?_ (fun _ => ?_)
set_option maxHeartbeats 8000000 in
set_option maxRecDepth 100000 in
theorem ladderbacklaw34_InterReduces.calls (k : Nat) (A0 : Option Addr) (c0 : Nat) (l0 : List (List Int)) (r : Bool) (w : World) (hr0 : Kd.C (Kd.slice 3 (Kd.int .i64)) w A0 l0.length l0) (hc0 : l0.length ≤ c0) (h : ladderbacklaw34_InterReduces.f k l0 = some r) (hrt_ : r = true := by rfl) :
  Calls Try.prog 11 #[.slice A0 l0.length c0] w fun e w' => e = .returned (.bool r) ∧ Below w.heap.size w w' := by
 have HR0 := Aside0.mk hr0
 have HC0 := Aside0.mk hc0
 clear hr0 hc0
 have HB := Aside0.mk (Below.refl w.heap.size w)
 have H : ((ladderbackref31_Few.f k l0 16).bind fun t256 => (if t256 = true then ((inter_Tower.f k l0).bind fun t258 => ((ladderbackref31_Reach.f k l0 0 (-1)).bind fun t261 => (ladderbacklaw34_InterReduces.l0 k l0 t258 0 t261 0))) else ((ladderbacklaw34_awake.f k).bind fun t257 => (some t257)))) = some r := h
 clear h
 have HRT := Aside0.mk hrt_
 clear hrt_
 replace H := Option.bind_eq_some_iff.mp H
 obtain ⟨t256, A20, H⟩ := H
 replace H : (if t256 = true then ((inter_Tower.f k l0).bind fun t258 => ((ladderbackref31_Reach.f k l0 0 (-1)).bind fun t261 => (ladderbacklaw34_InterReduces.l0 k l0 t258 0 t261 0))) else ((ladderbacklaw34_awake.f k).bind fun t257 => (some t257))) = some r := H
 have A2 := Aside0.mk A20
 clear A20
 by_cases c3 : t256 = true
 ·
  subst c3
  have H1 : ((inter_Tower.f k l0).bind fun t258 => ((ladderbackref31_Reach.f k l0 0 (-1)).bind fun t261 => (ladderbacklaw34_InterReduces.l0 k l0 t258 0 t261 0))) = some r := by rw [if_pos rfl] at H; exact H
  clear H
  have H := H1
  clear H1
  replace H := Option.bind_eq_some_iff.mp H
  obtain ⟨t258, A40, H⟩ := H
  replace H : ((ladderbackref31_Reach.f k l0 0 (-1)).bind fun t261 => (ladderbacklaw34_InterReduces.l0 k l0 t258 0 t261 0)) = some r := H
  have A4 := Aside0.mk A40
  clear A40
  replace H := Option.bind_eq_some_iff.mp H
  obtain ⟨t261, A50, H⟩ := H
  replace H : (ladderbacklaw34_InterReduces.l0 k l0 t258 0 t261 0) = some r := H
  have A5 := Aside0.mk A50
  clear A50
  have H' := Aside0.mk H
  clear H
  go_enter Try.func11, Try.ntmps11
  go_wp2_with (first | (go_at_call 13; (with_reducible refine (ladderbackref31_Few.calls k _ _ l0 16 true _ ?side1 ?side2 A2.out).mono ?_); (case side1 => repeat (first | exact HR0.out | (with_reducible refine Kd.C_alloc ?_ _) | (with_reducible refine Kd.C_drewN ?_ _) | (with_reducible refine Kd.C_drew ?_))); (case side2 => exact HC0.out); rintro e w' ⟨rfl, ⟨nd, rfl⟩⟩; (try first | exact ⟨rfl, _, World.drewN_drewN _ _ _⟩ | exact ⟨rfl, _, Eq.trans (World.drewN_drewN _ _ _) (congrArg (World.drewN _) (Nat.add_assoc _ _ _))⟩)) | (go_at_call 48; (with_reducible refine (inter_Tower.calls k (fun k_ => k_ < w.heap.size) _ _ l0 t258 _ ?side1 A4.out).mono ?_); (case side1 => exact Kd.V_mk HC0.out (Kd.F_below (Kd.C_F (Kd.heap_slice 3 (Kd.heap_int .i64)) HR0.out) p7_0)); rintro e w6 ⟨v259, rfl, ho0, hb⟩; have n0_ := Aside0.mk (Kd.R_lower (Kd.R_mono (ok' := fun k_ => True) ho0 (fun _ hk_ => trivial)) (below_size p7_0)); have n1_ := Aside0.mk (below_step p7_0 hb); clear HB; have HO260 := n0_; have HB := n1_; clear n0_ n1_; (try clear hb); (try clear hb2); (try clear hk); (try clear hi); (try clear ho0)) | (go_at_call 49; (with_reducible refine (ladderbackref31_Reach.calls k _ _ l0 0 (-1) t261 _ ?side1 ?side2 A5.out).mono ?_); (case side1 => repeat (first | exact (Kd.C_below HR0.out HB.out) | (with_reducible refine Kd.C_alloc ?_ _) | (with_reducible refine Kd.C_drewN ?_ _) | (with_reducible refine Kd.C_drew ?_))); (case side2 => exact HC0.out); rintro e w7 ⟨v262, rfl, ho0, hb⟩; have n0_ := Aside0.mk (Kd.R_below p7_4 hb); have n1_ := Aside0.mk (Kd.R_lower ho0 (below_size p7_0)); have n2_ := Aside0.mk (below_step p7_0 hb); clear HO260; clear HB; have HO260 := n0_; have HO263 := n1_; have HB := n2_; clear n0_ n1_ n2_; (try clear hb); (try clear hb2); (try clear hk); (try clear hi); (try clear ho0)))
  repeat (go_quiet (first | (go_at_call 13; (with_reducible refine (ladderbackref31_Few.calls k _ _ l0 16 true _ ?side1 ?side2 A2.out).mono ?_); (case side1 => repeat (first | exact HR0.out | (with_reducible refine Kd.C_alloc ?_ _) | (with_reducible refine Kd.C_drewN ?_ _) | (with_reducible refine Kd.C_drew ?_))); (case side2 => exact HC0.out); rintro e w' ⟨rfl, ⟨nd, rfl⟩⟩; (try first | exact ⟨rfl, _, World.drewN_drewN _ _ _⟩ | exact ⟨rfl, _, Eq.trans (World.drewN_drewN _ _ _) (congrArg (World.drewN _) (Nat.add_assoc _ _ _))⟩)) | (go_at_call 48; (with_reducible refine (inter_Tower.calls k (fun k_ => k_ < w.heap.size) _ _ l0 t258 _ ?side1 A4.out).mono ?_); (case side1 => exact Kd.V_mk HC0.out (Kd.F_below (Kd.C_F (Kd.heap_slice 3 (Kd.heap_int .i64)) HR0.out) p7_0)); rintro e w6 ⟨v259, rfl, ho0, hb⟩; have n0_ := Aside0.mk (Kd.R_lower (Kd.R_mono (ok' := fun k_ => True) ho0 (fun _ hk_ => trivial)) (below_size p7_0)); have n1_ := Aside0.mk (below_step p7_0 hb); clear HB; have HO260 := n0_; have HB := n1_; clear n0_ n1_; (try clear hb); (try clear hb2); (try clear hk); (try clear hi); (try clear ho0)) | (go_at_call 49; (with_reducible refine (ladderbackref31_Reach.calls k _ _ l0 0 (-1) t261 _ ?side1 ?side2 A5.out).mono ?_); (case side1 => repeat (first | exact (Kd.C_below HR0.out HB.out) | (with_reducible refine Kd.C_alloc ?_ _) | (with_reducible refine Kd.C_drewN ?_ _) | (with_reducible refine Kd.C_drew ?_))); (case side2 => exact HC0.out); rintro e w7 ⟨v262, rfl, ho0, hb⟩; have n0_ := Aside0.mk (Kd.R_below p7_4 hb); have n1_ := Aside0.mk (Kd.R_lower ho0 (below_size p7_0)); have n2_ := Aside0.mk (below_step p7_0 hb); clear HO260; clear HB; have HO260 := n0_; have HO263 := n1_; have HB := n2_; clear n0_ n1_ n2_; (try clear hb); (try clear hb2); (try clear hk); (try clear hi); (try clear ho0))); try go_wp2_with (first | (go_at_call 13; (with_reducible refine (ladderbackref31_Few.calls k _ _ l0 16 true _ ?side1 ?side2 A2.out).mono ?_); (case side1 => repeat (first | exact HR0.out | (with_reducible refine Kd.C_alloc ?_ _) | (with_reducible refine Kd.C_drewN ?_ _) | (with_reducible refine Kd.C_drew ?_))); (case side2 => exact HC0.out); rintro e w' ⟨rfl, ⟨nd, rfl⟩⟩; (try first | exact ⟨rfl, _, World.drewN_drewN _ _ _⟩ | exact ⟨rfl, _, Eq.trans (World.drewN_drewN _ _ _) (congrArg (World.drewN _) (Nat.add_assoc _ _ _))⟩)) | (go_at_call 48; (with_reducible refine (inter_Tower.calls k (fun k_ => k_ < w.heap.size) _ _ l0 t258 _ ?side1 A4.out).mono ?_); (case side1 => exact Kd.V_mk HC0.out (Kd.F_below (Kd.C_F (Kd.heap_slice 3 (Kd.heap_int .i64)) HR0.out) p7_0)); rintro e w6 ⟨v259, rfl, ho0, hb⟩; have n0_ := Aside0.mk (Kd.R_lower (Kd.R_mono (ok' := fun k_ => True) ho0 (fun _ hk_ => trivial)) (below_size p7_0)); have n1_ := Aside0.mk (below_step p7_0 hb); clear HB; have HO260 := n0_; have HB := n1_; clear n0_ n1_; (try clear hb); (try clear hb2); (try clear hk); (try clear hi); (try clear ho0)) | (go_at_call 49; (with_reducible refine (ladderbackref31_Reach.calls k _ _ l0 0 (-1) t261 _ ?side1 ?side2 A5.out).mono ?_); (case side1 => repeat (first | exact (Kd.C_below HR0.out HB.out) | (with_reducible refine Kd.C_alloc ?_ _) | (with_reducible refine Kd.C_drewN ?_ _) | (with_reducible refine Kd.C_drew ?_))); (case side2 => exact HC0.out); rintro e w7 ⟨v262, rfl, ho0, hb⟩; have n0_ := Aside0.mk (Kd.R_below p7_4 hb); have n1_ := Aside0.mk (Kd.R_lower ho0 (below_size p7_0)); have n2_ := Aside0.mk (below_step p7_0 hb); clear HO260; clear HB; have HO260 := n0_; have HO263 := n1_; have HB := n2_; clear n0_ n1_ n2_; (try clear hb); (try clear hb2); (try clear hk); (try clear hi); (try clear ho0))))
  go_loopg [4, 6] k (fun kq v4 v6 w' => ∃ (x4_1 : Int) (x6_1 : Int), v4 = .int .i64 x4_1 ∧ v6 = .int .i64 x6_1 ∧ Aside0 (ladderbacklaw34_InterReduces.l0 kq l0 t258 x4_1 t261 x6_1 = some r) ∧ Aside0 (kq ≤ k) ∧ Aside0 (Kd.R (Kd.int .i64) 3 w' w.heap.size (fun _ => True) v259 t258) ∧ Aside0 (Kd.R Kd.bool 4 w' w.heap.size (fun _ => True) v262 t261) ∧ Aside0 (Below w.heap.size w w'))
  case atStart => exact ⟨(0), (0), p7_3, p7_3, H', ⟨Nat.le_refl _⟩, ⟨by (with_reducible repeat (first | apply Kd.R_alloc | apply Kd.R_drewN | apply Kd.R_drew)); exact HO260.out⟩, ⟨by (with_reducible repeat (first | apply Kd.R_alloc | apply Kd.R_drewN | apply Kd.R_drew)); exact HO263.out⟩, ⟨by repeat (first | (with_reducible first | exact HB.out | apply below_alloc | apply pw_below_drewN | apply below_drew1) | exact HB.out)⟩⟩
  case round =>
   clear H'
   try clear c3
   obtain ⟨x4_1, x6_1, rfl, rfl, HA, HK1, HO_3, HO_5, HB⟩ := hrel
   cases gk with
   | zero => exact absurd HA.out (by simp [ladderbacklaw34_InterReduces.l0])
   | succ k1 =>
    have H := HA.out
    clear HA
    simp only [ladderbacklaw34_InterReduces.l0] at H
    by_cases c8 : x6_1 < (t261.length : Int)
    ·
     rw [if_pos c8] at H
     have c8b0 : decide (x6_1 < (t261.length : Int)) = true := decide_eq_true c8
     clear c8
     by_cases c9 : 0 ≤ x6_1
     ·
      rw [if_pos c9] at H
      have c9b0 : decide (0 ≤ x6_1) = true := decide_eq_true c9
      clear c9
      obtain ⟨bq10, hbq10⟩ : ∃ b_ : Bool, b_ = (rdOf false t261 x6_1) := ⟨_, rfl⟩
      replace H : (if bq10 = true then (ladderbacklaw34_InterReduces.l0 k1 l0 t258 (wrap64 (x4_1 + 1)) t261 (wrap64 (x6_1 + 1))) else (ladderbacklaw34_InterReduces.l0 k1 l0 t258 x4_1 t261 (wrap64 (x6_1 + 1)))) = some r := by rw [← hbq10] at H; exact H
      have Nbq10 := Aside0.mk hbq10
      clear hbq10
      (try rw [← Nbq10.out])
      by_cases c11 : bq10 = true
      ·
       subst c11
       have H1 : (ladderbacklaw34_InterReduces.l0 k1 l0 t258 (wrap64 (x4_1 + 1)) t261 (wrap64 (x6_1 + 1))) = some r := by rw [if_pos rfl] at H; exact H
       clear H
       have H := H1
       clear H1
       have H' := Aside0.mk H
       clear H
       obtain ⟨Ao12, co12, eo12⟩ := Kd.R_slice HO_5.out
       subst eo12
       have p264 : 0 ≤ (x6_1 : Int) := of_decide_eq_true p7_2
       have q264 : x6_1 < (t261.length : Int) := of_decide_eq_true p7_2
       obtain ⟨ad264, e264, hx264_0⟩ := Kd.at_bool (Kd.R_reads' HO_5.out).2.2 x6_1 p264 q264
       (try rw [← Nbq10.out] at hx264_0)
       cases e264
       replace p264 := eq_true p264
       replace q264 := eq_true q264
       go_wp2
       repeat (go_quiet (fail); try go_wp2)
       go_roundg k1
       case measure => have := HK1.out; omega
       case rel => exact ⟨(wrap64 (x4_1 + 1)), (wrap64 (x6_1 + 1)), p7_3, p7_3, H', ⟨by have := HK1.out; omega⟩, ⟨by (with_reducible repeat (first | apply Kd.R_alloc | apply Kd.R_drewN | apply Kd.R_drew)); exact HO_3.out⟩, ⟨by (with_reducible repeat (first | apply Kd.R_alloc | apply Kd.R_drewN | apply Kd.R_drew)); exact HO_5.out⟩, ⟨by repeat (first | (with_reducible first | exact HB.out | apply below_alloc | apply pw_below_drewN | apply below_drew1) | exact HB.out)⟩⟩
      ·
       replace c11 := Bool.eq_false_iff.mpr c11
       subst c11
       have H1 : (ladderbacklaw34_InterReduces.l0 k1 l0 t258 x4_1 t261 (wrap64 (x6_1 + 1))) = some r := by rw [if_neg (show ¬ (false = true) by decide)] at H; exact H
       clear H
       have H := H1
       clear H1
       have H' := Aside0.mk H
       clear H
       obtain ⟨Ao13, co13, eo13⟩ := Kd.R_slice HO_5.out
       subst eo13
       have p264 : 0 ≤ (x6_1 : Int) := of_decide_eq_true p7_2
       have q264 : x6_1 < (t261.length : Int) := of_decide_eq_true p7_2
       obtain ⟨ad264, e264, hx264_0⟩ := Kd.at_bool (Kd.R_reads' HO_5.out).2.2 x6_1 p264 q264
       (try rw [← Nbq10.out] at hx264_0)
       cases e264
       replace p264 := eq_true p264
       replace q264 := eq_true q264
       go_wp2
       repeat (go_quiet (fail); try go_wp2)
       go_roundg k1
       case measure => have := HK1.out; omega
       case rel => exact ⟨(x4_1), (wrap64 (x6_1 + 1)), p7_3, p7_3, H', ⟨by have := HK1.out; omega⟩, ⟨by (with_reducible repeat (first | apply Kd.R_alloc | apply Kd.R_drewN | apply Kd.R_drew)); exact HO_3.out⟩, ⟨by (with_reducible repeat (first | apply Kd.R_alloc | apply Kd.R_drewN | apply Kd.R_drew)); exact HO_5.out⟩, ⟨by repeat (first | (with_reducible first | exact HB.out | apply below_alloc | apply pw_below_drewN | apply below_drew1) | exact HB.out)⟩⟩
     ·
      rw [if_neg c9] at H
      exact absurd H (by simp)
    ·
     rw [if_neg c8] at H
     have c8b0 : decide (x6_1 < (t261.length : Int)) = false := decide_eq_false c8
     clear c8
     have HC14 := Aside0.mk H
     clear H
     obtain ⟨Ao15, co15, eo15⟩ := Kd.R_slice HO_5.out
     subst eo15
     go_upto_region 11 with (fail)
     repeat (go_quiet (fail); go_upto_region 11 with (fail))
     go_cut [38] from 9 to 38 (fun v38 wc => ∃ (kq : Nat) (x38_13 : Bool), v38 = .bool x38_13 ∧ Aside0 (ladderbacklaw34_InterReduces.j1 kq l0 t258 x38_13 = some r) ∧ Aside0 (kq ≤ k1) ∧ Aside0 (Kd.R (Kd.int .i64) 3 wc w.heap.size (fun _ => True) v259 t258) ∧ Aside0 (Below w.heap.size w wc))
     case first =>
      have H := HC14.out
      clear HC14
      by_cases c16 : (t258.length : Int) = 0
      ·
       rw [if_pos c16] at H
       have c16b0 : ((t258.length : Int) == 0) = true := beq_iff_eq.mpr c16
       have c16b1 : ((t258.length : Int) != 0) = false := bne_eq_false_iff_eq.mpr c16
       clear c16
       (first | rw [c16b0] | (simp only [i64_w, i32_w]; rw [c16b0]) | rw [c16b1] | skip)
       have H' := Aside0.mk H
       clear H
       obtain ⟨Ao17, co17, eo17⟩ := Kd.R_slice HO_3.out
       subst eo17
       go_wp2
       repeat (go_quiet (fail); try go_wp2)
       go_meet
       case rel => exact ⟨_, (true), p7_3, H', ⟨by have := HK1.out; first | omega | exact Nat.le_refl _⟩, ⟨by (with_reducible repeat (first | apply Kd.R_alloc | apply Kd.R_drewN | apply Kd.R_drew)); exact HO_3.out⟩, ⟨by repeat (first | (with_reducible first | exact HB.out | apply below_alloc | apply pw_below_drewN | apply below_drew1) | exact HB.out)⟩⟩
      ·
       rw [if_neg c16] at H
       have c16b0 : ((t258.length : Int) == 0) = false := beq_eq_false_iff_ne.mpr c16
       have c16b1 : ((t258.length : Int) != 0) = true := bne_iff_ne.mpr c16
       have c16b2 : ¬ (t258 = []) := fun h_ => c16 (by rw [h_]; rfl)
       (first | rw [c16b0] | (simp only [i64_w, i32_w]; rw [c16b0]) | rw [c16b1] | skip)
       by_cases c18 : 0 < (t258.length : Int)
       ·
        rw [if_pos c18] at H
        have c18b0 : decide (0 < (t258.length : Int)) = true := decide_eq_true c18
        have c18b1 : decide (0 < t258.length) = true := decide_eq_true (by omega)
        clear c18
        have H' := Aside0.mk H
        clear H
        obtain ⟨Ao19, co19, eo19⟩ := Kd.R_slice HO_3.out
        subst eo19
        have p265 : 0 ≤ (0 : Int) := (by omega)
        have q265 : 0 < (t258.length : Int) := of_decide_eq_true p7_2
        obtain ⟨ad265, e265, hx265_0⟩ := Kd.at_int (Kd.R_reads' HO_3.out).2.2 0 p265 q265
        cases e265
        have qi265 : (0 < t258.length) = True := eq_true (by omega)
        (try rw [show ((0 : Int)).toNat = 0 from rfl] at hx265_0)
        (try rw [Addr.add_zero'] at hx265_0)
        replace p265 := eq_true p265
        replace q265 := eq_true q265
        go_wp2
        repeat (go_quiet (fail); try go_wp2)
        go_meet
        case rel => exact ⟨_, (((rd t258 0) != x4_1)), p7_3, H', ⟨by have := HK1.out; first | omega | exact Nat.le_refl _⟩, ⟨by (with_reducible repeat (first | apply Kd.R_alloc | apply Kd.R_drewN | apply Kd.R_drew)); exact HO_3.out⟩, ⟨by repeat (first | (with_reducible first | exact HB.out | apply below_alloc | apply pw_below_drewN | apply below_drew1) | exact HB.out)⟩⟩
       ·
        rw [if_neg c18] at H
        exact absurd H (by simp)
     case rest =>
      clear HC14
      (try clear c8); (try clear c8b0)
      obtain ⟨kq, x38_13, rfl, HA, HJ13, HO_3, HB⟩ := hcut
      cases kq with
      | zero => exact absurd HA.out (by simp [ladderbacklaw34_InterReduces.j1])
      | succ kj13 =>
       have H := HA.out
       clear HA
       simp only [ladderbacklaw34_InterReduces.j1] at H
       by_cases c20 : x38_13 = true
       ·
        subst c20
        have H1 : (some false) = some r := by rw [if_pos rfl] at H; exact H
        clear H
        have H := H1
        clear H1
        exact absurd (Option.some.inj H) (by rw [HRT.out]; decide)
       ·
        replace c20 := Bool.eq_false_iff.mpr c20
        subst c20
        have H1 : (ladderbacklaw34_InterReduces.l1 kj13 l0 t258 1) = some r := by rw [if_neg (show ¬ (false = true) by decide)] at H; exact H
        clear H
        have H := H1
        clear H1
        have H' := Aside0.mk H
        clear H
        go_wp2
        repeat (go_quiet (fail); try go_wp2)
        go_loopg [7] kj13 (fun kq v7 w' => ∃ (x7_3 : Int), v7 = .int .i64 x7_3 ∧ Aside0 (ladderbacklaw34_InterReduces.l1 kq l0 t258 x7_3 = some r) ∧ Aside0 (kq ≤ kj13) ∧ Aside0 (Kd.R (Kd.int .i64) 3 w' w.heap.size (fun _ => True) v259 t258) ∧ Aside0 (Below w.heap.size w w'))
        case atStart => exact ⟨(1), p7_3, H', ⟨Nat.le_refl _⟩, ⟨by (with_reducible repeat (first | apply Kd.R_alloc | apply Kd.R_drewN | apply Kd.R_drew)); exact HO_3.out⟩, ⟨by repeat (first | (with_reducible first | exact HB.out | apply below_alloc | apply pw_below_drewN | apply below_drew1) | exact HB.out)⟩⟩
        case round =>
         clear H'
         try clear c20
         obtain ⟨x7_3, rfl, HA, HK3, HO_3, HB⟩ := hrel
         cases gk with
         | zero => exact absurd HA.out (by simp [ladderbacklaw34_InterReduces.l1])
         | succ k3 =>
          have H := HA.out
          clear HA
          simp only [ladderbacklaw34_InterReduces.l1] at H
          by_cases c21 : x7_3 < (t258.length : Int)
          ·
           rw [if_pos c21] at H
           have c21b0 : decide (x7_3 < (t258.length : Int)) = true := decide_eq_true c21
           clear c21
           by_cases c22 : 0 ≤ x7_3
           ·
            rw [if_pos c22] at H
            have c22b0 : decide (0 ≤ x7_3) = true := decide_eq_true c22
            clear c22
            obtain ⟨ji23, hji23⟩ : ∃ j_ : Int, (wrap64 (x7_3 - 1)) = j_ := ⟨_, rfl⟩
            replace H : (if 0 ≤ (ji23) then (if (ji23) < (t258.length : Int) then (if (rd t258 x7_3) ≥ (rd t258 (ji23)) then (some false) else (ladderbacklaw34_InterReduces.l1 k3 l0 t258 (wrap64 (x7_3 + 1)))) else (none)) else (none)) = some r := by first | (rw [hji23] at H; exact H) | (simp only [hji23] at H ⊢; exact H)
            have hji23w : (IntKind.i64.wrap (x7_3 - 1)) = ji23 := (i64_w _).trans hji23
            by_cases c24 : 0 ≤ (ji23)
            ·
             rw [if_pos c24] at H
             have c24b0 : decide (0 ≤ (ji23)) = true := decide_eq_true c24
             clear c24
             by_cases c25 : (ji23) < (t258.length : Int)
             ·
              rw [if_pos c25] at H
              have c25b0 : decide ((ji23) < (t258.length : Int)) = true := decide_eq_true c25
              clear c25
              by_cases c26 : (rd t258 x7_3) ≥ (rd t258 (ji23))
              ·
               rw [if_pos c26] at H
               have c26b0 : decide ((rd t258 (ji23)) ≤ (rd t258 x7_3)) = true := decide_eq_true c26
               clear c26
               exact absurd (Option.some.inj H) (by rw [HRT.out]; decide)
              ·
               rw [if_neg c26] at H
               have c26b0 : decide ((rd t258 (ji23)) ≤ (rd t258 x7_3)) = false := decide_eq_false c26
               clear c26
               have H' := Aside0.mk H
               clear H
               obtain ⟨Ao27, co27, eo27⟩ := Kd.R_slice HO_3.out
               subst eo27
               have p266 : 0 ≤ (x7_3 : Int) := of_decide_eq_true p7_2
               have q266 : x7_3 < (t258.length : Int) := of_decide_eq_true p7_2
               obtain ⟨ad266, e266, hx266_0⟩ := Kd.at_int (Kd.R_reads' HO_3.out).2.2 x7_3 p266 q266
               cases e266
               replace p266 := eq_true p266
               replace q266 := eq_true q266
               have p267 : 0 ≤ ((ji23) : Int) := of_decide_eq_true p7_2
               have q267 : (ji23) < (t258.length : Int) := of_decide_eq_true p7_2
               obtain ⟨ad267, e267, hx267_0⟩ := Kd.at_int (Kd.R_reads' HO_3.out).2.2 (ji23) p267 q267
               obtain rfl : ad266 = ad267 := (by injection e267)
               replace p267 := eq_true p267
               replace q267 := eq_true q267
               go_wp2
               repeat (go_quiet (fail); try go_wp2)
               go_roundg k3
               case measure => have := HK1.out; have := HJ13.out; have := HK3.out; omega
               case rel => exact ⟨(wrap64 (x7_3 + 1)), p7_3, H', ⟨by have := HK1.out; have := HJ13.out; have := HK3.out; omega⟩, ⟨by (with_reducible repeat (first | apply Kd.R_alloc | apply Kd.R_drewN | apply Kd.R_drew)); exact HO_3.out⟩, ⟨by repeat (first | (with_reducible first | exact HB.out | apply below_alloc | apply pw_below_drewN | apply below_drew1) | exact HB.out)⟩⟩
             ·
              rw [if_neg c25] at H
              exact absurd H (by simp)
            ·
             rw [if_neg c24] at H
             exact absurd H (by simp)
           ·
            rw [if_neg c22] at H
            exact absurd H (by simp)
          ·
           rw [if_neg c21] at H
           have c21b0 : decide (x7_3 < (t258.length : Int)) = false := decide_eq_false c21
           clear c21
           replace H := Option.bind_eq_some_iff.mp H
           obtain ⟨t268, A280, H⟩ := H
           replace H : ((inter_Reducible.f k3 l0).bind fun t269 => (if (t269 == t268) = true then (if 0 ≤ (wrap64 ((t258.length : Int) - 1)) then (if (wrap64 ((t258.length : Int) - 1)) < (t258.length : Int) then (if ((decide ((rd t258 (wrap64 ((t258.length : Int) - 1))) ≤ 1)) == t268) = true then ((ladderbacklaw34_awake.f k3).bind fun t271 => (some t271)) else (some false)) else (none)) else (none)) else (some false))) = some r := H
           have A28 := Aside0.mk A280
           clear A280
           replace H := Option.bind_eq_some_iff.mp H
           obtain ⟨t269, A290, H⟩ := H
           replace H : (if (t269 == t268) = true then (if 0 ≤ (wrap64 ((t258.length : Int) - 1)) then (if (wrap64 ((t258.length : Int) - 1)) < (t258.length : Int) then (if ((decide ((rd t258 (wrap64 ((t258.length : Int) - 1))) ≤ 1)) == t268) = true then ((ladderbacklaw34_awake.f k3).bind fun t271 => (some t271)) else (some false)) else (none)) else (none)) else (some false)) = some r := H
           have A29 := Aside0.mk A290
           clear A290
           by_cases c30 : (t269 == t268) = true
           ·
            rw [if_pos c30] at H
            obtain rfl : (t269) = t268 := Eq.symm (by revert c30; generalize (t269) = z; cases z <;> cases t268 <;> decide)
            (try clear c30)
            obtain ⟨ji31, hji31⟩ : ∃ j_ : Int, (wrap64 ((t258.length : Int) - 1)) = j_ := ⟨_, rfl⟩
            replace H : (if 0 ≤ (ji31) then (if (ji31) < (t258.length : Int) then (if ((decide ((rd t258 (ji31)) ≤ 1)) == (t269)) = true then ((ladderbacklaw34_awake.f k3).bind fun t271 => (some t271)) else (some false)) else (none)) else (none)) = some r := by first | (rw [hji31] at H; exact H) | (simp only [hji31] at H ⊢; exact H)
            (try rw [hji31] at A28)
            (try rw [hji31] at A29)
            have hji31w : (IntKind.i64.wrap ((t258.length : Int) - 1)) = ji31 := (i64_w _).trans hji31
            by_cases c32 : 0 ≤ (ji31)
            ·
             rw [if_pos c32] at H
             have c32b0 : decide (0 ≤ (ji31)) = true := decide_eq_true c32
             clear c32
             by_cases c33 : (ji31) < (t258.length : Int)
             ·
              rw [if_pos c33] at H
              have c33b0 : decide ((ji31) < (t258.length : Int)) = true := decide_eq_true c33
              clear c33
              by_cases c34 : ((decide ((rd t258 (ji31)) ≤ 1)) == (t269)) = true
              ·
               rw [if_pos c34] at H
               have c34b0 : ((decide ((rd t258 (ji31)) ≤ 1)) == (t269)) = true := c34
               (try (have c34b1 : decide ((decide ((rd t258 (ji31)) ≤ 1)) = (t269)) = true := by simpa using c34))
               (try (have c34b2 : ((decide ((rd t258 (ji31)) ≤ 1)) == (t269)) = true := by simpa using c34))
               clear c34
               replace H := Option.bind_eq_some_iff.mp H
               obtain ⟨t271, A350, H⟩ := H
               replace H : (some t271) = some r := H
               have A35 := Aside0.mk A350
               clear A350
               obtain rfl := Option.some.inj H
               obtain ⟨Ao36, co36, eo36⟩ := Kd.R_slice HO_3.out
               subst eo36
               go_wp2_with (first | (go_at_call 50; (with_reducible refine (ladderbackref34_Plain.calls k3 _ _ l0 (t269) _ ?side1 ?side2 A28.out).mono ?_); (case side1 => repeat (first | exact (Kd.C_below HR0.out HB.out) | (with_reducible refine Kd.C_alloc ?_ _) | (with_reducible refine Kd.C_drewN ?_ _) | (with_reducible refine Kd.C_drew ?_))); (case side2 => exact HC0.out); rintro e w37 ⟨rfl, hb⟩; have n0_ := Aside0.mk (Kd.R_below p7_1 hb); have n1_ := Aside0.mk (below_step p7_0 hb); clear HO_3; clear HB; have HO_3 := n0_; have HB := n1_; clear n0_ n1_; (try clear hb); (try clear hb2); (try clear hk); (try clear hi)) | (go_at_call 51; (with_reducible refine (inter_Reducible.calls k3 _ _ l0 t269 _ ?side1 ?side2 A29.out).mono ?_); (case side1 => repeat (first | exact (Kd.C_below HR0.out HB.out) | (with_reducible refine Kd.C_alloc ?_ _) | (with_reducible refine Kd.C_drewN ?_ _) | (with_reducible refine Kd.C_drew ?_))); (case side2 => exact HC0.out); rintro e w38 ⟨rfl, hb⟩; have n0_ := Aside0.mk (Kd.R_below p7_1 hb); have n1_ := Aside0.mk (below_step p7_0 hb); clear HO_3; clear HB; have HO_3 := n0_; have HB := n1_; clear n0_ n1_; (try clear hb); (try clear hb2); (try clear hk); (try clear hi); have p270 : 0 ≤ ((ji31) : Int) := of_decide_eq_true p7_2; have q270 : (ji31) < (t258.length : Int) := of_decide_eq_true p7_2; obtain ⟨ad270, e270, hx270_0⟩ := Kd.at_int (Kd.R_reads' HO_3.out).2.2 (ji31) p270 q270; cases e270; replace p270 := eq_true p270; replace q270 := eq_true q270) | (go_at_call 42; (with_reducible refine (ladderbacklaw34_awake.calls k3  t271 _ A35.out).mono ?_); rintro e w39 ⟨rfl, hb⟩; have n0_ := Aside0.mk (Kd.R_below p7_1 hb); have n1_ := Aside0.mk (below_step p7_0 hb); clear HO_3; clear HB; have HO_3 := n0_; have HB := n1_; clear n0_ n1_; (try clear hb); (try clear hb2); (try clear hk); (try clear hi)))
               repeat (go_quiet (first | (go_at_call 50; (with_reducible refine (ladderbackref34_Plain.calls k3 _ _ l0 (t269) _ ?side1 ?side2 A28.out).mono ?_); (case side1 => repeat (first | exact (Kd.C_below HR0.out HB.out) | (with_reducible refine Kd.C_alloc ?_ _) | (with_reducible refine Kd.C_drewN ?_ _) | (with_reducible refine Kd.C_drew ?_))); (case side2 => exact HC0.out); rintro e w37 ⟨rfl, hb⟩; have n0_ := Aside0.mk (Kd.R_below p7_1 hb); have n1_ := Aside0.mk (below_step p7_0 hb); clear HO_3; clear HB; have HO_3 := n0_; have HB := n1_; clear n0_ n1_; (try clear hb); (try clear hb2); (try clear hk); (try clear hi)) | (go_at_call 51; (with_reducible refine (inter_Reducible.calls k3 _ _ l0 t269 _ ?side1 ?side2 A29.out).mono ?_); (case side1 => repeat (first | exact (Kd.C_below HR0.out HB.out) | (with_reducible refine Kd.C_alloc ?_ _) | (with_reducible refine Kd.C_drewN ?_ _) | (with_reducible refine Kd.C_drew ?_))); (case side2 => exact HC0.out); rintro e w38 ⟨rfl, hb⟩; have n0_ := Aside0.mk (Kd.R_below p7_1 hb); have n1_ := Aside0.mk (below_step p7_0 hb); clear HO_3; clear HB; have HO_3 := n0_; have HB := n1_; clear n0_ n1_; (try clear hb); (try clear hb2); (try clear hk); (try clear hi); have p270 : 0 ≤ ((ji31) : Int) := of_decide_eq_true p7_2; have q270 : (ji31) < (t258.length : Int) := of_decide_eq_true p7_2; obtain ⟨ad270, e270, hx270_0⟩ := Kd.at_int (Kd.R_reads' HO_3.out).2.2 (ji31) p270 q270; cases e270; replace p270 := eq_true p270; replace q270 := eq_true q270) | (go_at_call 42; (with_reducible refine (ladderbacklaw34_awake.calls k3  t271 _ A35.out).mono ?_); rintro e w39 ⟨rfl, hb⟩; have n0_ := Aside0.mk (Kd.R_below p7_1 hb); have n1_ := Aside0.mk (below_step p7_0 hb); clear HO_3; clear HB; have HO_3 := n0_; have HB := n1_; clear n0_ n1_; (try clear hb); (try clear hb2); (try clear hk); (try clear hi))); try go_wp2_with (first | (go_at_call 50; (with_reducible refine (ladderbackref34_Plain.calls k3 _ _ l0 (t269) _ ?side1 ?side2 A28.out).mono ?_); (case side1 => repeat (first | exact (Kd.C_below HR0.out HB.out) | (with_reducible refine Kd.C_alloc ?_ _) | (with_reducible refine Kd.C_drewN ?_ _) | (with_reducible refine Kd.C_drew ?_))); (case side2 => exact HC0.out); rintro e w37 ⟨rfl, hb⟩; have n0_ := Aside0.mk (Kd.R_below p7_1 hb); have n1_ := Aside0.mk (below_step p7_0 hb); clear HO_3; clear HB; have HO_3 := n0_; have HB := n1_; clear n0_ n1_; (try clear hb); (try clear hb2); (try clear hk); (try clear hi)) | (go_at_call 51; (with_reducible refine (inter_Reducible.calls k3 _ _ l0 t269 _ ?side1 ?side2 A29.out).mono ?_); (case side1 => repeat (first | exact (Kd.C_below HR0.out HB.out) | (with_reducible refine Kd.C_alloc ?_ _) | (with_reducible refine Kd.C_drewN ?_ _) | (with_reducible refine Kd.C_drew ?_))); (case side2 => exact HC0.out); rintro e w38 ⟨rfl, hb⟩; have n0_ := Aside0.mk (Kd.R_below p7_1 hb); have n1_ := Aside0.mk (below_step p7_0 hb); clear HO_3; clear HB; have HO_3 := n0_; have HB := n1_; clear n0_ n1_; (try clear hb); (try clear hb2); (try clear hk); (try clear hi); have p270 : 0 ≤ ((ji31) : Int) := of_decide_eq_true p7_2; have q270 : (ji31) < (t258.length : Int) := of_decide_eq_true p7_2; obtain ⟨ad270, e270, hx270_0⟩ := Kd.at_int (Kd.R_reads' HO_3.out).2.2 (ji31) p270 q270; cases e270; replace p270 := eq_true p270; replace q270 := eq_true q270) | (go_at_call 42; (with_reducible refine (ladderbacklaw34_awake.calls k3  t271 _ A35.out).mono ?_); rintro e w39 ⟨rfl, hb⟩; have n0_ := Aside0.mk (Kd.R_below p7_1 hb); have n1_ := Aside0.mk (below_step p7_0 hb); clear HO_3; clear HB; have HO_3 := n0_; have HB := n1_; clear n0_ n1_; (try clear hb); (try clear hb2); (try clear hk); (try clear hi))))
               go_ret
               exact ⟨by first | rfl | (simp [errW_none, errW_some] <;> rfl) | (simp only [← hji31]; first | rfl | (simp [errW_none, errW_some] <;> rfl)) | (simp [*, errW_none, errW_some] <;> rfl), by repeat (first | (with_reducible first | exact HB.out | apply below_alloc | apply pw_below_drewN | apply below_drew1) | exact HB.out)⟩
              ·
               rw [if_neg c34] at H
               have c34b0 : ((decide ((rd t258 (ji31)) ≤ 1)) == (t269)) = false := by simpa using c34
               (try (have c34b1 : decide ((decide ((rd t258 (ji31)) ≤ 1)) = (t269)) = false := by simpa using c34))
               (try (have c34b2 : ((decide ((rd t258 (ji31)) ≤ 1)) == (t269)) = false := by simpa using c34))
               (try (have c34b3 : ¬ ((decide ((rd t258 (ji31)) ≤ 1)) = (t269)) := by simpa using c34))
               clear c34
               exact absurd (Option.some.inj H) (by rw [HRT.out]; decide)
             ·
              rw [if_neg c33] at H
              exact absurd H (by simp)
            ·
             rw [if_neg c32] at H
             exact absurd H (by simp)
           ·
            rw [if_neg c30] at H
            obtain rfl : (!(t269)) = t268 := Eq.symm (by revert c30; generalize (t269) = z; cases z <;> cases t268 <;> decide)
            (try clear c30)
            exact absurd (Option.some.inj H) (by rw [HRT.out]; decide)
 ·
  replace c3 := Bool.eq_false_iff.mpr c3
  subst c3
  have H1 : ((ladderbacklaw34_awake.f k).bind fun t257 => (some t257)) = some r := by rw [if_neg (show ¬ (false = true) by decide)] at H; exact H
  clear H
  have H := H1
  clear H1
  replace H := Option.bind_eq_some_iff.mp H
  obtain ⟨t257, A400, H⟩ := H
  replace H : (some t257) = some r := H
  have A40 := Aside0.mk A400
  clear A400
  obtain rfl := Option.some.inj H
  go_enter Try.func11, Try.ntmps11
  go_wp2_with (first | (go_at_call 13; (with_reducible refine (ladderbackref31_Few.calls k _ _ l0 16 false _ ?side1 ?side2 A2.out).mono ?_); (case side1 => repeat (first | exact HR0.out | (with_reducible refine Kd.C_alloc ?_ _) | (with_reducible refine Kd.C_drewN ?_ _) | (with_reducible refine Kd.C_drew ?_))); (case side2 => exact HC0.out); rintro e w' ⟨rfl, ⟨nd, rfl⟩⟩; (try first | exact ⟨rfl, _, World.drewN_drewN _ _ _⟩ | exact ⟨rfl, _, Eq.trans (World.drewN_drewN _ _ _) (congrArg (World.drewN _) (Nat.add_assoc _ _ _))⟩)) | (go_at_call 42; (with_reducible refine (ladderbacklaw34_awake.calls k  t257 _ A40.out).mono ?_); rintro e w41 ⟨rfl, hb⟩; have n0_ := Aside0.mk (below_step p7_0 hb); clear HB; have HB := n0_; clear n0_; (try clear hb); (try clear hb2); (try clear hk); (try clear hi)))
  repeat (go_quiet (first | (go_at_call 13; (with_reducible refine (ladderbackref31_Few.calls k _ _ l0 16 false _ ?side1 ?side2 A2.out).mono ?_); (case side1 => repeat (first | exact HR0.out | (with_reducible refine Kd.C_alloc ?_ _) | (with_reducible refine Kd.C_drewN ?_ _) | (with_reducible refine Kd.C_drew ?_))); (case side2 => exact HC0.out); rintro e w' ⟨rfl, ⟨nd, rfl⟩⟩; (try first | exact ⟨rfl, _, World.drewN_drewN _ _ _⟩ | exact ⟨rfl, _, Eq.trans (World.drewN_drewN _ _ _) (congrArg (World.drewN _) (Nat.add_assoc _ _ _))⟩)) | (go_at_call 42; (with_reducible refine (ladderbacklaw34_awake.calls k  t257 _ A40.out).mono ?_); rintro e w41 ⟨rfl, hb⟩; have n0_ := Aside0.mk (below_step p7_0 hb); clear HB; have HB := n0_; clear n0_; (try clear hb); (try clear hb2); (try clear hk); (try clear hi))); try go_wp2_with (first | (go_at_call 13; (with_reducible refine (ladderbackref31_Few.calls k _ _ l0 16 false _ ?side1 ?side2 A2.out).mono ?_); (case side1 => repeat (first | exact HR0.out | (with_reducible refine Kd.C_alloc ?_ _) | (with_reducible refine Kd.C_drewN ?_ _) | (with_reducible refine Kd.C_drew ?_))); (case side2 => exact HC0.out); rintro e w' ⟨rfl, ⟨nd, rfl⟩⟩; (try first | exact ⟨rfl, _, World.drewN_drewN _ _ _⟩ | exact ⟨rfl, _, Eq.trans (World.drewN_drewN _ _ _) (congrArg (World.drewN _) (Nat.add_assoc _ _ _))⟩)) | (go_at_call 42; (with_reducible refine (ladderbacklaw34_awake.calls k  t257 _ A40.out).mono ?_); rintro e w41 ⟨rfl, hb⟩; have n0_ := Aside0.mk (below_step p7_0 hb); clear HB; have HB := n0_; clear n0_; (try clear hb); (try clear hb2); (try clear hk); (try clear hi))))
  go_ret
  exact ⟨by first | rfl | (simp [errW_none, errW_some] <;> rfl) | (simp [*, errW_none, errW_some] <;> rfl), by repeat (first | (with_reducible first | exact HB.out | apply below_alloc | apply pw_below_drewN | apply below_drew1) | exact HB.out)⟩
/-- The pure statement of ladderbacklaw34_InterReduces. -/
def ladderbacklaw34_InterReduces.Pure : Prop := ∀ (y0 : List (List Int)), (y0.length ≤ 9223372036854775807 ∧ ∀ y0_ ∈ y0, (y0_.length ≤ 9223372036854775807 ∧ ∀ y1_ ∈ y0_, (Lit.int .i64 y1_).wf = true)) → ∃ k, ladderbacklaw34_InterReduces.f k y0 = some true

end Go.Proofs.Ytfiffhcpgojkhaa.QInterReduces
