-- Printed by a program of this session's over the kit's printer (wip/patch_print.py).
import Derived.Test.YtfiffhcpgojkhaaQFlowBlocksx0
import Derived.Test.YtfiffhcpgojkhaaQFlowBlocksx6
import Derived.Test.YtfiffhcpgojkhaaQFlowBlocksx7
import Derived.Test.YtfiffhcpgojkhaaQFlowBlocksx8
namespace Go.Proofs.Ytfiffhcpgojkhaa.QFlowBlocks
open Go.RowKit Go.Proofs.Ytfiffhcpgojkhaa Go.Proofs.YtfiffhcpgojkhaaW.PrintWords Go.Proofs.YtfiffhcpgojkhaaW.PrintLast Go.Proofs.YtfiffhcpgojkhaaW.PrintMore
attribute [local go_sem] setCell_drewN0 max2_int min2_int max_two min_two max_three min_three max_four min_four   -- for this text's walks alone
set_option linter.unusedVariables false
set_option linter.unusedSimpArgs false

/-! ### ladderbackref30_Nodes: function 26 -/
theorem p9_0 {P : Prop} (h : P := by first | (with_reducible assumption) | assumption) : P := h
theorem p9_1 {P : Prop} (h : P := by repeat (first | (with_reducible first | exact HB.out | apply below_alloc | apply pw_below_drewN | apply below_drew1) | exact HB.out)) : P := h
theorem p9_2 {P : Prop} (h : P := by (with_reducible repeat (first | apply Kd.R_alloc | apply Kd.R_drewN | apply Kd.R_drew)); exact HO_5.out) : P := h
theorem p9_3 {P : Prop} (h : P := by (try simp only [List.map_toArray, List.map_cons, List.map_nil]); first | done | rfl | (simp only [List.length_drop, List.length_take]; rfl)) : P := h
theorem p9_4 {P : Prop} (h : P := by (with_reducible repeat (first | apply Kd.R_alloc | apply Kd.R_drewN | apply Kd.R_drew)); exact HO_3.out) : P := h
theorem p9_5 {P : Prop} (h : P := by (with_reducible repeat (first | apply Kd.S_alloc | apply Kd.S_drewN | apply Kd.S_drew)); exact HO_4.out) : P := h
theorem p9_6 {P : Prop} (h : P := by first | rfl | (simp; done) | (simp [*]; done)) : P := h
theorem p9_7 {P : Prop} (h : P := by first | exact q282 | exact of_decide_eq_true p9_0 | (have e_ := (Kd.S_reads' HO_4.out).1; omega)) : P := h
mutual
def ladderbackref30_Nodes.l0 : Nat → List (S44) → List Bool → List (S39) → List Int → Int → Option ((List (S39)))
 | 0, _, _, _, _, _ => none
 | k + 1, x0, x3, x4, x5, x6 => if x6 < (x3.length : Int) then ((ladderbackref30_leads.f k x0 x3 x6).bind fun t276 => (if t276 = true then (if 0 ≤ x6 then (if x6 < (x5.length : Int) then (if x4.length < 3518437208883 then (ladderbackref30_Nodes.l0 k x0 x3 (x4 ++ [(⟨x6, wrap64 (x6 + 1), ([] : List Int)⟩ : S39)]) (x5.set (x6 : Int).toNat (x4.length : Int)) (wrap64 (x6 + 1))) else (none)) else (none)) else (none)) else (if (x4.length : Int) > 0 then (if 0 ≤ x6 then (if rdOf false x3 x6 = true then (if 0 ≤ (wrap64 ((x4.length : Int) - 1)) then (if (wrap64 ((x4.length : Int) - 1)) < (x4.length : Int) then (if ((rd_T39 x4 (wrap64 ((x4.length : Int) - 1))).f1) = x6 then (if 0 ≤ (wrap64 (x6 - 1)) then (if (wrap64 (x6 - 1)) < (x0.length : Int) then ((ladderbackref30_Far.f ((rd_T44 x0 (wrap64 (x6 - 1))).f0)).bind fun t284 => (if t284 = true then (ladderbackref30_Nodes.l0 k x0 x3 x4 x5 (wrap64 (x6 + 1))) else (ladderbackref30_Nodes.l0 k x0 x3 (x4.set ((wrap64 ((x4.length : Int) - 1)) : Int).toNat (⟨(rd_T39 x4 (wrap64 ((x4.length : Int) - 1))).f0, wrap64 (x6 + 1), (rd_T39 x4 (wrap64 ((x4.length : Int) - 1))).f2⟩ : S39)) x5 (wrap64 (x6 + 1))))) else (none)) else (none)) else (ladderbackref30_Nodes.l0 k x0 x3 x4 x5 (wrap64 (x6 + 1)))) else (none)) else (none)) else (ladderbackref30_Nodes.l0 k x0 x3 x4 x5 (wrap64 (x6 + 1)))) else (none)) else (ladderbackref30_Nodes.l0 k x0 x3 x4 x5 (wrap64 (x6 + 1)))))) else (ladderbackref30_Nodes.l1 k x0 x4 x5 0)
def ladderbackref30_Nodes.l1 : Nat → List (S44) → List (S39) → List Int → Int → Option ((List (S39)))
 | 0, _, _, _, _ => none
 | k + 1, x0, x4, x5, x7 => if x7 < (x4.length : Int) then (if 0 ≤ x7 then ((ladderbackref30_Goes.f k x0 (wrap64 (((rd_T39 x4 x7).f1) - 1))).bind fun t287 => (ladderbackref30_Nodes.l2 k x0 x4 x5 x7 t287 0)) else (none)) else (some x4)
def ladderbackref30_Nodes.l2 : Nat → List (S44) → List (S39) → List Int → Int → List Int → Int → Option ((List (S39)))
 | 0, _, _, _, _, _, _ => none
 | k + 1, x0, x4, x5, x7, x8, x9 => if x9 < (x8.length : Int) then (if 0 ≤ x7 then (if x7 < (x4.length : Int) then (if 0 ≤ x9 then (if 0 ≤ (rd x8 x9) then (if (rd x8 x9) < (x5.length : Int) then (if ((rd_T39 x4 x7).f2).length < 17592186044416 then (ladderbackref30_Nodes.l2 k x0 (x4.set (x7 : Int).toNat (⟨(rd_T39 x4 x7).f0, (rd_T39 x4 x7).f1, (((rd_T39 x4 x7).f2) ++ [rd x5 (rd x8 x9)])⟩ : S39)) x5 x7 x8 (wrap64 (x9 + 1))) else (none)) else (none)) else (none)) else (none)) else (none)) else (none)) else (ladderbackref30_Nodes.l1 k x0 x4 x5 (wrap64 (x7 + 1)))
end
def ladderbackref30_Nodes.f (k : Nat) (l0 : List (S44)) : Option ((List (S39))) := (ladderbackref30_Met.f k l0).bind fun t270 => (if 0 ≤ (wrap64 ((l0.length : Int) + 1)) then (if (wrap64 ((l0.length : Int) + 1) : Int).toNat ≤ 35184372088832 then (ladderbackref30_Nodes.l0 k l0 t270 ([] : List (S39)) (List.replicate (wrap64 ((l0.length : Int) + 1) : Int).toNat 0) 0) else (none)) else (none))
theorem ladderbackref30_Nodes.mono_l : ∀ k, (∀ y0 y1 y2 y3 y4, LeO (ladderbackref30_Nodes.l0 k y0 y1 y2 y3 y4) (ladderbackref30_Nodes.l0 (k + 1) y0 y1 y2 y3 y4)) ∧ (∀ y0 y1 y2 y3, LeO (ladderbackref30_Nodes.l1 k y0 y1 y2 y3) (ladderbackref30_Nodes.l1 (k + 1) y0 y1 y2 y3)) ∧ (∀ y0 y1 y2 y3 y4 y5, LeO (ladderbackref30_Nodes.l2 k y0 y1 y2 y3 y4 y5) (ladderbackref30_Nodes.l2 (k + 1) y0 y1 y2 y3 y4 y5))
 | 0 => ⟨fun _ _ _ _ _ r h => by simp [ladderbackref30_Nodes.l0] at h, fun _ _ _ _ r h => by simp [ladderbackref30_Nodes.l1] at h, fun _ _ _ _ _ _ r h => by simp [ladderbackref30_Nodes.l2] at h⟩
 | k + 1 => by
  obtain ⟨ih0, ih1, ih2⟩ := ladderbackref30_Nodes.mono_l k
  refine ⟨?_, ?_, ?_⟩
  ·
   intro y0 y1 y2 y3 y4
   unfold ladderbackref30_Nodes.l0
   repeat' first
   | (with_reducible exact ih0 _ _ _ _ _)
   | (with_reducible exact ih1 _ _ _ _)
   | (with_reducible exact ih2 _ _ _ _ _ _)
   | (with_reducible exact ladderbackref30_Goes.mono _ _ _)
   | (with_reducible exact ladderbackref30_Met.mono _ _)
   | (with_reducible exact ladderbackref30_leads.mono _ _ _ _)
   | (with_reducible exact LeO.refl _)
   | (with_reducible exact LeO.none _)
   | (with_reducible refine LeO.ite ?_ ?_)
   | (with_reducible refine LeO.bind ?_ (fun _ => ?_))
   | exact ih0 _ _ _ _ _
   | exact ih1 _ _ _ _
   | exact ih2 _ _ _ _ _ _
   | exact ladderbackref30_Goes.mono _ _ _
   | exact ladderbackref30_Met.mono _ _
   | exact ladderbackref30_leads.mono _ _ _ _
   | exact LeO.none _
   | refine LeO.ite ?_ ?_
   | refine LeO.bind ?_ (fun _ => ?_)
  ·
   intro y0 y1 y2 y3
   unfold ladderbackref30_Nodes.l1
   repeat' first
   | (with_reducible exact ih0 _ _ _ _ _)
   | (with_reducible exact ih1 _ _ _ _)
   | (with_reducible exact ih2 _ _ _ _ _ _)
   | (with_reducible exact ladderbackref30_Goes.mono _ _ _)
   | (with_reducible exact ladderbackref30_Met.mono _ _)
   | (with_reducible exact ladderbackref30_leads.mono _ _ _ _)
   | (with_reducible exact LeO.refl _)
   | (with_reducible exact LeO.none _)
   | (with_reducible refine LeO.ite ?_ ?_)
   | (with_reducible refine LeO.bind ?_ (fun _ => ?_))
   | exact ih0 _ _ _ _ _
   | exact ih1 _ _ _ _
   | exact ih2 _ _ _ _ _ _
   | exact ladderbackref30_Goes.mono _ _ _
   | exact ladderbackref30_Met.mono _ _
   | exact ladderbackref30_leads.mono _ _ _ _
   | exact LeO.none _
   | refine LeO.ite ?_ ?_
   | refine LeO.bind ?_ (fun _ => ?_)
  ·
   intro y0 y1 y2 y3 y4 y5
   unfold ladderbackref30_Nodes.l2
   repeat' first
   | (with_reducible exact ih0 _ _ _ _ _)
   | (with_reducible exact ih1 _ _ _ _)
   | (with_reducible exact ih2 _ _ _ _ _ _)
   | (with_reducible exact ladderbackref30_Goes.mono _ _ _)
   | (with_reducible exact ladderbackref30_Met.mono _ _)
   | (with_reducible exact ladderbackref30_leads.mono _ _ _ _)
   | (with_reducible exact LeO.refl _)
   | (with_reducible exact LeO.none _)
   | (with_reducible refine LeO.ite ?_ ?_)
   | (with_reducible refine LeO.bind ?_ (fun _ => ?_))
   | exact ih0 _ _ _ _ _
   | exact ih1 _ _ _ _
   | exact ih2 _ _ _ _ _ _
   | exact ladderbackref30_Goes.mono _ _ _
   | exact ladderbackref30_Met.mono _ _
   | exact ladderbackref30_leads.mono _ _ _ _
   | exact LeO.none _
   | refine LeO.ite ?_ ?_
   | refine LeO.bind ?_ (fun _ => ?_)
theorem ladderbackref30_Nodes.mono : ∀ a0 k, LeO (ladderbackref30_Nodes.f k a0) (ladderbackref30_Nodes.f (k + 1) a0) := by
 intro a0 k
 obtain ⟨ih0, ih1, ih2⟩ := ladderbackref30_Nodes.mono_l k
 unfold ladderbackref30_Nodes.f
 repeat' first
   | (with_reducible exact ih0 _ _ _ _ _)
   | (with_reducible exact ih1 _ _ _ _)
   | (with_reducible exact ih2 _ _ _ _ _ _)
   | (with_reducible exact ladderbackref30_Goes.mono _ _ _)
   | (with_reducible exact ladderbackref30_Met.mono _ _)
   | (with_reducible exact ladderbackref30_leads.mono _ _ _ _)
   | (with_reducible exact LeO.refl _)
   | (with_reducible exact LeO.none _)
   | (with_reducible refine LeO.ite ?_ ?_)
   | (with_reducible refine LeO.bind ?_ (fun _ => ?_))
   | exact ih0 _ _ _ _ _
   | exact ih1 _ _ _ _
   | exact ih2 _ _ _ _ _ _
   | exact ladderbackref30_Goes.mono _ _ _
   | exact ladderbackref30_Met.mono _ _
   | exact ladderbackref30_leads.mono _ _ _ _
   | exact LeO.none _
   | refine LeO.ite ?_ ?_
   | refine LeO.bind ?_ (fun _ => ?_)
def ladderbackref30_Nodes.T19 : Bool × List (List Nat × List Nat) := (true, [([], []), ([], []), ([], []), ([], []), ([2, 3], [2, 3]), ([4], [4]), ([5], [5]), ([], []), ([], []), ([], []), ([8, 9], [8, 9]), ([10], [10]), ([7, 11], [7, 11]), ([12], [12]), ([13], [13]), ([6, 14], [6, 14]), ([0, 1, 0, 1, 2, 3, 4, 5, 6, 7, 8, 9, 10, 11, 12, 13, 14, 15], [0, 1]), ([16, 0, 1, 2, 3, 4, 5, 6, 7, 8, 9, 10, 11, 12, 13, 14, 15], [16]), ([17, 15, 15, 0, 1, 2, 3, 4, 5, 6, 7, 8, 9, 10, 11, 12, 13, 14, 15], [15, 17])])
def ladderbackref30_Nodes.B19 : List Nat := [0, 0, 0, 0, 12, 28, 60, 0, 0, 0, 768, 1792, 3968, 8064, 16256, 32764, 65535, 131071, 262143]
theorem ladderbackref30_Nodes.tab19 : rtab .any (opsOf Try.f26 19) = ladderbackref30_Nodes.T19 := by kernel_rfl
theorem ladderbackref30_Nodes.bits19 : waitsOk ladderbackref30_Nodes.T19.2 ladderbackref30_Nodes.B19 = true := by kernel_rfl
set_option maxHeartbeats 8000000 in
set_option maxRecDepth 100000 in
theorem ladderbackref30_Nodes.calls (k : Nat) (A0 : Option Addr) (c0 : Nat) (l0 : List (S44)) (r : List (S39)) (w : World) (hr0 : Kd.C k44 w A0 l0.length l0) (hc0 : l0.length ≤ c0) (h : ladderbackref30_Nodes.f k l0 = some r) :
  Calls Try.prog 26 #[.slice A0 l0.length c0] w fun e w' => ∃ v0_ : Value, e = .returned (v0_) ∧ Kd.S k39 39 w' w.heap.size (fun _ => True) v0_ r ∧ Below w.heap.size w w' := by
 have hu39 := Try.underlying39
 have HR0 := Aside0.mk hr0
 have HC0 := Aside0.mk hc0
 clear hr0 hc0
 have HB := Aside0.mk (Below.refl w.heap.size w)
 have H : ((ladderbackref30_Met.f k l0).bind fun t270 => (if 0 ≤ (wrap64 ((l0.length : Int) + 1)) then (if (wrap64 ((l0.length : Int) + 1) : Int).toNat ≤ 35184372088832 then (ladderbackref30_Nodes.l0 k l0 t270 ([] : List (S39)) (List.replicate (wrap64 ((l0.length : Int) + 1) : Int).toNat 0) 0) else (none)) else (none))) = some r := h
 clear h
 replace H := Option.bind_eq_some_iff.mp H
 obtain ⟨t270, A20, H⟩ := H
 replace H : (if 0 ≤ (wrap64 ((l0.length : Int) + 1)) then (if (wrap64 ((l0.length : Int) + 1) : Int).toNat ≤ 35184372088832 then (ladderbackref30_Nodes.l0 k l0 t270 ([] : List (S39)) (List.replicate (wrap64 ((l0.length : Int) + 1) : Int).toNat 0) 0) else (none)) else (none)) = some r := H
 have A2 := Aside0.mk A20
 clear A20
 obtain ⟨ji3, hji3⟩ : ∃ j_ : Int, (wrap64 ((l0.length : Int) + 1)) = j_ := ⟨_, rfl⟩
 replace H : (if 0 ≤ (ji3) then (if (ji3 : Int).toNat ≤ 35184372088832 then (ladderbackref30_Nodes.l0 k l0 t270 ([] : List (S39)) (List.replicate (ji3 : Int).toNat 0) 0) else (none)) else (none)) = some r := by first | (rw [hji3] at H; exact H) | (simp only [hji3] at H ⊢; exact H)
 (try rw [hji3] at A2)
 have hji3w : (IntKind.i64.wrap ((l0.length : Int) + 1)) = ji3 := (i64_w _).trans hji3
 by_cases c4 : 0 ≤ (ji3)
 ·
  rw [if_pos c4] at H
  have c4b0 := eq_true c4
  have c4b1 : decide (0 ≤ (ji3)) = true := decide_eq_true c4
  clear c4
  by_cases c5 : (ji3 : Int).toNat ≤ 35184372088832
  ·
   rw [if_pos c5] at H
   have c5b0 := eq_true c5
   have c5b1 : decide ((ji3 : Int).toNat ≤ 35184372088832) = true := decide_eq_true c5
   clear c5
   obtain ⟨y273, hy273⟩ : ∃ y_ : List Int, y_ = (List.replicate (ji3 : Int).toNat 0) := ⟨_, rfl⟩
   replace H : (ladderbackref30_Nodes.l0 k l0 t270 ([] : List (S39)) y273 0) = some r := by first | (rw [hy273]; with_reducible exact H) | (have H2_ := (Option.bind_some _ _).symm.trans H; rw [hy273]; with_reducible exact H2_) | (have H2_ := (Option.bind_some _ _).symm.trans H; with_reducible exact H2_) | with_reducible exact H | (rw [hy273]; exact H) | exact H
   have Ny273 := Aside0.mk hy273
   clear hy273
   have H' := Aside0.mk H
   clear H
   go_enter Try.func26, Try.ntmps26
   go_wp2_with (first | ((with_reducible refine gate_callee (f := 21) rfl ?_); refine goesL_ (some 11) rfl rfl Try.func21 (by kernel_rfl) rfl #[.slice A0 l0.length c0] rfl p9_3 ?_; (with_reducible refine (ladderbackref30_Met.calls k _ _ l0 t270 _ ?side1 ?side2 A2.out).mono ?_); (case side1 => repeat (first | exact HR0.out | (with_reducible refine Kd.C_alloc ?_ _) | (with_reducible refine Kd.C_drewN ?_ _) | (with_reducible refine Kd.C_drew ?_))); (case side2 => exact HC0.out); rintro e w6 ⟨v271, rfl, ho0, hb⟩; refine ⟨_, rfl, ?_⟩; have n0_ := Aside0.mk (Kd.R_lower ho0 (below_size p9_1)); have n1_ := Aside0.mk (below_step p9_1 hb); clear HB; have HO272 := n0_; have HB := n1_; clear n0_ n1_; (try clear hb); (try clear hb2); (try clear hk); (try clear hi); (try clear ho0)) | ((with_reducible refine gate_dst (N := 15) rfl ?_); (try (refine gate_guard (by rfl) ?_; dsimp only)); refine Kd.R_make (Kd.int .i64) _ 3 rfl (N := 15) rfl 27 _ _ rfl ji3 rfl rfl Try.underlying27 (.int .i64 0) 8 info3 rfl (by decide) (by omega) 0 (ok := fun _ => True) (okp := fun _ => True) rfl (fun _ hk => hk) trivial (of_decide_eq_true p9_0) (Nat.le_trans (Nat.mul_le_mul_right _ (of_decide_eq_true p9_0 : ji3.toNat ≤ 35184372088832)) (by omega)) (Below.refl _ _) (Nat.le_refl _) ?_; intro v274 w7 ho8 hb hg_ hnew_; clear hg_ hnew_; (first | rw [← Ny273.out] at ho8 | (simp only [Int.reduceToNat] at ho8; rw [← Ny273.out] at ho8)); have n0_ := Aside0.mk (Kd.R_below (by (with_reducible repeat (first | apply Kd.R_alloc | apply Kd.R_drewN | apply Kd.R_drew)); exact HO272.out) hb); have n1_ := Aside0.mk (Kd.R_lower ho8 (below_size p9_1)); have n2_ := Aside0.mk (below_step p9_1 hb); clear HO272; clear HB; have HO272 := n0_; have HO275 := n1_; have HB := n2_; clear n0_ n1_ n2_; clear hb ho8))
   go_loopg [4, 6] k (fun kq v4 v6 w' => ∃ (x4_1 : List (S39)) (x5_1 : List Int) (x6_1 : Int), v6 = .int .i64 x6_1 ∧ Aside0 (ladderbackref30_Nodes.l0 kq l0 t270 x4_1 x5_1 x6_1 = some r) ∧ Aside0 (kq ≤ k) ∧ Aside0 (Kd.R Kd.bool 4 w' w.heap.size (fun _ => True) v271 t270) ∧ Aside0 (Kd.S k39 39 w' w.heap.size (fun k_ => some k_ ≠ (v274 : Value).ownBlock) v4 x4_1) ∧ Aside0 (Kd.R (Kd.int .i64) 3 w' w.heap.size (fun _ => True) v274 x5_1) ∧ Aside0 (Below w.heap.size w w'))
   case atStart => exact ⟨(([] : List (S39))), (y273), (0), p9_6, H', ⟨Nat.le_refl _⟩, ⟨by (with_reducible repeat (first | apply Kd.R_alloc | apply Kd.R_drewN | apply Kd.R_drew)); exact HO272.out⟩, ⟨by first | exact Kd.S_nil _ _ _ _ _ | exact Kd.N_nil _ _ _ _ _ | exact Kd.V_nil _ _ _ _ _ | exact Kd.Q_nil _ _ _ _ _ | exact Kd.R_nil _ _ _ _ _⟩, ⟨by (with_reducible repeat (first | apply Kd.R_alloc | apply Kd.R_drewN | apply Kd.R_drew)); exact HO275.out⟩, ⟨by repeat (first | (with_reducible first | exact HB.out | apply below_alloc | apply pw_below_drewN | apply below_drew1) | exact HB.out)⟩⟩
   case round =>
    clear H'
    (try clear c4); (try clear c4b0); (try clear c4b1); (try clear c5); (try clear c5b0); (try clear c5b1)
    obtain ⟨x4_1, x5_1, x6_1, rfl, HA, HK1, HO_3, HO_4, HO_5, HB⟩ := hrel
    cases gk with
    | zero => exact absurd HA.out (by simp [ladderbackref30_Nodes.l0])
    | succ k1 =>
     have H := HA.out
     clear HA
     simp only [ladderbackref30_Nodes.l0] at H
     by_cases c9 : x6_1 < (t270.length : Int)
     ·
      rw [if_pos c9] at H
      have c9b0 : decide (x6_1 < (t270.length : Int)) = true := decide_eq_true c9
      clear c9
      replace H := Option.bind_eq_some_iff.mp H
      obtain ⟨t276, A100, H⟩ := H
      replace H : (if t276 = true then (if 0 ≤ x6_1 then (if x6_1 < (x5_1.length : Int) then (if x4_1.length < 3518437208883 then (ladderbackref30_Nodes.l0 k1 l0 t270 (x4_1 ++ [(⟨x6_1, wrap64 (x6_1 + 1), ([] : List Int)⟩ : S39)]) (x5_1.set (x6_1 : Int).toNat (x4_1.length : Int)) (wrap64 (x6_1 + 1))) else (none)) else (none)) else (none)) else (if (x4_1.length : Int) > 0 then (if 0 ≤ x6_1 then (if rdOf false t270 x6_1 = true then (if 0 ≤ (wrap64 ((x4_1.length : Int) - 1)) then (if (wrap64 ((x4_1.length : Int) - 1)) < (x4_1.length : Int) then (if ((rd_T39 x4_1 (wrap64 ((x4_1.length : Int) - 1))).f1) = x6_1 then (if 0 ≤ (wrap64 (x6_1 - 1)) then (if (wrap64 (x6_1 - 1)) < (l0.length : Int) then ((ladderbackref30_Far.f ((rd_T44 l0 (wrap64 (x6_1 - 1))).f0)).bind fun t284 => (if t284 = true then (ladderbackref30_Nodes.l0 k1 l0 t270 x4_1 x5_1 (wrap64 (x6_1 + 1))) else (ladderbackref30_Nodes.l0 k1 l0 t270 (x4_1.set ((wrap64 ((x4_1.length : Int) - 1)) : Int).toNat (⟨(rd_T39 x4_1 (wrap64 ((x4_1.length : Int) - 1))).f0, wrap64 (x6_1 + 1), (rd_T39 x4_1 (wrap64 ((x4_1.length : Int) - 1))).f2⟩ : S39)) x5_1 (wrap64 (x6_1 + 1))))) else (none)) else (none)) else (ladderbackref30_Nodes.l0 k1 l0 t270 x4_1 x5_1 (wrap64 (x6_1 + 1)))) else (none)) else (none)) else (ladderbackref30_Nodes.l0 k1 l0 t270 x4_1 x5_1 (wrap64 (x6_1 + 1)))) else (none)) else (ladderbackref30_Nodes.l0 k1 l0 t270 x4_1 x5_1 (wrap64 (x6_1 + 1))))) = some r := H
      have A10 := Aside0.mk A100
      clear A100
      by_cases c11 : t276 = true
      ·
       subst c11
       have H1 : (if 0 ≤ x6_1 then (if x6_1 < (x5_1.length : Int) then (if x4_1.length < 3518437208883 then (ladderbackref30_Nodes.l0 k1 l0 t270 (x4_1 ++ [(⟨x6_1, wrap64 (x6_1 + 1), ([] : List Int)⟩ : S39)]) (x5_1.set (x6_1 : Int).toNat (x4_1.length : Int)) (wrap64 (x6_1 + 1))) else (none)) else (none)) else (none)) = some r := by rw [if_pos rfl] at H; exact H
       clear H
       have H := H1
       clear H1
       by_cases c12 : 0 ≤ x6_1
       ·
        rw [if_pos c12] at H
        have c12b0 : decide (0 ≤ x6_1) = true := decide_eq_true c12
        clear c12
        by_cases c13 : x6_1 < (x5_1.length : Int)
        ·
         rw [if_pos c13] at H
         have c13b0 : decide (x6_1 < (x5_1.length : Int)) = true := decide_eq_true c13
         clear c13
         obtain ⟨y277, hy277⟩ : ∃ y_ : List Int, y_ = (x5_1.set (x6_1 : Int).toNat (x4_1.length : Int)) := ⟨_, rfl⟩
         replace H : (if x4_1.length < 3518437208883 then (ladderbackref30_Nodes.l0 k1 l0 t270 (x4_1 ++ [(⟨x6_1, wrap64 (x6_1 + 1), ([] : List Int)⟩ : S39)]) y277 (wrap64 (x6_1 + 1))) else (none)) = some r := by first | (rw [hy277]; with_reducible exact H) | (have H2_ := (Option.bind_some _ _).symm.trans H; rw [hy277]; with_reducible exact H2_) | (have H2_ := (Option.bind_some _ _).symm.trans H; with_reducible exact H2_) | with_reducible exact H | (rw [hy277]; exact H) | exact H
         have Ny277 := Aside0.mk hy277
         clear hy277
         by_cases c15 : x4_1.length < 3518437208883
         ·
          rw [if_pos c15] at H
          have LMc15 := Aside0.mk c15
          clear c15
          obtain ⟨y278, hy278⟩ : ∃ y_ : List (S39), y_ = (x4_1 ++ [(⟨x6_1, wrap64 (x6_1 + 1), ([] : List Int)⟩ : S39)]) := ⟨_, rfl⟩
          replace H : (ladderbackref30_Nodes.l0 k1 l0 t270 y278 y277 (wrap64 (x6_1 + 1))) = some r := by first | (rw [hy278]; with_reducible exact H) | (have H2_ := (Option.bind_some _ _).symm.trans H; rw [hy278]; with_reducible exact H2_) | (have H2_ := (Option.bind_some _ _).symm.trans H; with_reducible exact H2_) | with_reducible exact H | (rw [hy278]; exact H) | exact H
          have Ny278 := Aside0.mk hy278
          clear hy278
          have H' := Aside0.mk H
          clear H
          obtain ⟨Ao16, co16, eo16⟩ := Kd.R_slice HO_3.out
          subst eo16
          go_wp2_with (first | ((with_reducible refine gate_callee (f := 62) rfl ?_); refine goesL_ (some 25) rfl rfl Try.func62 (by kernel_rfl) rfl #[.slice A0 l0.length c0, .slice Ao16 t270.length co16, .int .i64 x6_1] rfl p9_3 ?_; (with_reducible refine (ladderbackref30_leads.calls k1 _ _ l0 _ _ t270 x6_1 true _ ?side1 ?side2 ?side3 ?side4 A10.out).mono ?_); (case side1 => repeat (first | exact (Kd.C_below HR0.out HB.out) | (with_reducible refine Kd.C_alloc ?_ _) | (with_reducible refine Kd.C_drewN ?_ _) | (with_reducible refine Kd.C_drew ?_))); (case side2 => exact HC0.out); (case side3 => repeat (first | exact (Kd.R_reads' HO_3.out).2.2 | (with_reducible refine Kd.C_alloc ?_ _) | (with_reducible refine Kd.C_drewN ?_ _) | (with_reducible refine Kd.C_drew ?_))); (case side4 => exact (Kd.R_reads' HO_3.out).2.1); rintro e w17 ⟨rfl, hb⟩; refine ⟨_, rfl, ?_⟩; have n0_ := Aside0.mk (Kd.R_below p9_4 hb); have n1_ := Aside0.mk (Kd.S_below p9_5 hb); have n2_ := Aside0.mk (Kd.R_below p9_2 hb); have n3_ := Aside0.mk (below_step p9_1 hb); clear HO_3; clear HO_4; clear HO_5; clear HB; have HO_3 := n0_; have HO_4 := n1_; have HO_5 := n2_; have HB := n3_; clear n0_ n1_ n2_ n3_; (try clear hb); (try clear hb2); (try clear hk); (try clear hi); obtain ⟨Ao18, co18, eo18⟩ := Kd.S_slice HO_4.out; subst eo18; have p14 : 0 ≤ (x6_1 : Int) := of_decide_eq_true p9_0; have q14 : (x6_1 : Int) < ((x5_1.length : Int) : Int) := of_decide_eq_true p9_0; obtain ⟨go14, co14, eo14, gb14, gl14, cl14, HG14⟩ := Kd.R_form HO_5.out (by omega); (first | cases eo14 | (injection eo14 with ea_ en_ ec_; (first | subst ea_ | (injection ea_ with ea_; subst ea_)); subst ec_; clear en_)); have GB14 := Aside0.mk gb14; have GG14 := Aside0.mk HG14; clear gb14 gl14 HG14; obtain ⟨hx14_0, hf14_0⟩ := Kd.R_celln 0 HO_5.out (x6_1 : Int) p14 q14; replace p14 := eq_true p14; replace q14 := eq_true q14; obtain ⟨hy19_, hz19_⟩ := Kd.R_celln 0 HO_5.out (x6_1 : Int) (of_decide_eq_true p9_0) (of_decide_eq_true p9_0); have HP19 := Kd.R_putg HO_5.out (x6_1 : Int) (x4_1.length : Int)) | ((with_reducible refine gate_store (t := 3) (p := 30) rfl ?_); refine store_event (t := 3) (p := 30) (v := ?vo_w20) (w1 := (w17.setCell ⟨go14, (x6_1 : Int).toNat, none⟩ (.int .i64 (x4_1.length : Int)))) ?hg ?ho ?hn ?hr ?_; (case ho => rfl); (case hg => rfl); (case hn => rfl); (case hr => first | (go_simp; done) | (go_simp; rfl)); intro w20 hw; have hg : w17.grownBy w20 (some go14) := (by rw [hw]; exact HP19.2); have hp_ : Kd.R (Kd.int .i64) 3 w20 w.heap.size (fun _ => True) (.slice (some ⟨go14, 0, none⟩) x5_1.length co14) y277 := (by rw [hw, Ny277.out]; exact HP19.1); clear HP19; have n0_ := Aside0.mk (Kd.R_over' (v := (.slice (some ⟨go14, 0, none⟩) x5_1.length co14)) p9_4 (Kd.R_typed HO_5.out) (by decide) hg); have n1_ := Aside0.mk (Kd.S_after (v := (.slice (some ⟨go14, 0, none⟩) x5_1.length co14)) (v1 := (.slice (some ⟨go14, 0, none⟩) x5_1.length co14)) (ok := (fun _ => True)) (by (with_reducible repeat (first | apply Kd.S_alloc | apply Kd.S_drewN | apply Kd.S_drew)); exact Kd.S_mono HO_4.out (fun _ hk => ⟨trivial, hk⟩)) hg (.inl rfl)); have n2_ := Aside0.mk (hp_); have n3_ := Aside0.mk ((by rw [hw]; exact below_set (HB.out) GB14.out : Below w.heap.size w w20)); clear HO_3; clear HO_4; clear HO_5; clear HB; have HO_3 := n0_; have HO_4 := n1_; have HO_5 := n2_; have HB := n3_; clear n0_ n1_ n2_ n3_; clear hg hw hp_) | ((with_reducible refine gate_builtin (b := .append) (xs := #[.tmp 31, .tmp 36]) rfl ?_); (try (refine gate_guard (by rfl) ?_; dsimp only)); at_builtin; refine Kd.S_append k39 (w0 := w) w.heap.size rfl (.tmp 31) (.tmp 36) 36 39 (.agg #[(.int .i64 0), (.int .i64 0), (.slice none 0 0)]) 40 rfl Try.underlying36 info39 rfl (by decide) (by omega) (.slice Ao18 x4_1.length co18) x4_1 (⟨x6_1, wrap64 (x6_1 + 1), ([] : List Int)⟩ : S39) [.int .i64 x6_1, .int .i64 (wrap64 (x6_1 + 1)), .slice none 0 0] (fun k_ => some k_ ≠ (.slice (some ⟨go14, 0, none⟩) x5_1.length co14 : Value).ownBlock) (fun _ => False) rfl rfl ?aP (fun k_ hk_ => hk_.elim) ?aF ?aO ?aB ?aS ?aL ?_; (case aP => exact k39_mkM _ _ _ (⟨x6_1, wrap64 (x6_1 + 1), ([] : List Int)⟩ : S39) (Kd.R_nil _ _ _ _ _)); (case aB => exact p9_1); (case aF => exact (fun k_ hk => Kd.fresh' (Kd.R_lt p9_2) k_ hk)); (case aO => exact (by (with_reducible repeat (first | apply Kd.S_alloc | apply Kd.S_drewN | apply Kd.S_drew)); exact Kd.S_mono HO_4.out (fun k_ hk => ⟨hk.2, fun e_ => e_⟩))); (case aS => exact (below_size p9_1)); (case aL => have := LMc15.out; omega); intro v279 w21 ho hb hg hat; rw [← Ny278.out] at ho; have n0_ := Aside0.mk (Kd.R_over' p9_4 (Kd.S_typed p9_5) (by decide) hg); have n1_ := Aside0.mk (Kd.R_over' p9_2 (Kd.S_typed p9_5) (by decide) hg); have n2_ := Aside0.mk (hb); have n3_ := Aside0.mk (ho); clear HO_3; clear HO_5; clear HB; clear HO_4; have HO_3 := n0_; have HO_5 := n1_; have HB := n2_; have HO280 := n3_; clear n0_ n1_ n2_ n3_; clear ho hb hg hat))
          go_roundg k1
          case measure => have := HK1.out; omega
          case rel => exact ⟨(y278), (y277), (wrap64 (x6_1 + 1)), p9_6, H', ⟨by have := HK1.out; omega⟩, ⟨by (with_reducible repeat (first | apply Kd.R_alloc | apply Kd.R_drewN | apply Kd.R_drew)); exact HO_3.out⟩, ⟨by (with_reducible repeat (first | apply Kd.S_alloc | apply Kd.S_drewN | apply Kd.S_drew)); exact HO280.out⟩, ⟨by (with_reducible repeat (first | apply Kd.R_alloc | apply Kd.R_drewN | apply Kd.R_drew)); exact HO_5.out⟩, ⟨by repeat (first | (with_reducible first | exact HB.out | apply below_alloc | apply pw_below_drewN | apply below_drew1) | exact HB.out)⟩⟩
         ·
          rw [if_neg c15] at H
          exact absurd H (by simp)
        ·
         rw [if_neg c13] at H
         exact absurd H (by simp)
       ·
        rw [if_neg c12] at H
        exact absurd H (by simp)
      ·
       replace c11 := Bool.eq_false_iff.mpr c11
       subst c11
       have H1 : (if (x4_1.length : Int) > 0 then (if 0 ≤ x6_1 then (if rdOf false t270 x6_1 = true then (if 0 ≤ (wrap64 ((x4_1.length : Int) - 1)) then (if (wrap64 ((x4_1.length : Int) - 1)) < (x4_1.length : Int) then (if ((rd_T39 x4_1 (wrap64 ((x4_1.length : Int) - 1))).f1) = x6_1 then (if 0 ≤ (wrap64 (x6_1 - 1)) then (if (wrap64 (x6_1 - 1)) < (l0.length : Int) then ((ladderbackref30_Far.f ((rd_T44 l0 (wrap64 (x6_1 - 1))).f0)).bind fun t284 => (if t284 = true then (ladderbackref30_Nodes.l0 k1 l0 t270 x4_1 x5_1 (wrap64 (x6_1 + 1))) else (ladderbackref30_Nodes.l0 k1 l0 t270 (x4_1.set ((wrap64 ((x4_1.length : Int) - 1)) : Int).toNat (⟨(rd_T39 x4_1 (wrap64 ((x4_1.length : Int) - 1))).f0, wrap64 (x6_1 + 1), (rd_T39 x4_1 (wrap64 ((x4_1.length : Int) - 1))).f2⟩ : S39)) x5_1 (wrap64 (x6_1 + 1))))) else (none)) else (none)) else (ladderbackref30_Nodes.l0 k1 l0 t270 x4_1 x5_1 (wrap64 (x6_1 + 1)))) else (none)) else (none)) else (ladderbackref30_Nodes.l0 k1 l0 t270 x4_1 x5_1 (wrap64 (x6_1 + 1)))) else (none)) else (ladderbackref30_Nodes.l0 k1 l0 t270 x4_1 x5_1 (wrap64 (x6_1 + 1)))) = some r := by rw [if_neg (show ¬ (false = true) by decide)] at H; exact H
       clear H
       have H := H1
       clear H1
       by_cases c22 : (x4_1.length : Int) > 0
       ·
        rw [if_pos c22] at H
        have c22b0 : decide (0 < (x4_1.length : Int)) = true := decide_eq_true c22
        have c22b1 : decide (0 < x4_1.length) = true := decide_eq_true (by omega)
        clear c22
        by_cases c23 : 0 ≤ x6_1
        ·
         rw [if_pos c23] at H
         have c23b0 : decide (0 ≤ x6_1) = true := decide_eq_true c23
         clear c23
         obtain ⟨bq24, hbq24⟩ : ∃ b_ : Bool, b_ = (rdOf false t270 x6_1) := ⟨_, rfl⟩
         replace H : (if bq24 = true then (if 0 ≤ (wrap64 ((x4_1.length : Int) - 1)) then (if (wrap64 ((x4_1.length : Int) - 1)) < (x4_1.length : Int) then (if ((rd_T39 x4_1 (wrap64 ((x4_1.length : Int) - 1))).f1) = x6_1 then (if 0 ≤ (wrap64 (x6_1 - 1)) then (if (wrap64 (x6_1 - 1)) < (l0.length : Int) then ((ladderbackref30_Far.f ((rd_T44 l0 (wrap64 (x6_1 - 1))).f0)).bind fun t284 => (if t284 = true then (ladderbackref30_Nodes.l0 k1 l0 t270 x4_1 x5_1 (wrap64 (x6_1 + 1))) else (ladderbackref30_Nodes.l0 k1 l0 t270 (x4_1.set ((wrap64 ((x4_1.length : Int) - 1)) : Int).toNat (⟨(rd_T39 x4_1 (wrap64 ((x4_1.length : Int) - 1))).f0, wrap64 (x6_1 + 1), (rd_T39 x4_1 (wrap64 ((x4_1.length : Int) - 1))).f2⟩ : S39)) x5_1 (wrap64 (x6_1 + 1))))) else (none)) else (none)) else (ladderbackref30_Nodes.l0 k1 l0 t270 x4_1 x5_1 (wrap64 (x6_1 + 1)))) else (none)) else (none)) else (ladderbackref30_Nodes.l0 k1 l0 t270 x4_1 x5_1 (wrap64 (x6_1 + 1)))) = some r := by rw [← hbq24] at H; exact H
         (try rw [← hbq24] at A10)
         have Nbq24 := Aside0.mk hbq24
         clear hbq24
         (try rw [← Nbq24.out])
         by_cases c25 : bq24 = true
         ·
          subst c25
          have H1 : (if 0 ≤ (wrap64 ((x4_1.length : Int) - 1)) then (if (wrap64 ((x4_1.length : Int) - 1)) < (x4_1.length : Int) then (if ((rd_T39 x4_1 (wrap64 ((x4_1.length : Int) - 1))).f1) = x6_1 then (if 0 ≤ (wrap64 (x6_1 - 1)) then (if (wrap64 (x6_1 - 1)) < (l0.length : Int) then ((ladderbackref30_Far.f ((rd_T44 l0 (wrap64 (x6_1 - 1))).f0)).bind fun t284 => (if t284 = true then (ladderbackref30_Nodes.l0 k1 l0 t270 x4_1 x5_1 (wrap64 (x6_1 + 1))) else (ladderbackref30_Nodes.l0 k1 l0 t270 (x4_1.set ((wrap64 ((x4_1.length : Int) - 1)) : Int).toNat (⟨(rd_T39 x4_1 (wrap64 ((x4_1.length : Int) - 1))).f0, wrap64 (x6_1 + 1), (rd_T39 x4_1 (wrap64 ((x4_1.length : Int) - 1))).f2⟩ : S39)) x5_1 (wrap64 (x6_1 + 1))))) else (none)) else (none)) else (ladderbackref30_Nodes.l0 k1 l0 t270 x4_1 x5_1 (wrap64 (x6_1 + 1)))) else (none)) else (none)) = some r := by rw [if_pos rfl] at H; exact H
          clear H
          have H := H1
          clear H1
          obtain ⟨ji26, hji26⟩ : ∃ j_ : Int, (wrap64 ((x4_1.length : Int) - 1)) = j_ := ⟨_, rfl⟩
          replace H : (if 0 ≤ (ji26) then (if (ji26) < (x4_1.length : Int) then (if ((rd_T39 x4_1 (ji26)).f1) = x6_1 then (if 0 ≤ (wrap64 (x6_1 - 1)) then (if (wrap64 (x6_1 - 1)) < (l0.length : Int) then ((ladderbackref30_Far.f ((rd_T44 l0 (wrap64 (x6_1 - 1))).f0)).bind fun t284 => (if t284 = true then (ladderbackref30_Nodes.l0 k1 l0 t270 x4_1 x5_1 (wrap64 (x6_1 + 1))) else (ladderbackref30_Nodes.l0 k1 l0 t270 (x4_1.set ((ji26) : Int).toNat (⟨(rd_T39 x4_1 (ji26)).f0, wrap64 (x6_1 + 1), (rd_T39 x4_1 (ji26)).f2⟩ : S39)) x5_1 (wrap64 (x6_1 + 1))))) else (none)) else (none)) else (ladderbackref30_Nodes.l0 k1 l0 t270 x4_1 x5_1 (wrap64 (x6_1 + 1)))) else (none)) else (none)) = some r := by first | (rw [hji26] at H; exact H) | (simp only [hji26] at H ⊢; exact H)
          (try rw [hji26] at A10)
          have hji26w : (IntKind.i64.wrap ((x4_1.length : Int) - 1)) = ji26 := (i64_w _).trans hji26
          by_cases c27 : 0 ≤ (ji26)
          ·
           rw [if_pos c27] at H
           have c27b0 : decide (0 ≤ (ji26)) = true := decide_eq_true c27
           clear c27
           by_cases c28 : (ji26) < (x4_1.length : Int)
           ·
            rw [if_pos c28] at H
            have c28b0 : decide ((ji26) < (x4_1.length : Int)) = true := decide_eq_true c28
            clear c28
            by_cases c29 : ((rd_T39 x4_1 (ji26)).f1) = x6_1
            ·
             rw [if_pos c29] at H
             have c29b0 : (((rd_T39 x4_1 (ji26)).f1) == x6_1) = true := beq_iff_eq.mpr c29
             have c29b1 : (((rd_T39 x4_1 (ji26)).f1) != x6_1) = false := bne_eq_false_iff_eq.mpr c29
             clear c29
             obtain ⟨ji30, hji30⟩ : ∃ j_ : Int, (wrap64 (x6_1 - 1)) = j_ := ⟨_, rfl⟩
             replace H : (if 0 ≤ (ji30) then (if (ji30) < (l0.length : Int) then ((ladderbackref30_Far.f ((rd_T44 l0 (ji30)).f0)).bind fun t284 => (if t284 = true then (ladderbackref30_Nodes.l0 k1 l0 t270 x4_1 x5_1 (wrap64 (x6_1 + 1))) else (ladderbackref30_Nodes.l0 k1 l0 t270 (x4_1.set ((ji26) : Int).toNat (⟨(rd_T39 x4_1 (ji26)).f0, wrap64 (x6_1 + 1), (rd_T39 x4_1 (ji26)).f2⟩ : S39)) x5_1 (wrap64 (x6_1 + 1))))) else (none)) else (none)) = some r := by first | (rw [hji30] at H; exact H) | (simp only [hji30] at H ⊢; exact H)
             (try rw [hji30] at A10)
             have hji30w : (IntKind.i64.wrap (x6_1 - 1)) = ji30 := (i64_w _).trans hji30
             by_cases c31 : 0 ≤ (ji30)
             ·
              rw [if_pos c31] at H
              have c31b0 : decide (0 ≤ (ji30)) = true := decide_eq_true c31
              clear c31
              by_cases c32 : (ji30) < (l0.length : Int)
              ·
               rw [if_pos c32] at H
               have c32b0 : decide ((ji30) < (l0.length : Int)) = true := decide_eq_true c32
               clear c32
               replace H := Option.bind_eq_some_iff.mp H
               obtain ⟨t284, A330, H⟩ := H
               replace H : (if t284 = true then (ladderbackref30_Nodes.l0 k1 l0 t270 x4_1 x5_1 (wrap64 (x6_1 + 1))) else (ladderbackref30_Nodes.l0 k1 l0 t270 (x4_1.set ((ji26) : Int).toNat (⟨(rd_T39 x4_1 (ji26)).f0, wrap64 (x6_1 + 1), (rd_T39 x4_1 (ji26)).f2⟩ : S39)) x5_1 (wrap64 (x6_1 + 1)))) = some r := H
               have A33 := Aside0.mk A330
               clear A330
               by_cases c34 : t284 = true
               ·
                subst c34
                have H1 : (ladderbackref30_Nodes.l0 k1 l0 t270 x4_1 x5_1 (wrap64 (x6_1 + 1))) = some r := by rw [if_pos rfl] at H; exact H
                clear H
                have H := H1
                clear H1
                have H' := Aside0.mk H
                clear H
                obtain ⟨Ao35, co35, eo35⟩ := Kd.R_slice HO_3.out
                subst eo35
                go_wp2_with (first | ((with_reducible refine gate_callee (f := 62) rfl ?_); refine goesL_ (some 25) rfl rfl Try.func62 (by kernel_rfl) rfl #[.slice A0 l0.length c0, .slice Ao35 t270.length co35, .int .i64 x6_1] rfl p9_3 ?_; (with_reducible refine (ladderbackref30_leads.calls k1 _ _ l0 _ _ t270 x6_1 false _ ?side1 ?side2 ?side3 ?side4 A10.out).mono ?_); (case side1 => repeat (first | exact (Kd.C_below HR0.out HB.out) | (with_reducible refine Kd.C_alloc ?_ _) | (with_reducible refine Kd.C_drewN ?_ _) | (with_reducible refine Kd.C_drew ?_))); (case side2 => exact HC0.out); (case side3 => repeat (first | exact (Kd.R_reads' HO_3.out).2.2 | (with_reducible refine Kd.C_alloc ?_ _) | (with_reducible refine Kd.C_drewN ?_ _) | (with_reducible refine Kd.C_drew ?_))); (case side4 => exact (Kd.R_reads' HO_3.out).2.1); rintro e w36 ⟨rfl, hb⟩; refine ⟨_, rfl, ?_⟩; have n0_ := Aside0.mk (Kd.R_below p9_4 hb); have n1_ := Aside0.mk (Kd.S_below p9_5 hb); have n2_ := Aside0.mk (Kd.R_below p9_2 hb); have n3_ := Aside0.mk (below_step p9_1 hb); clear HO_3; clear HO_4; clear HO_5; clear HB; have HO_3 := n0_; have HO_4 := n1_; have HO_5 := n2_; have HB := n3_; clear n0_ n1_ n2_ n3_; (try clear hb); (try clear hb2); (try clear hk); (try clear hi); obtain ⟨Ao37, co37, eo37⟩ := Kd.S_slice HO_4.out; subst eo37; have p281 : 0 ≤ (x6_1 : Int) := of_decide_eq_true p9_0; have q281 : x6_1 < (t270.length : Int) := of_decide_eq_true p9_0; obtain ⟨ad281, e281, hx281_0⟩ := Kd.at_bool (Kd.R_reads' HO_3.out).2.2 x6_1 p281 q281; (try rw [← Nbq24.out] at hx281_0); cases e281; replace p281 := eq_true p281; replace q281 := eq_true q281; have p282 : 0 ≤ ((ji26) : Int) := of_decide_eq_true p9_0; have q282 : (ji26) < (x4_1.length : Int) := of_decide_eq_true p9_0; obtain ⟨ad282, A282_2, c282_2, e282, hx282_0, hx282_1, hx282_2, hl282_2, hi282_2⟩ := at_T39 (Kd.S_reads' HO_4.out).2.2 (ji26) p282 q282; cases e282; obtain ⟨ce282, hce282, hMe282, hcc282⟩ := Kd.S_get HO_4.out z39 (ji26) p282 p9_7; obtain ⟨ve282_2, rfl, ge282_2⟩ := k39_openM hMe282; have hv282_2 := hcc282 2 _ rfl; rw [add_field _ _ 2 (by omega)] at hv282_2; replace hv282_2 := Option.some.inj (hv282_2.symm.trans hx282_2); rw [hv282_2] at ge282_2; have HL282_2 := Aside0.mk (show Kd.R (Kd.int .i64) 3 _ _ _ _ ((rd_T39 x4_1 (ji26)).f2) from ge282_2); clear hv282_2 ge282_2; have HX282_2 := Aside0.mk hx282_2; clear hcc282 hce282; have HR282_2 := Aside0.mk hi282_2; have HC282_2 := Aside0.mk hl282_2; clear hi282_2 hl282_2; replace p282 := eq_true p282; replace q282 := eq_true q282; have p283 : 0 ≤ ((ji30) : Int) := of_decide_eq_true p9_0; have q283 : (ji30) < (l0.length : Int) := of_decide_eq_true p9_0; obtain ⟨ad283, e283, hx283_0, hx283_1, hx283_2⟩ := at_T44 HR0.out (ji30) p283 q283; cases e283; replace hx283_0 := (HB.out.cell (World.block_lt_of_cell? w _ hx283_0)).trans hx283_0; replace hx283_1 := (HB.out.cell (World.block_lt_of_cell? w _ hx283_1)).trans hx283_1; replace hx283_2 := (HB.out.cell (World.block_lt_of_cell? w _ hx283_2)).trans hx283_2; replace p283 := eq_true p283; replace q283 := eq_true q283) | (go_at_call 63; (with_reducible refine (ladderbackref30_Far.calls ((rd_T44 l0 (ji30)).f0) true _ A33.out).mono ?_); rintro e w' ⟨rfl, ⟨nd, rfl⟩⟩))
                go_roundg k1
                case measure => have := HK1.out; omega
                case rel => exact ⟨(x4_1), (x5_1), (wrap64 (x6_1 + 1)), p9_6, H', ⟨by have := HK1.out; omega⟩, ⟨by (with_reducible repeat (first | apply Kd.R_alloc | apply Kd.R_drewN | apply Kd.R_drew)); exact HO_3.out⟩, ⟨by (with_reducible repeat (first | apply Kd.S_alloc | apply Kd.S_drewN | apply Kd.S_drew)); exact HO_4.out⟩, ⟨by (with_reducible repeat (first | apply Kd.R_alloc | apply Kd.R_drewN | apply Kd.R_drew)); exact HO_5.out⟩, ⟨by repeat (first | (with_reducible first | exact HB.out | apply below_alloc | apply pw_below_drewN | apply below_drew1) | exact HB.out)⟩⟩
               ·
                replace c34 := Bool.eq_false_iff.mpr c34
                subst c34
                have H1 : (ladderbackref30_Nodes.l0 k1 l0 t270 (x4_1.set ((ji26) : Int).toNat (⟨(rd_T39 x4_1 (ji26)).f0, wrap64 (x6_1 + 1), (rd_T39 x4_1 (ji26)).f2⟩ : S39)) x5_1 (wrap64 (x6_1 + 1))) = some r := by rw [if_neg (show ¬ (false = true) by decide)] at H; exact H
                clear H
                have H := H1
                clear H1
                obtain ⟨y285, hy285⟩ : ∃ y_ : List (S39), y_ = (x4_1.set ((ji26) : Int).toNat (⟨(rd_T39 x4_1 (ji26)).f0, wrap64 (x6_1 + 1), (rd_T39 x4_1 (ji26)).f2⟩ : S39)) := ⟨_, rfl⟩
                replace H : (ladderbackref30_Nodes.l0 k1 l0 t270 y285 x5_1 (wrap64 (x6_1 + 1))) = some r := by first | (rw [hy285]; with_reducible exact H) | (have H2_ := (Option.bind_some _ _).symm.trans H; rw [hy285]; with_reducible exact H2_) | (have H2_ := (Option.bind_some _ _).symm.trans H; with_reducible exact H2_) | with_reducible exact H | (rw [hy285]; exact H) | exact H
                have Ny285 := Aside0.mk hy285
                clear hy285
                have H' := Aside0.mk H
                clear H
                obtain ⟨Ao39, co39, eo39⟩ := Kd.R_slice HO_3.out
                subst eo39
                go_wp2_with (first | ((with_reducible refine gate_callee (f := 62) rfl ?_); refine goesL_ (some 25) rfl rfl Try.func62 (by kernel_rfl) rfl #[.slice A0 l0.length c0, .slice Ao39 t270.length co39, .int .i64 x6_1] rfl p9_3 ?_; (with_reducible refine (ladderbackref30_leads.calls k1 _ _ l0 _ _ t270 x6_1 false _ ?side1 ?side2 ?side3 ?side4 A10.out).mono ?_); (case side1 => repeat (first | exact (Kd.C_below HR0.out HB.out) | (with_reducible refine Kd.C_alloc ?_ _) | (with_reducible refine Kd.C_drewN ?_ _) | (with_reducible refine Kd.C_drew ?_))); (case side2 => exact HC0.out); (case side3 => repeat (first | exact (Kd.R_reads' HO_3.out).2.2 | (with_reducible refine Kd.C_alloc ?_ _) | (with_reducible refine Kd.C_drewN ?_ _) | (with_reducible refine Kd.C_drew ?_))); (case side4 => exact (Kd.R_reads' HO_3.out).2.1); rintro e w40 ⟨rfl, hb⟩; refine ⟨_, rfl, ?_⟩; have n0_ := Aside0.mk (Kd.R_below p9_4 hb); have n1_ := Aside0.mk (Kd.S_below p9_5 hb); have n2_ := Aside0.mk (Kd.R_below p9_2 hb); have n3_ := Aside0.mk (below_step p9_1 hb); clear HO_3; clear HO_4; clear HO_5; clear HB; have HO_3 := n0_; have HO_4 := n1_; have HO_5 := n2_; have HB := n3_; clear n0_ n1_ n2_ n3_; (try clear hb); (try clear hb2); (try clear hk); (try clear hi); obtain ⟨Ao41, co41, eo41⟩ := Kd.S_slice HO_4.out; subst eo41; have p281 : 0 ≤ (x6_1 : Int) := of_decide_eq_true p9_0; have q281 : x6_1 < (t270.length : Int) := of_decide_eq_true p9_0; obtain ⟨ad281, e281, hx281_0⟩ := Kd.at_bool (Kd.R_reads' HO_3.out).2.2 x6_1 p281 q281; (try rw [← Nbq24.out] at hx281_0); cases e281; replace p281 := eq_true p281; replace q281 := eq_true q281; have p282 : 0 ≤ ((ji26) : Int) := of_decide_eq_true p9_0; have q282 : (ji26) < (x4_1.length : Int) := of_decide_eq_true p9_0; obtain ⟨ad282, A282_2, c282_2, e282, hx282_0, hx282_1, hx282_2, hl282_2, hi282_2⟩ := at_T39 (Kd.S_reads' HO_4.out).2.2 (ji26) p282 q282; cases e282; obtain ⟨ce282, hce282, hMe282, hcc282⟩ := Kd.S_get HO_4.out z39 (ji26) p282 p9_7; obtain ⟨ve282_2, rfl, ge282_2⟩ := k39_openM hMe282; have hv282_2 := hcc282 2 _ rfl; rw [add_field _ _ 2 (by omega)] at hv282_2; replace hv282_2 := Option.some.inj (hv282_2.symm.trans hx282_2); rw [hv282_2] at ge282_2; have HL282_2 := Aside0.mk (show Kd.R (Kd.int .i64) 3 _ _ _ _ ((rd_T39 x4_1 (ji26)).f2) from ge282_2); clear hv282_2 ge282_2; have HX282_2 := Aside0.mk hx282_2; clear hcc282 hce282; have HR282_2 := Aside0.mk hi282_2; have HC282_2 := Aside0.mk hl282_2; clear hi282_2 hl282_2; replace p282 := eq_true p282; replace q282 := eq_true q282; have p283 : 0 ≤ ((ji30) : Int) := of_decide_eq_true p9_0; have q283 : (ji30) < (l0.length : Int) := of_decide_eq_true p9_0; obtain ⟨ad283, e283, hx283_0, hx283_1, hx283_2⟩ := at_T44 HR0.out (ji30) p283 q283; cases e283; replace hx283_0 := (HB.out.cell (World.block_lt_of_cell? w _ hx283_0)).trans hx283_0; replace hx283_1 := (HB.out.cell (World.block_lt_of_cell? w _ hx283_1)).trans hx283_1; replace hx283_2 := (HB.out.cell (World.block_lt_of_cell? w _ hx283_2)).trans hx283_2; replace p283 := eq_true p283; replace q283 := eq_true q283) | (go_at_call 63; (with_reducible refine (ladderbackref30_Far.calls ((rd_T44 l0 (ji30)).f0) false _ A33.out).mono ?_); rintro e w' ⟨rfl, ⟨nd, rfl⟩⟩; (try (rw [drewN_self w40]; generalize hq_ : World.drewN w40 _ = w40; have n0_ : Aside0 (Kd.R (Kd.int .i64) 3 w40 w.heap.size (fun k_ => some k_ ≠ (.slice (some ad282) x4_1.length co41 : Value).ownBlock ∧ some k_ ≠ (v274 : Value).ownBlock) (.slice A282_2 ((rd_T39 x4_1 (ji26)).f2).length c282_2) ((rd_T39 x4_1 (ji26)).f2)) := ⟨by rw [← hq_]; exact (by (with_reducible repeat (first | apply Kd.R_alloc | apply Kd.R_drewN | apply Kd.R_drew)); exact Kd.R_mono HL282_2.out (fun _ hk => ⟨hk.2, hk.1⟩))⟩; have n1_ : Aside0 (Kd.R Kd.bool 4 w40 w.heap.size (fun _ => True) (.slice (some ad281) t270.length co39) t270) := ⟨by rw [← hq_]; exact p9_4⟩; have n2_ : Aside0 (Kd.S k39 39 w40 w.heap.size (fun k_ => some k_ ≠ (v274 : Value).ownBlock) (.slice (some ad282) x4_1.length co41) x4_1) := ⟨by rw [← hq_]; exact p9_5⟩; have n3_ : Aside0 (Kd.R (Kd.int .i64) 3 w40 w.heap.size (fun _ => True) v274 x5_1) := ⟨by rw [← hq_]; exact p9_2⟩; have n4_ : Aside0 (Below w.heap.size w w40) := ⟨by rw [← hq_]; exact p9_1⟩; have n5_ : Aside0 (Kd.C (Kd.int .i64) w40 A282_2 ((rd_T39 x4_1 (ji26)).f2).length ((rd_T39 x4_1 (ji26)).f2)) := ⟨by rw [← hq_]; exact (by repeat (first | (with_reducible exact HR282_2.out) | (with_reducible refine Kd.C_alloc ?_ _) | (with_reducible refine Kd.C_drewN ?_ _) | (with_reducible refine Kd.C_drew ?_) | exact HR282_2.out))⟩; clear HL282_2 HO_3 HO_4 HO_5 HB HR282_2 hq_; have HL282_2 := n0_; have HO_3 := n1_; have HO_4 := n2_; have HO_5 := n3_; have HB := n4_; have HR282_2 := n5_; clear n0_ n1_ n2_ n3_ n4_ n5_)); have p38 : 0 ≤ ((ji26) : Int) := of_decide_eq_true p9_0; have q38 : ((ji26) : Int) < ((x4_1.length : Int) : Int) := of_decide_eq_true p9_0; obtain ⟨go38, co38, eo38, gb38, gl38, cl38, HG38⟩ := Kd.S_form HO_4.out (by omega); (first | cases eo38 | (injection eo38 with ea_ en_ ec_; (first | subst ea_ | (injection ea_ with ea_; subst ea_)); subst ec_; clear en_)); have GB38 := Aside0.mk gb38; have GG38 := Aside0.mk HG38; clear gb38 gl38 HG38; (first | simp only [add_plain] at hx282_0 | skip); (first | simp only [add_plain] at hx282_1 | skip); (first | simp only [add_plain] at hx282_2 | skip); obtain ⟨_, ce38, hcl38, hM38, hcc38, hfr38, _, _⟩ := Kd.S_elem HO_4.out z39 ((ji26) : Int) p38 q38; obtain ⟨ve38_2, rfl, ge38_2⟩ := k39_openM hM38; have hx38_0 : w40.cell? ⟨go38, ((ji26) : Int).toNat * 3, none⟩ = some (.int .i64 ((rd_T39 x4_1 (ji26)).f0)) := hcc38 0 _ rfl; have hx38_1 : w40.cell? ⟨go38, ((ji26) : Int).toNat * 3 + 1, none⟩ = some (.int .i64 ((rd_T39 x4_1 (ji26)).f1)) := hcc38 1 _ rfl; have hx38_2 : w40.cell? ⟨go38, ((ji26) : Int).toNat * 3 + 2, none⟩ = some (ve38_2) := hcc38 2 _ rfl; have hf38_0 : w40.frozen? ⟨go38, ((ji26) : Int).toNat * 3, none⟩ = false := hfr38 0; have hf38_1 : w40.frozen? ⟨go38, ((ji26) : Int).toNat * 3 + 1, none⟩ = false := hfr38 1; have hf38_2 : w40.frozen? ⟨go38, ((ji26) : Int).toNat * 3 + 2, none⟩ = false := hfr38 2; clear hcl38 hcc38 hfr38 hM38; replace p38 := eq_true p38; replace q38 := eq_true q38; have HX42 := Aside0.mk (show Kd.S k39 39 w40 w.heap.size (fun k_ => ((fun k_ => some k_ ≠ (v274 : Value).ownBlock)) k_ ∧ ¬ ((fun _ => False)) k_) (.slice (some ⟨go38, 0, none⟩) x4_1.length co41) x4_1 from (by (with_reducible repeat (first | apply Kd.S_alloc | apply Kd.S_drewN | apply Kd.S_drew)); exact Kd.S_mono HO_4.out (fun k_ hk => ⟨hk, fun e_ => e_⟩))); obtain ⟨oki42, ce42, hcl42, hM42, hcc42, hfr42, hoki42, hH42⟩ := Kd.S_elem HX42.out z39 ((ji26) : Int) (of_decide_eq_true p9_0) (by have h_ : ((ji26) : Int) < ((x4_1.length : Int) : Int) := of_decide_eq_true p9_0; first | exact h_ | (have e_ := (Kd.S_reads' HO_4.out).1; omega) | simpa using h_); obtain ⟨ve42_2, rfl, ge42_2⟩ := k39_openM hM42; have HP42 := Kd.S_seg hH42 (of_decide_eq_true p9_0) (by have h_ : ((ji26) : Int) < ((x4_1.length : Int) : Int) := of_decide_eq_true p9_0; first | exact h_ | (have e_ := (Kd.S_reads' HO_4.out).1; omega) | simpa using h_) (seg := [.int .i64 (wrap64 (x6_1 + 1))]) (j := 1) (show 2 ≤ 3 from by decide) (x' := (⟨(rd_T39 x4_1 (ji26)).f0, wrap64 (x6_1 + 1), (rd_T39 x4_1 (ji26)).f2⟩ : S39)) (k39_mkM _ _ _ (⟨(rd_T39 x4_1 (ji26)).f0, wrap64 (x6_1 + 1), (rd_T39 x4_1 (ji26)).f2⟩ : S39) (Kd.R_mono ge42_2 (fun _ h_ => Or.inl h_))) (fun _ hk => hk) (fun k_ hk_ => hk_.elim); have hx42_1 := hcc42 1 _ rfl; (try simp only [show (k39).sz = 3 from rfl, Nat.mul_one, Nat.add_zero] at hx42_1); have hf42_1 := hfr42 1; (try simp only [show (k39).sz = 3 from rfl, Nat.mul_one, Nat.add_zero] at hf42_1); clear hcl42 hcc42 hfr42 hM42 hoki42 hH42) | ((with_reducible refine gate_store (t := 3) (p := 75) rfl ?_); refine store_event (t := 3) (p := 75) (v := ?vo_w43) (w1 := (w40.setCell ⟨go38, ((ji26) : Int).toNat * 3 + 1, none⟩ (.int .i64 (wrap64 (x6_1 + 1))))) ?hg ?ho ?hn ?hr ?_; (case ho => rfl); (case hg => rfl); (case hn => rfl); (case hr => first | (go_simp; done) | (go_simp; rfl)); intro w43 hw; have hg : w40.grownBy w43 (some go38) := (by rw [hw]; exact HP42.2); have hp_ : Kd.S k39 39 w43 w.heap.size (fun k_ => some k_ ≠ (v274 : Value).ownBlock) (.slice (some ⟨go38, 0, none⟩) x4_1.length co41) y285 := (by rw [hw, Ny285.out]; exact HP42.1); clear HP42; have n0_ := Aside0.mk (Kd.R_over' (v := (.slice (some ⟨go38, 0, none⟩) x4_1.length co41)) p9_4 (Kd.S_typed HO_4.out) (by decide) hg); have n1_ := Aside0.mk (hp_); have n2_ := Aside0.mk (Kd.R_over' (v := (.slice (some ⟨go38, 0, none⟩) x4_1.length co41)) p9_2 (Kd.S_typed HO_4.out) (by decide) hg); have n4_ := Aside0.mk ((by rw [hw]; exact below_set (HB.out) GB38.out : Below w.heap.size w w43)); clear HO_3; clear HO_4; clear HO_5; clear HL282_2; clear HB; have HO_3 := n0_; have HO_4 := n1_; have HO_5 := n2_; have HB := n4_; clear n0_ n1_ n2_ n4_; clear hg hw hp_))
                go_roundg k1
                case measure => have := HK1.out; omega
                case rel => exact ⟨(y285), (x5_1), (wrap64 (x6_1 + 1)), p9_6, H', ⟨by have := HK1.out; omega⟩, ⟨by (with_reducible repeat (first | apply Kd.R_alloc | apply Kd.R_drewN | apply Kd.R_drew)); exact HO_3.out⟩, ⟨by (with_reducible repeat (first | apply Kd.S_alloc | apply Kd.S_drewN | apply Kd.S_drew)); exact HO_4.out⟩, ⟨by (with_reducible repeat (first | apply Kd.R_alloc | apply Kd.R_drewN | apply Kd.R_drew)); exact HO_5.out⟩, ⟨by repeat (first | (with_reducible first | exact HB.out | apply below_alloc | apply pw_below_drewN | apply below_drew1) | exact HB.out)⟩⟩
              ·
               rw [if_neg c32] at H
               exact absurd H (by simp)
             ·
              rw [if_neg c31] at H
              exact absurd H (by simp)
            ·
             rw [if_neg c29] at H
             have c29b0 : (((rd_T39 x4_1 (ji26)).f1) == x6_1) = false := beq_eq_false_iff_ne.mpr c29
             have c29b1 : (((rd_T39 x4_1 (ji26)).f1) != x6_1) = true := bne_iff_ne.mpr c29
             have H' := Aside0.mk H
             clear H
             obtain ⟨Ao44, co44, eo44⟩ := Kd.R_slice HO_3.out
             subst eo44
             go_wp2_with (first | ((with_reducible refine gate_callee (f := 62) rfl ?_); refine goesL_ (some 25) rfl rfl Try.func62 (by kernel_rfl) rfl #[.slice A0 l0.length c0, .slice Ao44 t270.length co44, .int .i64 x6_1] rfl p9_3 ?_; (with_reducible refine (ladderbackref30_leads.calls k1 _ _ l0 _ _ t270 x6_1 false _ ?side1 ?side2 ?side3 ?side4 A10.out).mono ?_); (case side1 => repeat (first | exact (Kd.C_below HR0.out HB.out) | (with_reducible refine Kd.C_alloc ?_ _) | (with_reducible refine Kd.C_drewN ?_ _) | (with_reducible refine Kd.C_drew ?_))); (case side2 => exact HC0.out); (case side3 => repeat (first | exact (Kd.R_reads' HO_3.out).2.2 | (with_reducible refine Kd.C_alloc ?_ _) | (with_reducible refine Kd.C_drewN ?_ _) | (with_reducible refine Kd.C_drew ?_))); (case side4 => exact (Kd.R_reads' HO_3.out).2.1); rintro e w45 ⟨rfl, hb⟩; refine ⟨_, rfl, ?_⟩; have n0_ := Aside0.mk (Kd.R_below p9_4 hb); have n1_ := Aside0.mk (Kd.S_below p9_5 hb); have n2_ := Aside0.mk (Kd.R_below p9_2 hb); have n3_ := Aside0.mk (below_step p9_1 hb); clear HO_3; clear HO_4; clear HO_5; clear HB; have HO_3 := n0_; have HO_4 := n1_; have HO_5 := n2_; have HB := n3_; clear n0_ n1_ n2_ n3_; (try clear hb); (try clear hb2); (try clear hk); (try clear hi); obtain ⟨Ao46, co46, eo46⟩ := Kd.S_slice HO_4.out; subst eo46; have p281 : 0 ≤ (x6_1 : Int) := of_decide_eq_true p9_0; have q281 : x6_1 < (t270.length : Int) := of_decide_eq_true p9_0; obtain ⟨ad281, e281, hx281_0⟩ := Kd.at_bool (Kd.R_reads' HO_3.out).2.2 x6_1 p281 q281; (try rw [← Nbq24.out] at hx281_0); cases e281; replace p281 := eq_true p281; replace q281 := eq_true q281; have p282 : 0 ≤ ((ji26) : Int) := of_decide_eq_true p9_0; have q282 : (ji26) < (x4_1.length : Int) := of_decide_eq_true p9_0; obtain ⟨ad282, A282_2, c282_2, e282, hx282_0, hx282_1, hx282_2, hl282_2, hi282_2⟩ := at_T39 (Kd.S_reads' HO_4.out).2.2 (ji26) p282 q282; cases e282; obtain ⟨ce282, hce282, hMe282, hcc282⟩ := Kd.S_get HO_4.out z39 (ji26) p282 p9_7; obtain ⟨ve282_2, rfl, ge282_2⟩ := k39_openM hMe282; have hv282_2 := hcc282 2 _ rfl; rw [add_field _ _ 2 (by omega)] at hv282_2; replace hv282_2 := Option.some.inj (hv282_2.symm.trans hx282_2); rw [hv282_2] at ge282_2; have HL282_2 := Aside0.mk (show Kd.R (Kd.int .i64) 3 _ _ _ _ ((rd_T39 x4_1 (ji26)).f2) from ge282_2); clear hv282_2 ge282_2; have HX282_2 := Aside0.mk hx282_2; clear hcc282 hce282; have HR282_2 := Aside0.mk hi282_2; have HC282_2 := Aside0.mk hl282_2; clear hi282_2 hl282_2; replace p282 := eq_true p282; replace q282 := eq_true q282))
             go_roundg k1
             case measure => have := HK1.out; omega
             case rel => exact ⟨(x4_1), (x5_1), (wrap64 (x6_1 + 1)), p9_6, H', ⟨by have := HK1.out; omega⟩, ⟨by (with_reducible repeat (first | apply Kd.R_alloc | apply Kd.R_drewN | apply Kd.R_drew)); exact HO_3.out⟩, ⟨by (with_reducible repeat (first | apply Kd.S_alloc | apply Kd.S_drewN | apply Kd.S_drew)); exact HO_4.out⟩, ⟨by (with_reducible repeat (first | apply Kd.R_alloc | apply Kd.R_drewN | apply Kd.R_drew)); exact HO_5.out⟩, ⟨by repeat (first | (with_reducible first | exact HB.out | apply below_alloc | apply pw_below_drewN | apply below_drew1) | exact HB.out)⟩⟩
           ·
            rw [if_neg c28] at H
            exact absurd H (by simp)
          ·
           rw [if_neg c27] at H
           exact absurd H (by simp)
         ·
          replace c25 := Bool.eq_false_iff.mpr c25
          subst c25
          have H1 : (ladderbackref30_Nodes.l0 k1 l0 t270 x4_1 x5_1 (wrap64 (x6_1 + 1))) = some r := by rw [if_neg (show ¬ (false = true) by decide)] at H; exact H
          clear H
          have H := H1
          clear H1
          have H' := Aside0.mk H
          clear H
          obtain ⟨Ao47, co47, eo47⟩ := Kd.R_slice HO_3.out
          subst eo47
          go_wp2_with (first | ((with_reducible refine gate_callee (f := 62) rfl ?_); refine goesL_ (some 25) rfl rfl Try.func62 (by kernel_rfl) rfl #[.slice A0 l0.length c0, .slice Ao47 t270.length co47, .int .i64 x6_1] rfl p9_3 ?_; (with_reducible refine (ladderbackref30_leads.calls k1 _ _ l0 _ _ t270 x6_1 false _ ?side1 ?side2 ?side3 ?side4 A10.out).mono ?_); (case side1 => repeat (first | exact (Kd.C_below HR0.out HB.out) | (with_reducible refine Kd.C_alloc ?_ _) | (with_reducible refine Kd.C_drewN ?_ _) | (with_reducible refine Kd.C_drew ?_))); (case side2 => exact HC0.out); (case side3 => repeat (first | exact (Kd.R_reads' HO_3.out).2.2 | (with_reducible refine Kd.C_alloc ?_ _) | (with_reducible refine Kd.C_drewN ?_ _) | (with_reducible refine Kd.C_drew ?_))); (case side4 => exact (Kd.R_reads' HO_3.out).2.1); rintro e w48 ⟨rfl, hb⟩; refine ⟨_, rfl, ?_⟩; have n0_ := Aside0.mk (Kd.R_below p9_4 hb); have n1_ := Aside0.mk (Kd.S_below p9_5 hb); have n2_ := Aside0.mk (Kd.R_below p9_2 hb); have n3_ := Aside0.mk (below_step p9_1 hb); clear HO_3; clear HO_4; clear HO_5; clear HB; have HO_3 := n0_; have HO_4 := n1_; have HO_5 := n2_; have HB := n3_; clear n0_ n1_ n2_ n3_; (try clear hb); (try clear hb2); (try clear hk); (try clear hi); obtain ⟨Ao49, co49, eo49⟩ := Kd.S_slice HO_4.out; subst eo49; have p281 : 0 ≤ (x6_1 : Int) := of_decide_eq_true p9_0; have q281 : x6_1 < (t270.length : Int) := of_decide_eq_true p9_0; obtain ⟨ad281, e281, hx281_0⟩ := Kd.at_bool (Kd.R_reads' HO_3.out).2.2 x6_1 p281 q281; (try rw [← Nbq24.out] at hx281_0); cases e281; replace p281 := eq_true p281; replace q281 := eq_true q281))
          go_roundg k1
          case measure => have := HK1.out; omega
          case rel => exact ⟨(x4_1), (x5_1), (wrap64 (x6_1 + 1)), p9_6, H', ⟨by have := HK1.out; omega⟩, ⟨by (with_reducible repeat (first | apply Kd.R_alloc | apply Kd.R_drewN | apply Kd.R_drew)); exact HO_3.out⟩, ⟨by (with_reducible repeat (first | apply Kd.S_alloc | apply Kd.S_drewN | apply Kd.S_drew)); exact HO_4.out⟩, ⟨by (with_reducible repeat (first | apply Kd.R_alloc | apply Kd.R_drewN | apply Kd.R_drew)); exact HO_5.out⟩, ⟨by repeat (first | (with_reducible first | exact HB.out | apply below_alloc | apply pw_below_drewN | apply below_drew1) | exact HB.out)⟩⟩
        ·
         rw [if_neg c23] at H
         exact absurd H (by simp)
       ·
        rw [if_neg c22] at H
        have c22b0 : decide (0 < (x4_1.length : Int)) = false := decide_eq_false c22
        have c22b1 : decide (0 < x4_1.length) = false := decide_eq_false (by omega)
        clear c22
        have H' := Aside0.mk H
        clear H
        obtain ⟨Ao50, co50, eo50⟩ := Kd.R_slice HO_3.out
        subst eo50
        go_wp2_with (first | ((with_reducible refine gate_callee (f := 62) rfl ?_); refine goesL_ (some 25) rfl rfl Try.func62 (by kernel_rfl) rfl #[.slice A0 l0.length c0, .slice Ao50 t270.length co50, .int .i64 x6_1] rfl p9_3 ?_; (with_reducible refine (ladderbackref30_leads.calls k1 _ _ l0 _ _ t270 x6_1 false _ ?side1 ?side2 ?side3 ?side4 A10.out).mono ?_); (case side1 => repeat (first | exact (Kd.C_below HR0.out HB.out) | (with_reducible refine Kd.C_alloc ?_ _) | (with_reducible refine Kd.C_drewN ?_ _) | (with_reducible refine Kd.C_drew ?_))); (case side2 => exact HC0.out); (case side3 => repeat (first | exact (Kd.R_reads' HO_3.out).2.2 | (with_reducible refine Kd.C_alloc ?_ _) | (with_reducible refine Kd.C_drewN ?_ _) | (with_reducible refine Kd.C_drew ?_))); (case side4 => exact (Kd.R_reads' HO_3.out).2.1); rintro e w51 ⟨rfl, hb⟩; refine ⟨_, rfl, ?_⟩; have n0_ := Aside0.mk (Kd.R_below p9_4 hb); have n1_ := Aside0.mk (Kd.S_below p9_5 hb); have n2_ := Aside0.mk (Kd.R_below p9_2 hb); have n3_ := Aside0.mk (below_step p9_1 hb); clear HO_3; clear HO_4; clear HO_5; clear HB; have HO_3 := n0_; have HO_4 := n1_; have HO_5 := n2_; have HB := n3_; clear n0_ n1_ n2_ n3_; (try clear hb); (try clear hb2); (try clear hk); (try clear hi); obtain ⟨Ao52, co52, eo52⟩ := Kd.S_slice HO_4.out; subst eo52))
        go_roundg k1
        case measure => have := HK1.out; omega
        case rel => exact ⟨(x4_1), (x5_1), (wrap64 (x6_1 + 1)), p9_6, H', ⟨by have := HK1.out; omega⟩, ⟨by (with_reducible repeat (first | apply Kd.R_alloc | apply Kd.R_drewN | apply Kd.R_drew)); exact HO_3.out⟩, ⟨by (with_reducible repeat (first | apply Kd.S_alloc | apply Kd.S_drewN | apply Kd.S_drew)); exact HO_4.out⟩, ⟨by (with_reducible repeat (first | apply Kd.R_alloc | apply Kd.R_drewN | apply Kd.R_drew)); exact HO_5.out⟩, ⟨by repeat (first | (with_reducible first | exact HB.out | apply below_alloc | apply pw_below_drewN | apply below_drew1) | exact HB.out)⟩⟩
     ·
      rw [if_neg c9] at H
      have c9b0 : decide (x6_1 < (t270.length : Int)) = false := decide_eq_false c9
      clear c9
      have H' := Aside0.mk H
      clear H
      obtain ⟨Ao53, co53, eo53⟩ := Kd.R_slice HO_3.out
      subst eo53
      go_wp2
      go_loopg [7] k1 (fun kq v7 w' => ∃ (x4_2 : List (S39)) (x7_2 : Int), v7 = .int .i64 x7_2 ∧ Aside0 (ladderbackref30_Nodes.l1 kq l0 x4_2 x5_1 x7_2 = some r) ∧ Aside0 (kq ≤ k1) ∧ Aside0 (Kd.S k39 39 w' w.heap.size (fun k_ => some k_ ≠ (v274 : Value).ownBlock) u4 x4_2) ∧ Aside0 (Kd.R (Kd.int .i64) 3 w' w.heap.size (fun _ => True) v274 x5_1) ∧ Aside0 (Below w.heap.size w w'))
      case atStart => exact ⟨(x4_1), (0), p9_6, H', ⟨Nat.le_refl _⟩, ⟨by (with_reducible repeat (first | apply Kd.S_alloc | apply Kd.S_drewN | apply Kd.S_drew)); exact HO_4.out⟩, ⟨by (with_reducible repeat (first | apply Kd.R_alloc | apply Kd.R_drewN | apply Kd.R_drew)); exact HO_5.out⟩, ⟨by repeat (first | (with_reducible first | exact HB.out | apply below_alloc | apply pw_below_drewN | apply below_drew1) | exact HB.out)⟩⟩
      case round =>
       clear H'
       (try clear c9); (try clear c9b0)
       obtain ⟨x4_2, x7_2, rfl, HA, HK2, HO_4, HO_5, HB⟩ := hrel
       cases gk with
       | zero => exact absurd HA.out (by simp [ladderbackref30_Nodes.l1])
       | succ k2 =>
        have H := HA.out
        clear HA
        simp only [ladderbackref30_Nodes.l1] at H
        by_cases c54 : x7_2 < (x4_2.length : Int)
        ·
         rw [if_pos c54] at H
         have c54b0 : decide (x7_2 < (x4_2.length : Int)) = true := decide_eq_true c54
         clear c54
         by_cases c55 : 0 ≤ x7_2
         ·
          rw [if_pos c55] at H
          have c55b0 : decide (0 ≤ x7_2) = true := decide_eq_true c55
          clear c55
          replace H := Option.bind_eq_some_iff.mp H
          obtain ⟨t287, A560, H⟩ := H
          replace H : (ladderbackref30_Nodes.l2 k2 l0 x4_2 x5_1 x7_2 t287 0) = some r := H
          have A56 := Aside0.mk A560
          clear A560
          have H' := Aside0.mk H
          clear H
          obtain ⟨Ao57, co57, eo57⟩ := Kd.S_slice HO_4.out
          subst eo57
          have p286 : 0 ≤ (x7_2 : Int) := of_decide_eq_true p9_0
          have q286 : x7_2 < (x4_2.length : Int) := of_decide_eq_true p9_0
          obtain ⟨ad286, A286_2, c286_2, e286, hx286_0, hx286_1, hx286_2, hl286_2, hi286_2⟩ := at_T39 (Kd.S_reads' HO_4.out).2.2 x7_2 p286 q286
          cases e286
          obtain ⟨ce286, hce286, hMe286, hcc286⟩ := Kd.S_get HO_4.out z39 x7_2 p286 (by first | exact q286 | exact of_decide_eq_true p9_0 | (have e_ := (Kd.S_reads' HO_4.out).1; omega))
          obtain ⟨ve286_2, rfl, ge286_2⟩ := k39_openM hMe286
          have hv286_2 := hcc286 2 _ rfl
          rw [add_field _ _ 2 (by omega)] at hv286_2
          replace hv286_2 := Option.some.inj (hv286_2.symm.trans hx286_2)
          rw [hv286_2] at ge286_2
          have HL286_2 := Aside0.mk (show Kd.R (Kd.int .i64) 3 _ _ _ _ ((rd_T39 x4_2 x7_2).f2) from ge286_2)
          clear hv286_2 ge286_2
          have HX286_2 := Aside0.mk hx286_2
          clear hcc286 hce286
          have HR286_2 := Aside0.mk hi286_2
          have HC286_2 := Aside0.mk hl286_2
          clear hi286_2 hl286_2
          replace p286 := eq_true p286
          replace q286 := eq_true q286
          go_wp2_with (first | ((with_reducible refine gate_callee (f := 24) rfl ?_); refine goesL_ (some 89) rfl rfl Try.func24 (by kernel_rfl) rfl #[.slice A0 l0.length c0, .int .i64 (wrap64 (((rd_T39 x4_2 x7_2).f1) - 1))] rfl p9_3 ?_; (with_reducible refine (ladderbackref30_Goes.calls k2 _ _ l0 (wrap64 (((rd_T39 x4_2 x7_2).f1) - 1)) t287 _ ?side1 ?side2 A56.out).mono ?_); (case side1 => repeat (first | exact (Kd.C_below HR0.out HB.out) | (with_reducible refine Kd.C_alloc ?_ _) | (with_reducible refine Kd.C_drewN ?_ _) | (with_reducible refine Kd.C_drew ?_))); (case side2 => exact HC0.out); rintro e w58 ⟨v288, rfl, ho0, hb⟩; refine ⟨_, rfl, ?_⟩; have n0_ := Aside0.mk (Kd.S_elder' p9_5 (Kd.R_base ho0) hb); have n1_ := Aside0.mk (Kd.R_elder' p9_2 (Kd.R_base ho0) hb); have n2_ := Aside0.mk (Kd.R_elder' (by (with_reducible repeat (first | apply Kd.R_alloc | apply Kd.R_drewN | apply Kd.R_drew)); exact HL286_2.out) (Kd.R_base ho0) hb); have n3_ := Aside0.mk (Kd.R_lower (Kd.R_new' (Kd.R_new' ho0 (Kd.R_lt p9_2)) (Kd.R_lt (by (with_reducible repeat (first | apply Kd.R_alloc | apply Kd.R_drewN | apply Kd.R_drew)); exact HL286_2.out))) (below_size p9_1)); have n4_ := Aside0.mk (Kd.C_below (by repeat (first | (with_reducible exact HR286_2.out) | (with_reducible refine Kd.C_alloc ?_ _) | (with_reducible refine Kd.C_drewN ?_ _) | (with_reducible refine Kd.C_drew ?_) | exact HR286_2.out)) hb); have n5_ := Aside0.mk (pw_cell_below hb HX286_2.out); have n6_ := Aside0.mk (below_step p9_1 hb); clear HO_4; clear HO_5; clear HL286_2; clear HR286_2; clear HX286_2; clear HB; have HO_4 := n0_; have HO_5 := n1_; have HL286_2 := n2_; have HO289 := n3_; have HR286_2 := n4_; have HX286_2 := n5_; have HB := n6_; clear n0_ n1_ n2_ n3_ n4_ n5_ n6_; (try clear hb); (try clear hb2); (try clear hk); (try clear hi); (try clear ho0)))
          go_loopg [9] k2 (fun kq v9 w' => ∃ (x4_3 : List (S39)) (x9_3 : Int), v9 = .int .i64 x9_3 ∧ Aside0 (ladderbackref30_Nodes.l2 kq l0 x4_3 x5_1 x7_2 t287 x9_3 = some r) ∧ Aside0 (kq ≤ k2) ∧ Aside0 (Kd.S k39 39 w' w.heap.size (fun k_ => some k_ ≠ (v274 : Value).ownBlock ∧ some k_ ≠ (v288 : Value).ownBlock) (.slice (some ad286) x4_2.length co57) x4_3) ∧ Aside0 (Kd.R (Kd.int .i64) 3 w' w.heap.size (fun k_ => some k_ ≠ (v288 : Value).ownBlock) v274 x5_1) ∧ Aside0 (Kd.R (Kd.int .i64) 3 w' w.heap.size (fun k_ => some k_ ≠ (v274 : Value).ownBlock) v288 t287) ∧ Aside0 (Below w.heap.size w w'))
          case atStart => exact ⟨(x4_2), (0), p9_6, H', ⟨Nat.le_refl _⟩, ⟨by (with_reducible repeat (first | apply Kd.S_alloc | apply Kd.S_drewN | apply Kd.S_drew)); exact HO_4.out⟩, ⟨by (with_reducible repeat (first | apply Kd.R_alloc | apply Kd.R_drewN | apply Kd.R_drew)); exact Kd.R_mono HO_5.out (fun _ hk => hk.2)⟩, ⟨by (with_reducible repeat (first | apply Kd.R_alloc | apply Kd.R_drewN | apply Kd.R_drew)); exact Kd.R_mono HO289.out (fun _ hk => hk.1.2)⟩, ⟨by repeat (first | (with_reducible first | exact HB.out | apply below_alloc | apply pw_below_drewN | apply below_drew1) | exact HB.out)⟩⟩
          case round =>
           clear H'
           (try clear c54); (try clear c54b0); (try clear c55); (try clear c55b0); (try clear hx286_0); (try clear hx286_1); (try clear hx286_2); (try clear p286); (try clear q286)
           obtain ⟨x4_3, x9_3, rfl, HA, HK3, HO_4, HO_5, HO_8, HB⟩ := hrel
           have hl4_3 := (Kd.S_reads' HO_4.out).1
           rw [hl4_3] at HO_4
           (try simp only [hl4_3])
           (try simp only [hl4_3] at HO_5)
           (try simp only [hl4_3] at HO_8)
           cases gk with
           | zero => exact absurd HA.out (by simp [ladderbackref30_Nodes.l2])
           | succ k3 =>
            have H := HA.out
            clear HA
            simp only [ladderbackref30_Nodes.l2] at H
            by_cases c59 : x9_3 < (t287.length : Int)
            ·
             rw [if_pos c59] at H
             have c59b0 : decide (x9_3 < (t287.length : Int)) = true := decide_eq_true c59
             clear c59
             by_cases c60 : 0 ≤ x7_2
             ·
              rw [if_pos c60] at H
              have c60b0 : decide (0 ≤ x7_2) = true := decide_eq_true c60
              clear c60
              by_cases c61 : x7_2 < (x4_3.length : Int)
              ·
               rw [if_pos c61] at H
               have c61b0 : decide (x7_2 < (x4_3.length : Int)) = true := decide_eq_true c61
               clear c61
               by_cases c62 : 0 ≤ x9_3
               ·
                rw [if_pos c62] at H
                have c62b0 : decide (0 ≤ x9_3) = true := decide_eq_true c62
                clear c62
                by_cases c63 : 0 ≤ (rd t287 x9_3)
                ·
                 rw [if_pos c63] at H
                 have c63b0 : decide (0 ≤ (rd t287 x9_3)) = true := decide_eq_true c63
                 clear c63
                 by_cases c64 : (rd t287 x9_3) < (x5_1.length : Int)
                 ·
                  rw [if_pos c64] at H
                  have c64b0 : decide ((rd t287 x9_3) < (x5_1.length : Int)) = true := decide_eq_true c64
                  clear c64
                  by_cases c65 : ((rd_T39 x4_3 x7_2).f2).length < 17592186044416
                  ·
                   rw [if_pos c65] at H
                   have LMc65 := Aside0.mk c65
                   clear c65
                   obtain ⟨y293, hy293⟩ : ∃ y_ : List Int, y_ = (((rd_T39 x4_3 x7_2).f2) ++ [rd x5_1 (rd t287 x9_3)]) := ⟨_, rfl⟩
                   replace H : (ladderbackref30_Nodes.l2 k3 l0 (x4_3.set (x7_2 : Int).toNat (⟨(rd_T39 x4_3 x7_2).f0, (rd_T39 x4_3 x7_2).f1, y293⟩ : S39)) x5_1 x7_2 t287 (wrap64 (x9_3 + 1))) = some r := by first | (rw [hy293]; with_reducible exact H) | (have H2_ := (Option.bind_some _ _).symm.trans H; rw [hy293]; with_reducible exact H2_) | (have H2_ := (Option.bind_some _ _).symm.trans H; with_reducible exact H2_) | with_reducible exact H | (rw [hy293]; exact H) | exact H
                   have Ny293 := Aside0.mk hy293
                   clear hy293
                   obtain ⟨y296, hy296⟩ : ∃ y_ : List (S39), y_ = (x4_3.set (x7_2 : Int).toNat (⟨(rd_T39 x4_3 x7_2).f0, (rd_T39 x4_3 x7_2).f1, y293⟩ : S39)) := ⟨_, rfl⟩
                   replace H : (ladderbackref30_Nodes.l2 k3 l0 y296 x5_1 x7_2 t287 (wrap64 (x9_3 + 1))) = some r := by first | (rw [hy296]; with_reducible exact H) | (have H2_ := (Option.bind_some _ _).symm.trans H; rw [hy296]; with_reducible exact H2_) | (have H2_ := (Option.bind_some _ _).symm.trans H; with_reducible exact H2_) | with_reducible exact H | (rw [hy296]; exact H) | exact H
                   have Ny296 := Aside0.mk hy296
                   clear hy296
                   have H' := Aside0.mk H
                   clear H
                   obtain ⟨Ao67, co67, eo67⟩ := Kd.R_slice HO_8.out
                   subst eo67
                   try go_wp2
                   have n0_ := Aside0.mk (Kd.S_drew HO_4.out)
                   have n1_ := Aside0.mk (Kd.R_drew HO_5.out)
                   have n2_ := Aside0.mk (Kd.R_drew HO_8.out)
                   have n3_ := Aside0.mk (below_drew1 HB.out)
                   clear HO_4
                   clear HO_5
                   clear HO_8
                   clear HB
                   have HO_4 := n0_
                   have HO_5 := n1_
                   have HO_8 := n2_
                   have HB := n3_
                   clear n0_ n1_ n2_ n3_
                   have p290 : 0 ≤ (x7_2 : Int) := of_decide_eq_true p9_0
                   have q290 : x7_2 < (x4_3.length : Int) := of_decide_eq_true p9_0
                   obtain ⟨ad290, A290_2, c290_2, e290, hx290_0, hx290_1, hx290_2, hl290_2, hi290_2⟩ := at_T39 (Kd.S_reads' HO_4.out).2.2 x7_2 p290 q290
                   obtain rfl : ad286 = ad290 := (by injection e290)
                   obtain ⟨ce290, hce290, hMe290, hcc290⟩ := Kd.S_get HO_4.out z39 x7_2 p290 (by first | exact q290 | exact of_decide_eq_true p9_0 | (have e_ := (Kd.S_reads' HO_4.out).1; omega))
                   obtain ⟨ve290_2, rfl, ge290_2⟩ := k39_openM hMe290
                   have hv290_2 := hcc290 2 _ rfl
                   rw [add_field _ _ 2 (by omega)] at hv290_2
                   replace hv290_2 := Option.some.inj (hv290_2.symm.trans hx290_2)
                   rw [hv290_2] at ge290_2
                   have HL290_2 := Aside0.mk (show Kd.R (Kd.int .i64) 3 _ _ _ _ ((rd_T39 x4_3 x7_2).f2) from ge290_2)
                   clear hv290_2 ge290_2
                   have HX290_2 := Aside0.mk hx290_2
                   clear hcc290 hce290
                   have HR290_2 := Aside0.mk hi290_2
                   have HC290_2 := Aside0.mk hl290_2
                   clear hi290_2 hl290_2
                   replace p290 := eq_true p290
                   replace q290 := eq_true q290
                   have p291 : 0 ≤ (x9_3 : Int) := of_decide_eq_true p9_0
                   have q291 : x9_3 < (t287.length : Int) := of_decide_eq_true p9_0
                   obtain ⟨ad291, e291, hx291_0⟩ := Kd.at_int (Kd.R_reads' HO_8.out).2.2 x9_3 p291 q291
                   cases e291
                   replace p291 := eq_true p291
                   replace q291 := eq_true q291
                   obtain ⟨Ao69, co69, eo69⟩ := Kd.R_slice HO_5.out
                   (first | subst eo69 | (injection eo69 with f1_ f2_ f3_; have f4_ := f1_.symm; have f5_ := f3_.symm; clear f1_ f2_ f3_; subst f4_; subst f5_))
                   have p292 : 0 ≤ ((rd t287 x9_3) : Int) := of_decide_eq_true p9_0
                   have q292 : (rd t287 x9_3) < (x5_1.length : Int) := of_decide_eq_true p9_0
                   obtain ⟨ad292, e292, hx292_0⟩ := Kd.at_int (Kd.R_reads' HO_5.out).2.2 (rd t287 x9_3) p292 q292
                   cases e292
                   replace p292 := eq_true p292
                   replace q292 := eq_true q292
                   obtain ⟨go70, co70, eo70, gb70, gl70, cl70, HG70⟩ := Kd.S_form HO_4.out (by have h_ : (x7_2 : Int) < ((x4_3.length : Int) : Int) := of_decide_eq_true p9_0; have h2_ : 0 ≤ (x7_2 : Int) := (of_decide_eq_true p9_0); omega)
                   (first | cases eo70 | (injection eo70 with ea_ en_ ec_; (first | subst ea_ | (injection ea_ with ea_; subst ea_)); subst ec_; clear en_))
                   have GB70 := Aside0.mk gb70
                   have GG70 := Aside0.mk HG70
                   clear gb70 gl70 HG70
                   (first | simp only [add_plain] at hx286_0 | skip)
                   (first | simp only [add_plain] at hx286_1 | skip)
                   (first | simp only [add_plain] at hx286_2 | skip)
                   (first | simp only [add_plain] at hx290_0 | skip)
                   (first | simp only [add_plain] at hx290_1 | skip)
                   (first | simp only [add_plain] at hx290_2 | skip)
                   obtain ⟨oki70, ce70, hcl70, hM70, hcc70, _, _, hH70⟩ := Kd.S_elem HO_4.out z39 (x7_2 : Int) (of_decide_eq_true p9_0) (by have h_ : (x7_2 : Int) < ((x4_3.length : Int) : Int) := of_decide_eq_true p9_0; first | exact h_ | (have e_ := (Kd.S_reads' HO_4.out).1; omega) | simpa using h_)
                   obtain ⟨ve70_2, rfl, ge70_2⟩ := k39_openM hM70
                   have hv70 := hcc70 2 _ rfl
                   have hX70 := HX290_2.out
                   (try simp only [add_plain] at hX70)
                   (try simp only [Nat.add_zero] at hv70)
                   replace hv70 := Option.some.inj (hv70.symm.trans hX70)
                   subst hv70
                   clear hX70 hcc70 hcl70
                   have UU70 := Aside0.mk (show Kd.R (Kd.int .i64) 3 _ w.heap.size oki70 (.slice A290_2 ((rd_T39 x4_3 x7_2).f2).length c290_2) ((rd_T39 x4_3 x7_2).f2) from ge70_2)
                   have HH70 := Aside0.mk hH70
                   have HN70 := Aside0.mk (Kd.S_reads' HO_4.out).1
                   clear hH70 ge70_2
                   refine start_ (n := 19) (S := fun w' => w'.cell? ⟨go70, ((x7_2).toNat * 3), none⟩ = some (.int .i64 ((rd_T39 x4_3 x7_2).f0)) ∧ w'.cell? ⟨go70, ((x7_2).toNat * 3) + 1, none⟩ = some (.int .i64 ((rd_T39 x4_3 x7_2).f1)) ∧ w'.cell? ⟨go70, ((x7_2).toNat * 3) + 2, none⟩ = some (.slice A290_2 ((rd_T39 x4_3 x7_2).f2).length c290_2) ∧ w'.cell? (ad291.add (x9_3).toNat) = some (.int .i64 (rd t287 x9_3)) ∧ w'.cell? (ad292.add ((rd t287 x9_3)).toNat) = some (.int .i64 (rd x5_1 (rd t287 x9_3)))) (ds := [15, 18]) #[false, false, false, false, false, false, false, false, false, false, false, false, false, false, false, false, false, false, false] (by kernel_rfl) rfl rfl ⟨hx290_0, hx290_1, hx290_2, hx291_0, hx292_0⟩ (fun hHeld => ?_); refine with_tabW ladderbackref30_Nodes.tab19 ladderbackref30_Nodes.bits19 (fun HT_ HW_ => ?_)
                   generalize wr.drew = w68 at HO_4 HO_5 HO_8 HB GG70 HH70 HL290_2 HR290_2 HX290_2 UU70 hx290_0 hx290_1 hx290_2 hx291_0 hx292_0 hHeld ⊢
                   refine pure_ (i := 0) (N := some 96) (v := ?_) (a' := ?_) #[true, false, false, false, false, false, false, false, false, false, false, false, false, false, false, false, false, false, false] rfl rfl (any_of HT_.out (by kernel_rfl)) (fun _ _ _ h => h) (Or.inl ⟨by rfl, ?_⟩) ?_ ?_
                   rotate_left
                   ·
                    intro w'
                    go_simp
                    with_reducible rfl
                   rotate_left
                   ·
                    simp only [Act.put, List.setIfInBounds_toArray, List.set_cons_zero, List.set_cons_succ, i64_w, i32_w]
                    rfl
                   refine pure_ (i := 1) (N := some 97) (v := ?_) (a' := ?_) #[true, true, false, false, false, false, false, false, false, false, false, false, false, false, false, false, false, false, false] rfl rfl (any_of HT_.out (by kernel_rfl)) (fun _ _ _ h => h) (Or.inl ⟨by rfl, ?_⟩) ?_ ?_
                   rotate_left
                   ·
                    intro w'
                    go_simp
                    with_reducible rfl
                   rotate_left
                   ·
                    simp only [Act.put, List.setIfInBounds_toArray, List.set_cons_zero, List.set_cons_succ, i64_w, i32_w]
                    rfl
                   refine pure_ (i := 2) (N := some 98) (v := ?_) (a' := ?_) #[true, true, true, false, false, false, false, false, false, false, false, false, false, false, false, false, false, false, false] rfl rfl (any_of HT_.out (by kernel_rfl)) (fun _ _ _ h => h) (Or.inl ⟨by rfl, ?_⟩) ?_ ?_
                   rotate_left
                   ·
                    intro w'
                    go_simp
                    with_reducible rfl
                   rotate_left
                   ·
                    simp only [Act.put, List.setIfInBounds_toArray, List.set_cons_zero, List.set_cons_succ, i64_w, i32_w]
                    rfl
                   refine pure_ (i := 3) (N := some 99) (v := ?_) (a' := ?_) #[true, true, true, true, false, false, false, false, false, false, false, false, false, false, false, false, false, false, false] rfl rfl (any_of HT_.out (by kernel_rfl)) (fun _ _ _ h => h) (Or.inl ⟨by rfl, ?_⟩) ?_ ?_
                   rotate_left
                   ·
                    intro w'
                    go_simp
                    with_reducible rfl
                   rotate_left
                   ·
                    simp only [Act.put, List.setIfInBounds_toArray, List.set_cons_zero, List.set_cons_succ, i64_w, i32_w]
                    rfl
                   refine pure_ (i := 4) (N := some 100) (v := ?_) (a' := ?_) #[true, true, true, true, true, false, false, false, false, false, false, false, false, false, false, false, false, false, false] rfl rfl (any_of HT_.out (by kernel_rfl)) (fun _ _ _ h => h) (Or.inl ⟨by rfl, ?_⟩) ?_ ?_
                   rotate_left
                   ·
                    intro w'
                    go_simp
                    with_reducible rfl
                   rotate_left
                   ·
                    simp only [Act.put, List.setIfInBounds_toArray, List.set_cons_zero, List.set_cons_succ, i64_w, i32_w]
                    rfl
                   refine pure_ (i := 5) (N := some 101) (v := ?_) (a' := ?_) #[true, true, true, true, true, true, false, false, false, false, false, false, false, false, false, false, false, false, false] rfl rfl (any_of HT_.out (by kernel_rfl)) (fun _ _ _ h => h) (Or.inl ⟨by rfl, ?_⟩) ?_ ?_
                   rotate_left
                   ·
                    intro w'
                    go_simp
                    with_reducible rfl
                   rotate_left
                   ·
                    simp only [Act.put, List.setIfInBounds_toArray, List.set_cons_zero, List.set_cons_succ, i64_w, i32_w]
                    rfl
                   refine pure_ (i := 7) (N := some 103) (v := ?_) (a' := ?_) #[true, true, true, true, true, true, false, true, false, false, false, false, false, false, false, false, false, false, false] rfl rfl (any_of HT_.out (by kernel_rfl)) (fun _ _ _ h => h) (Or.inl ⟨by rfl, ?_⟩) ?_ ?_
                   rotate_left
                   ·
                    intro w'
                    go_simp
                    with_reducible rfl
                   rotate_left
                   ·
                    simp only [Act.put, List.setIfInBounds_toArray, List.set_cons_zero, List.set_cons_succ, i64_w, i32_w]
                    rfl
                   refine pure_ (i := 8) (N := some 104) (v := ?_) (a' := ?_) #[true, true, true, true, true, true, false, true, true, false, false, false, false, false, false, false, false, false, false] rfl rfl (any_of HT_.out (by kernel_rfl)) (fun _ _ _ h => h) (Or.inl ⟨by rfl, ?_⟩) ?_ ?_
                   rotate_left
                   ·
                    intro w'
                    go_simp
                    with_reducible rfl
                   rotate_left
                   ·
                    simp only [Act.put, List.setIfInBounds_toArray, List.set_cons_zero, List.set_cons_succ, i64_w, i32_w]
                    rfl
                   refine pure_ (i := 9) (N := some 105) (v := ?_) (a' := ?_) #[true, true, true, true, true, true, false, true, true, true, false, false, false, false, false, false, false, false, false] rfl rfl (any_of HT_.out (by kernel_rfl)) (fun _ _ _ h => h) (Or.inl ⟨by rfl, ?_⟩) ?_ ?_
                   rotate_left
                   ·
                    intro w'
                    go_simp
                    with_reducible rfl
                   rotate_left
                   ·
                    simp only [Act.put, List.setIfInBounds_toArray, List.set_cons_zero, List.set_cons_succ, i64_w, i32_w]
                    rfl
                   refine pure_ (i := 10) (N := some 106) (v := ?_) (a' := ?_) #[true, true, true, true, true, true, false, true, true, true, true, false, false, false, false, false, false, false, false] rfl rfl (any_of HT_.out (by kernel_rfl)) (fun _ _ _ h => h) (Or.inl ⟨by rfl, ?_⟩) ?_ ?_
                   rotate_left
                   ·
                    intro w'
                    go_simp
                    with_reducible rfl
                   rotate_left
                   ·
                    simp only [Act.put, List.setIfInBounds_toArray, List.set_cons_zero, List.set_cons_succ, i64_w, i32_w]
                    rfl
                   refine take_ (i := 6) (N := some 102) (v := ?_) (a' := ?_) #[true, true, true, true, true, true, true, true, true, true, true, false, false, false, false, false, false, false, false] rfl rfl (take_ofW HT_.out HW_.out (by kernel_rfl)) (fun _ _ _ h => h) (Or.inl ⟨by rfl, ?_⟩) hHeld ?_ ?_
                   rotate_left
                   ·
                    rintro w' ⟨s0, s1, s2, s3, s4⟩
                    go_simp
                    with_reducible rfl
                   rotate_left
                   ·
                    simp only [Act.put, List.setIfInBounds_toArray, List.set_cons_zero, List.set_cons_succ, i64_w, i32_w]
                    rfl
                   refine take_ (i := 11) (N := some 107) (v := ?_) (a' := ?_) #[true, true, true, true, true, true, true, true, true, true, true, true, false, false, false, false, false, false, false] rfl rfl (take_ofW HT_.out HW_.out (by kernel_rfl)) (fun _ _ _ h => h) (Or.inl ⟨by rfl, ?_⟩) hHeld ?_ ?_
                   rotate_left
                   ·
                    rintro w' ⟨s0, s1, s2, s3, s4⟩
                    go_simp
                    with_reducible rfl
                   rotate_left
                   ·
                    simp only [Act.put, List.setIfInBounds_toArray, List.set_cons_zero, List.set_cons_succ, i64_w, i32_w]
                    rfl
                   refine pure_ (i := 12) (N := some 108) (v := ?_) (a' := ?_) #[true, true, true, true, true, true, true, true, true, true, true, true, true, false, false, false, false, false, false] rfl rfl (any_of HT_.out (by kernel_rfl)) (fun _ _ _ h => h) (Or.inl ⟨by rfl, ?_⟩) ?_ ?_
                   rotate_left
                   ·
                    intro w'
                    go_simp
                    with_reducible rfl
                   rotate_left
                   ·
                    simp only [Act.put, List.setIfInBounds_toArray, List.set_cons_zero, List.set_cons_succ, i64_w, i32_w]
                    rfl
                   refine take_ (i := 13) (N := some 109) (v := ?_) (a' := ?_) #[true, true, true, true, true, true, true, true, true, true, true, true, true, true, false, false, false, false, false] rfl rfl (take_ofW HT_.out HW_.out (by kernel_rfl)) (fun _ _ _ h => h) (Or.inl ⟨by rfl, ?_⟩) hHeld ?_ ?_
                   rotate_left
                   ·
                    rintro w' ⟨s0, s1, s2, s3, s4⟩
                    go_simp
                    with_reducible rfl
                   rotate_left
                   ·
                    simp only [Act.put, List.setIfInBounds_toArray, List.set_cons_zero, List.set_cons_succ, i64_w, i32_w]
                    rfl
                   refine one_ (i := 14) (N := some 110) #[true, true, true, true, true, true, true, true, true, true, true, true, true, true, true, false, false, false, false] rfl rfl (one_of HT_.out (by kernel_rfl)) (by decide) (fun K hK => ?_)
                   refine value_ (w1 := ?_) (v := ?_) (by rfl) rfl ?_ ?_
                   rotate_left 2
                   ·
                    go_simp
                    constructor
                    ·
                     rfl
                    ·
                     rfl
                   refine hK.out _ _ ⟨(World.cell?_alloc_lt _ _ _ (World.block_lt_of_cell? _ _ (hHeld.1))).trans (hHeld.1), (World.cell?_alloc_lt _ _ _ (World.block_lt_of_cell? _ _ (hHeld.2.1))).trans (hHeld.2.1), (World.cell?_alloc_lt _ _ _ (World.block_lt_of_cell? _ _ (hHeld.2.2.1))).trans (hHeld.2.2.1), (World.cell?_alloc_lt _ _ _ (World.block_lt_of_cell? _ _ (hHeld.2.2.2.1))).trans (hHeld.2.2.2.1), (World.cell?_alloc_lt _ _ _ (World.block_lt_of_cell? _ _ (hHeld.2.2.2.2))).trans (hHeld.2.2.2.2)⟩ (fun hHeld => ?_)
                   clear hK K
                   refine norm_ (a' := ?_) ?_ ?_
                   rotate_left
                   ·
                    show Act.put _ (some 110) _ = _
                    simp only [Act.put, List.setIfInBounds_toArray, List.set_cons_zero, List.set_cons_succ, i64_w, i32_w]
                    rfl
                   refine last_ (i := 15) (N := some 111) #[true, true, true, true, true, true, true, true, true, true, true, true, true, true, true, true, false, false, false] rfl rfl (one_of HT_.out (by kernel_rfl)) (by decide) (fun K hK => ?_)
                   refine Kd.R_append_step (Kd.int .i64) (w0 := w) w.heap.size (by rfl) (.tmp 102) (.tmp 110) 27 3 (.int .i64 0) 8 rfl Try.underlying27 info3 rfl (by decide) (by omega) (.slice A290_2 ((rd_T39 x4_3 x7_2).f2).length c290_2) ((rd_T39 x4_3 x7_2).f2) (rd x5_1 (rd t287 x9_3)) [.int .i64 (rd x5_1 (rd t287 x9_3))] (fun k_ => oki70 k_ ∨ ((fun k_ => some k_ ≠ (.slice (some ad292) x5_1.length co69 : Value).ownBlock ∧ some k_ ≠ (.slice (some ad291) t287.length co67 : Value).ownBlock)) k_ ∧ w68.heap.size ≤ k_) (fun _ => False) rfl rfl ?aP (fun _ hk => hk.elim) ?aF ?aO ?aB ?aS ?aL ?_
                   (case aP => exact rfl)
                   (case aB => exact p9_1)
                   (case aF => exact (fun k_ hk => .inr ⟨⟨Kd.fresh' (Kd.R_lt p9_2) k_ hk, Kd.fresh' (Kd.R_lt (by (with_reducible repeat (first | apply Kd.R_alloc | apply Kd.R_drewN | apply Kd.R_drew)); exact HO_8.out)) k_ hk⟩, hk⟩))
                   (case aO => exact (by (with_reducible repeat (first | apply Kd.R_alloc | apply Kd.R_drewN | apply Kd.R_drew)); exact Kd.R_mono UU70.out (fun _ hk => .inl hk)))
                   (case aS => exact (below_size p9_1))
                   (case aL => have := LMc65.out; omega)
                   intro v294 w71 ho hb hg hat
                   rw [← Ny293.out] at ho
                   have n0_ := Aside0.mk (Kd.R_grown2 p9_2 rfl hg (fun k_ e_ => (HL290_2.out.1 k_ e_).1.1))
                   have n1_ := Aside0.mk (Kd.R_grown2 (by (with_reducible repeat (first | apply Kd.R_alloc | apply Kd.R_drewN | apply Kd.R_drew)); exact HO_8.out) rfl hg (fun k_ e_ => (HL290_2.out.1 k_ e_).1.2))
                   have n2_ := Aside0.mk (hb)
                   have n3_ := Aside0.mk (Kd.H_grown (Kd.H_widen (by repeat (first | exact HH70.out | refine Kd.H_alloc ?_ _ | refine Kd.H_drewN ?_ _ | refine Kd.H_drew ?_))) hg (fun k_ e_ => .inl (UU70.out.1 k_ e_)))
                   have n4_ := Aside0.mk (ho)
                   clear HO_5
                   clear HO_8
                   clear HB
                   clear HH70
                   clear HO_4
                   clear UU70
                   clear HL290_2
                   have HO_5 := n0_
                   have HO_8 := n1_
                   have HB := n2_
                   have HH70 := n3_
                   have HO295 := n4_
                   clear n0_ n1_ n2_ n3_ n4_
                   clear ho hb hg hat
                   have p66 : 0 ≤ (x7_2 : Int) := of_decide_eq_true p9_0
                   have q66 : (x7_2 : Int) < ((x4_3.length : Int) : Int) := of_decide_eq_true p9_0
                   replace p66 := eq_true p66
                   replace q66 := eq_true q66
                   obtain ⟨Ao74, co74, eo74⟩ := Kd.R_slice HO295.out
                   (first | subst eo74 | (injection eo74 with f1_ f2_ f3_; have f4_ := f1_.symm; have f5_ := f3_.symm; clear f1_ f2_ f3_; subst f4_; subst f5_))
                   obtain ⟨_, _, hraw72, _, _, hcc72, _⟩ := Kd.H_raw HH70.out (of_decide_eq_true p9_0) (by have h_ : (x7_2 : Int) < ((x4_3.length : Int) : Int) := of_decide_eq_true p9_0; first | exact h_ | (have e_ := (HN70.out); omega) | simpa using h_)
                   obtain ⟨_, hfr72⟩ := Kd.H_at HH70.out (of_decide_eq_true p9_0) (by have h_ : (x7_2 : Int) < ((x4_3.length : Int) : Int) := of_decide_eq_true p9_0; first | exact h_ | (have e_ := (HN70.out); omega) | simpa using h_)
                   have hx72_0 := hcc72 2 _ rfl
                   have hf72_0 := hfr72 2
                   (try rw [show (k39).sz = 3 from rfl] at hx72_0)
                   (try rw [show (k39).sz = 3 from rfl] at hf72_0)
                   have HP72 := Kd.S_seg0 HH70.out (of_decide_eq_true p9_0) (by have h_ : (x7_2 : Int) < ((x4_3.length : Int) : Int) := of_decide_eq_true p9_0; first | exact h_ | (have e_ := (HN70.out); omega) | simpa using h_) (seg := [.slice Ao74 y293.length co74]) (j := 2) (show 3 ≤ 3 from by decide) (x' := (⟨(rd_T39 x4_3 x7_2).f0, (rd_T39 x4_3 x7_2).f1, y293⟩ : S39)) (k39_mkM _ _ _ (⟨(rd_T39 x4_3 x7_2).f0, (rd_T39 x4_3 x7_2).f1, y293⟩ : S39) HO295.out) (fun _ hk => hk)
                   clear hcc72 hfr72
                   have HS72 := HP72.1
                   rw [← Ny296.out] at HS72
                   have HQ72 := Aside0.mk HS72
                   obtain ⟨_, hgg72⟩ := Kd.R_typed hraw72 go70 rfl
                   have GG72_ := Aside0.mk hgg72
                   clear HP72 HS72 hgg72
                   refine hK.out _ _ ?_
                   clear hK K
                   refine norm_ (a' := ?_) ?_ ?_
                   rotate_left
                   ·
                    show Act.put _ (some 111) _ = _
                    simp only [Act.put, List.setIfInBounds_toArray, List.set_cons_zero, List.set_cons_succ, i64_w, i32_w]
                    rfl
                   refine pure_ (i := 16) (N := some 112) (v := ?_) (a' := ?_) #[true, true, true, true, true, true, true, true, true, true, true, true, true, true, true, true, true, false, false] rfl rfl (any_of HT_.out (by kernel_rfl)) (fun _ _ _ h => h) (Or.inl ⟨by rfl, ?_⟩) ?_ ?_
                   rotate_left
                   ·
                    intro w'
                    go_simp
                    with_reducible rfl
                   rotate_left
                   ·
                    simp only [Act.put, List.setIfInBounds_toArray, List.set_cons_zero, List.set_cons_succ, i64_w, i32_w]
                    rfl
                   refine pure_ (i := 17) (N := some 113) (v := ?_) (a' := ?_) #[true, true, true, true, true, true, true, true, true, true, true, true, true, true, true, true, true, true, false] rfl rfl (any_of HT_.out (by kernel_rfl)) (fun _ _ _ h => h) (Or.inl ⟨by rfl, ?_⟩) ?_ ?_
                   rotate_left
                   ·
                    intro w'
                    go_simp
                    with_reducible rfl
                   rotate_left
                   ·
                    simp only [Act.put, List.setIfInBounds_toArray, List.set_cons_zero, List.set_cons_succ, i64_w, i32_w]
                    rfl
                   refine last_ (i := 18) (N := none) #[true, true, true, true, true, true, true, true, true, true, true, true, true, true, true, true, true, true, true] rfl rfl (one_of HT_.out (by kernel_rfl)) (by decide) (fun K hK => ?_)
                   refine skip_ (w1 := ?_) (by rfl) rfl ?_ ?_
                   rotate_left
                   ·
                    go_simp
                    rfl
                   refine hK.out _ _ ?_
                   clear hK K
                   refine done_ (done_of HT_.out (by kernel_rfl)) ?_
                   try go_wp2
                   (try simp only [← hl4_3])
                   (try simp only [add_plain] at *)
                   go_roundg k3
                   case measure => have := HK1.out; have := HK2.out; have := HK3.out; omega
                   case rel => exact ⟨(y296), (wrap64 (x9_3 + 1)), p9_6, H', ⟨by have := HK1.out; have := HK2.out; have := HK3.out; omega⟩, ⟨by (try simp only [hl4_3]); (with_reducible repeat (first | apply Kd.S_alloc | apply Kd.S_drewN | apply Kd.S_drew)); exact HQ72.out⟩, ⟨by (try simp only [hl4_3]); (with_reducible repeat (first | apply Kd.R_alloc | apply Kd.R_drewN | apply Kd.R_drew)); exact Kd.R_mono (Kd.R_far (p := ⟨go70, (x7_2 : Int).toNat * 3 + 2, none⟩) (Kd.R_types HO_5.out GG72_.out (by decide)) (fun _ hk => hk.2) (.slice Ao74 y293.length co74)) (fun _ hk => hk.1)⟩, ⟨by (try simp only [hl4_3]); (with_reducible repeat (first | apply Kd.R_alloc | apply Kd.R_drewN | apply Kd.R_drew)); exact Kd.R_mono (Kd.R_far (p := ⟨go70, (x7_2 : Int).toNat * 3 + 2, none⟩) (Kd.R_types HO_8.out GG72_.out (by decide)) (fun _ hk => hk.2) (.slice Ao74 y293.length co74)) (fun _ hk => hk.1)⟩, ⟨by repeat (first | (with_reducible first | exact HB.out | apply below_alloc | apply pw_below_drewN | apply below_drew1 | refine below_set ?_ GB70.out) | exact HB.out)⟩⟩
                  ·
                   rw [if_neg c65] at H
                   exact absurd H (by simp)
                 ·
                  rw [if_neg c64] at H
                  exact absurd H (by simp)
                ·
                 rw [if_neg c63] at H
                 exact absurd H (by simp)
               ·
                rw [if_neg c62] at H
                exact absurd H (by simp)
              ·
               rw [if_neg c61] at H
               exact absurd H (by simp)
             ·
              rw [if_neg c60] at H
              exact absurd H (by simp)
            ·
             rw [if_neg c59] at H
             have c59b0 : decide (x9_3 < (t287.length : Int)) = false := decide_eq_false c59
             clear c59
             have H' := Aside0.mk H
             clear H
             obtain ⟨Ao75, co75, eo75⟩ := Kd.R_slice HO_8.out
             subst eo75
             go_wp2
             (try simp only [← hl4_3])
             go_roundg k3
             case measure => have := HK1.out; have := HK2.out; have := HK3.out; omega
             case rel => exact ⟨(x4_3), (wrap64 (x7_2 + 1)), p9_6, H', ⟨by have := HK1.out; have := HK2.out; have := HK3.out; omega⟩, ⟨by (try simp only [hl4_3]); (with_reducible repeat (first | apply Kd.S_alloc | apply Kd.S_drewN | apply Kd.S_drew)); exact Kd.S_mono HO_4.out (fun _ hk => hk.1)⟩, ⟨by (try simp only [hl4_3]); (with_reducible repeat (first | apply Kd.R_alloc | apply Kd.R_drewN | apply Kd.R_drew)); exact Kd.R_mono HO_5.out (fun _ hk => trivial)⟩, ⟨by repeat (first | (with_reducible first | exact HB.out | apply below_alloc | apply pw_below_drewN | apply below_drew1) | exact HB.out)⟩⟩
         ·
          rw [if_neg c55] at H
          exact absurd H (by simp)
        ·
         rw [if_neg c54] at H
         have c54b0 : decide (x7_2 < (x4_2.length : Int)) = false := decide_eq_false c54
         clear c54
         obtain rfl := Option.some.inj H
         obtain ⟨Ao76, co76, eo76⟩ := Kd.S_slice HO_4.out
         subst eo76
         go_wp2
         go_ret
         exact ⟨_, by first | rfl | (simp [errW_none, errW_some] <;> rfl) | (simp only [← hji3]; first | rfl | (simp [errW_none, errW_some] <;> rfl)) | (simp [*, errW_none, errW_some] <;> rfl), by (with_reducible repeat (first | apply Kd.S_alloc | apply Kd.S_drewN | apply Kd.S_drew)); exact Kd.S_mono HO_4.out (fun _ hk => trivial), by repeat (first | (with_reducible first | exact HB.out | apply below_alloc | apply pw_below_drewN | apply below_drew1) | exact HB.out)⟩
  ·
   rw [if_neg c5] at H
   exact absurd H (by simp)
 ·
  rw [if_neg c4] at H
  exact absurd H (by simp)

end Go.Proofs.Ytfiffhcpgojkhaa.QFlowBlocks
