-- Printed by a program of this session's over the kit's printer (wip/patch_print.py).
import Derived.Test.YtfiffhcpgojkhaaDoorQLoopNestsx0
import Derived.Test.YtfiffhcpgojkhaaDoorQLoopNestsx1
import Derived.Test.YtfiffhcpgojkhaaDoorQLoopNestsx3
import Derived.Test.YtfiffhcpgojkhaaDoorQLoopNestsx5
import Derived.Test.YtfiffhcpgojkhaaDoorFindLoopNests
namespace Go.Proofs.YtfiffhcpgojkhaaDoor.QLoopNests
open Go.RowKit Go.Proofs.YtfiffhcpgojkhaaDoor Go.Proofs.YtfiffhcpgojkhaaDoorW.PrintWords Go.Proofs.YtfiffhcpgojkhaaDoorW.PrintLast Go.Proofs.YtfiffhcpgojkhaaDoorW.PrintMore
attribute [local go_sem] setCell_drewN0 max2_int min2_int max_two min_two max_three min_three max_four min_four   -- for this text's walks alone
set_option linter.unusedVariables false
set_option linter.unusedSimpArgs false

/-! ### ladderbacklaw33_LoopNests: function 4 -/
theorem p6_0 {P : Prop} (h : P := by first | (with_reducible assumption) | assumption) : P := h
theorem p6_1 {P : Prop} (h : P := by (try simp only [List.map_toArray, List.map_cons, List.map_nil]); first | done | rfl | (simp only [List.length_drop, List.length_take]; rfl)) : P := h
theorem p6_2 {P : Prop} (h : P := by first | rfl | (simp; done) | (simp [*]; done)) : P := h
theorem p6_3 {P : Prop} (h : P := by repeat (first | (with_reducible first | exact HB.out | apply below_alloc | apply pw_below_drewN | apply below_drew1) | exact HB.out)) : P := h
theorem p6_4 {P : Prop} (h : P := by first | exact q194 | exact of_decide_eq_true p6_0 | (have e_ := (Kd.S_reads' HO_3.out).1; omega)) : P := h
theorem p6_5 {P : Prop} (h : P := by repeat (first | (with_reducible exact HR191_1.out) | (with_reducible refine Kd.C_alloc ?_ _) | (with_reducible refine Kd.C_drewN ?_ _) | (with_reducible refine Kd.C_drew ?_) | exact HR191_1.out)) : P := h
theorem p6_6 {P : Prop} (h : P := by repeat (first | (with_reducible exact HR196_1.out) | (with_reducible refine Kd.C_alloc ?_ _) | (with_reducible refine Kd.C_drewN ?_ _) | (with_reducible refine Kd.C_drew ?_) | exact HR196_1.out)) : P := h
theorem p6_7 {P : Prop} (h : P := by repeat (first | (with_reducible exact HR195_1.out) | (with_reducible refine Kd.C_alloc ?_ _) | (with_reducible refine Kd.C_drewN ?_ _) | (with_reducible refine Kd.C_drew ?_) | exact HR195_1.out)) : P := h
mutual
def ladderbacklaw33_LoopNests.l0 : Nat → List (List Int) → List (S35) → Int → Option (Bool)
 | 0, _, _, _ => none
 | k + 1, x0, x3, x4 => if x4 < (x3.length : Int) then (ladderbacklaw33_LoopNests.l1 k x0 x3 x4 0) else ((ladderbacklaw33_awake.f k).bind fun t188 => (some t188))
def ladderbacklaw33_LoopNests.l1 : Nat → List (List Int) → List (S35) → Int → Int → Option (Bool)
 | 0, _, _, _, _ => none
 | k + 1, x0, x3, x4, x5 => if 0 ≤ x4 then (if x4 < (x3.length : Int) then (if x5 < (((rd_T35 x3 x4).f1).length : Int) then (if 0 ≤ x5 then ((ladderbackref31_Dominates.f k x0 ((rd_T35 x3 x4).f0) (rd ((rd_T35 x3 x4).f1) x5)).bind fun t193 => (if t193 = true then (ladderbacklaw33_LoopNests.l1 k x0 x3 x4 (wrap64 (x5 + 1))) else (some false))) else (none)) else (ladderbacklaw33_LoopNests.l2 k x0 x3 x4 0)) else (none)) else (none)
def ladderbacklaw33_LoopNests.l2 : Nat → List (List Int) → List (S35) → Int → Int → Option (Bool)
 | 0, _, _, _, _ => none
 | k + 1, x0, x3, x4, x6 => if x6 < x4 then (ladderbacklaw33_LoopNests.l3 k x0 x3 x4 x6 0 0) else (ladderbacklaw33_LoopNests.l0 k x0 x3 (wrap64 (x4 + 1)))
def ladderbacklaw33_LoopNests.l3 : Nat → List (List Int) → List (S35) → Int → Int → Int → Int → Option (Bool)
 | 0, _, _, _, _, _, _ => none
 | k + 1, x0, x3, x4, x6, x7, x8 => if 0 ≤ x4 then (if x4 < (x3.length : Int) then (if x8 < (((rd_T35 x3 x4).f1).length : Int) then (if 0 ≤ x6 then (if x6 < (x3.length : Int) then (if 0 ≤ x8 then ((ladderbackref30_Has.f k ((rd_T35 x3 x6).f1) (rd ((rd_T35 x3 x4).f1) x8)).bind fun t198 => (if t198 = true then (ladderbacklaw33_LoopNests.l3 k x0 x3 x4 x6 (wrap64 (x7 + 1)) (wrap64 (x8 + 1))) else (ladderbacklaw33_LoopNests.l3 k x0 x3 x4 x6 x7 (wrap64 (x8 + 1))))) else (none)) else (none)) else (none)) else (if x7 = 0 then (ladderbacklaw33_LoopNests.l2 k x0 x3 x4 (wrap64 (x6 + 1))) else (if x7 = (((rd_T35 x3 x4).f1).length : Int) then (ladderbacklaw33_LoopNests.l2 k x0 x3 x4 (wrap64 (x6 + 1))) else (if 0 ≤ x6 then (if x6 < (x3.length : Int) then (if x7 = (((rd_T35 x3 x6).f1).length : Int) then (ladderbacklaw33_LoopNests.l2 k x0 x3 x4 (wrap64 (x6 + 1))) else (some false)) else (none)) else (none))))) else (none)) else (none)
end
def ladderbacklaw33_LoopNests.f (k : Nat) (l0 : List (List Int)) : Option (Bool) := (ladderbackref31_Few.f k l0 16).bind fun t183 => (if t183 = true then ((loop_Find.f k l0).bind fun t185 => (ladderbacklaw33_LoopNests.l0 k l0 t185 0)) else ((ladderbacklaw33_awake.f k).bind fun t184 => (some t184)))
theorem ladderbacklaw33_LoopNests.mono_l : ∀ k, (∀ y0 y1 y2, LeO (ladderbacklaw33_LoopNests.l0 k y0 y1 y2) (ladderbacklaw33_LoopNests.l0 (k + 1) y0 y1 y2)) ∧ (∀ y0 y1 y2 y3, LeO (ladderbacklaw33_LoopNests.l1 k y0 y1 y2 y3) (ladderbacklaw33_LoopNests.l1 (k + 1) y0 y1 y2 y3)) ∧ (∀ y0 y1 y2 y3, LeO (ladderbacklaw33_LoopNests.l2 k y0 y1 y2 y3) (ladderbacklaw33_LoopNests.l2 (k + 1) y0 y1 y2 y3)) ∧ (∀ y0 y1 y2 y3 y4 y5, LeO (ladderbacklaw33_LoopNests.l3 k y0 y1 y2 y3 y4 y5) (ladderbacklaw33_LoopNests.l3 (k + 1) y0 y1 y2 y3 y4 y5))
 | 0 => ⟨fun _ _ _ r h => by simp [ladderbacklaw33_LoopNests.l0] at h, fun _ _ _ _ r h => by simp [ladderbacklaw33_LoopNests.l1] at h, fun _ _ _ _ r h => by simp [ladderbacklaw33_LoopNests.l2] at h, fun _ _ _ _ _ _ r h => by simp [ladderbacklaw33_LoopNests.l3] at h⟩
 | k + 1 => by
  obtain ⟨ih0, ih1, ih2, ih3⟩ := ladderbacklaw33_LoopNests.mono_l k
  refine ⟨?_, ?_, ?_, ?_⟩
  ·
   intro y0 y1 y2
   unfold ladderbacklaw33_LoopNests.l0
   repeat' first
   | (with_reducible exact ih0 _ _ _)
   | (with_reducible exact ih1 _ _ _ _)
   | (with_reducible exact ih2 _ _ _ _)
   | (with_reducible exact ih3 _ _ _ _ _ _)
   | (with_reducible exact ladderbacklaw33_awake.mono _)
   | (with_reducible exact ladderbackref30_Has.mono _ _ _)
   | (with_reducible exact ladderbackref31_Dominates.mono _ _ _ _)
   | (with_reducible exact ladderbackref31_Few.mono _ _ _)
   | (with_reducible exact loop_Find.mono _ _)
   | (with_reducible exact LeO.refl _)
   | (with_reducible exact LeO.none _)
   | (with_reducible refine LeO.ite ?_ ?_)
   | (with_reducible refine LeO.bind ?_ (fun _ => ?_))
   | exact ih0 _ _ _
   | exact ih1 _ _ _ _
   | exact ih2 _ _ _ _
   | exact ih3 _ _ _ _ _ _
   | exact ladderbacklaw33_awake.mono _
   | exact ladderbackref30_Has.mono _ _ _
   | exact ladderbackref31_Dominates.mono _ _ _ _
   | exact ladderbackref31_Few.mono _ _ _
   | exact loop_Find.mono _ _
   | exact LeO.none _
   | refine LeO.ite ?_ ?_
   | refine LeO.bind ?_ (fun _ => ?_)
  ·
   intro y0 y1 y2 y3
   unfold ladderbacklaw33_LoopNests.l1
   repeat' first
   | (with_reducible exact ih0 _ _ _)
   | (with_reducible exact ih1 _ _ _ _)
   | (with_reducible exact ih2 _ _ _ _)
   | (with_reducible exact ih3 _ _ _ _ _ _)
   | (with_reducible exact ladderbacklaw33_awake.mono _)
   | (with_reducible exact ladderbackref30_Has.mono _ _ _)
   | (with_reducible exact ladderbackref31_Dominates.mono _ _ _ _)
   | (with_reducible exact ladderbackref31_Few.mono _ _ _)
   | (with_reducible exact loop_Find.mono _ _)
   | (with_reducible exact LeO.refl _)
   | (with_reducible exact LeO.none _)
   | (with_reducible refine LeO.ite ?_ ?_)
   | (with_reducible refine LeO.bind ?_ (fun _ => ?_))
   | exact ih0 _ _ _
   | exact ih1 _ _ _ _
   | exact ih2 _ _ _ _
   | exact ih3 _ _ _ _ _ _
   | exact ladderbacklaw33_awake.mono _
   | exact ladderbackref30_Has.mono _ _ _
   | exact ladderbackref31_Dominates.mono _ _ _ _
   | exact ladderbackref31_Few.mono _ _ _
   | exact loop_Find.mono _ _
   | exact LeO.none _
   | refine LeO.ite ?_ ?_
   | refine LeO.bind ?_ (fun _ => ?_)
  ·
   intro y0 y1 y2 y3
   unfold ladderbacklaw33_LoopNests.l2
   repeat' first
   | (with_reducible exact ih0 _ _ _)
   | (with_reducible exact ih1 _ _ _ _)
   | (with_reducible exact ih2 _ _ _ _)
   | (with_reducible exact ih3 _ _ _ _ _ _)
   | (with_reducible exact ladderbacklaw33_awake.mono _)
   | (with_reducible exact ladderbackref30_Has.mono _ _ _)
   | (with_reducible exact ladderbackref31_Dominates.mono _ _ _ _)
   | (with_reducible exact ladderbackref31_Few.mono _ _ _)
   | (with_reducible exact loop_Find.mono _ _)
   | (with_reducible exact LeO.refl _)
   | (with_reducible exact LeO.none _)
   | (with_reducible refine LeO.ite ?_ ?_)
   | (with_reducible refine LeO.bind ?_ (fun _ => ?_))
   | exact ih0 _ _ _
   | exact ih1 _ _ _ _
   | exact ih2 _ _ _ _
   | exact ih3 _ _ _ _ _ _
   | exact ladderbacklaw33_awake.mono _
   | exact ladderbackref30_Has.mono _ _ _
   | exact ladderbackref31_Dominates.mono _ _ _ _
   | exact ladderbackref31_Few.mono _ _ _
   | exact loop_Find.mono _ _
   | exact LeO.none _
   | refine LeO.ite ?_ ?_
   | refine LeO.bind ?_ (fun _ => ?_)
  ·
   intro y0 y1 y2 y3 y4 y5
   unfold ladderbacklaw33_LoopNests.l3
   repeat' first
   | (with_reducible exact ih0 _ _ _)
   | (with_reducible exact ih1 _ _ _ _)
   | (with_reducible exact ih2 _ _ _ _)
   | (with_reducible exact ih3 _ _ _ _ _ _)
   | (with_reducible exact ladderbacklaw33_awake.mono _)
   | (with_reducible exact ladderbackref30_Has.mono _ _ _)
   | (with_reducible exact ladderbackref31_Dominates.mono _ _ _ _)
   | (with_reducible exact ladderbackref31_Few.mono _ _ _)
   | (with_reducible exact loop_Find.mono _ _)
   | (with_reducible exact LeO.refl _)
   | (with_reducible exact LeO.none _)
   | (with_reducible refine LeO.ite ?_ ?_)
   | (with_reducible refine LeO.bind ?_ (fun _ => ?_))
   | exact ih0 _ _ _
   | exact ih1 _ _ _ _
   | exact ih2 _ _ _ _
   | exact ih3 _ _ _ _ _ _
   | exact ladderbacklaw33_awake.mono _
   | exact ladderbackref30_Has.mono _ _ _
   | exact ladderbackref31_Dominates.mono _ _ _ _
   | exact ladderbackref31_Few.mono _ _ _
   | exact loop_Find.mono _ _
   | exact LeO.none _
   | refine LeO.ite ?_ ?_
   | refine LeO.bind ?_ (fun _ => ?_)
theorem ladderbacklaw33_LoopNests.mono : ∀ a0 k, LeO (ladderbacklaw33_LoopNests.f k a0) (ladderbacklaw33_LoopNests.f (k + 1) a0) := by
 intro a0 k
 obtain ⟨ih0, ih1, ih2, ih3⟩ := ladderbacklaw33_LoopNests.mono_l k
 unfold ladderbacklaw33_LoopNests.f
 repeat' first
   | (with_reducible exact ih0 _ _ _)
   | (with_reducible exact ih1 _ _ _ _)
   | (with_reducible exact ih2 _ _ _ _)
   | (with_reducible exact ih3 _ _ _ _ _ _)
   | (with_reducible exact ladderbacklaw33_awake.mono _)
   | (with_reducible exact ladderbackref30_Has.mono _ _ _)
   | (with_reducible exact ladderbackref31_Dominates.mono _ _ _ _)
   | (with_reducible exact ladderbackref31_Few.mono _ _ _)
   | (with_reducible exact loop_Find.mono _ _)
   | (with_reducible exact LeO.refl _)
   | (with_reducible exact LeO.none _)
   | (with_reducible refine LeO.ite ?_ ?_)
   | (with_reducible refine LeO.bind ?_ (fun _ => ?_))
   | exact ih0 _ _ _
   | exact ih1 _ _ _ _
   | exact ih2 _ _ _ _
   | exact ih3 _ _ _ _ _ _
   | exact ladderbacklaw33_awake.mono _
   | exact ladderbackref30_Has.mono _ _ _
   | exact ladderbackref31_Dominates.mono _ _ _ _
   | exact ladderbackref31_Few.mono _ _ _
   | exact loop_Find.mono _ _
   | exact LeO.none _
   | refine LeO.ite ?_ ?_
   | refine LeO.bind ?_ (fun _ => ?_)
def ladderbacklaw33_LoopNests.T10 : Bool × List (List Nat × List Nat) := (true, [([], []), ([], []), ([], []), ([1, 2], [1, 2]), ([3], [3]), ([4], [4]), ([], []), ([], []), ([6, 7], [6, 7]), ([8], [8]), ([9], [9]), ([], []), ([10, 11], [10, 11]), ([12], [12]), ([0, 5, 13], [0, 5, 13]), ([14], [14])])
def ladderbacklaw33_LoopNests.B10 : List Nat := [0, 0, 0, 6, 14, 30, 0, 0, 192, 448, 960, 0, 4032, 8128, 16383, 32767]
theorem ladderbacklaw33_LoopNests.tab10 : rtab .any (opsOf Tryd.f4 10) = ladderbacklaw33_LoopNests.T10 := by kernel_rfl
theorem ladderbacklaw33_LoopNests.bits10 : waitsOk ladderbacklaw33_LoopNests.T10.2 ladderbacklaw33_LoopNests.B10 = true := by kernel_rfl
def ladderbacklaw33_LoopNests.T19 : Bool × List (List Nat × List Nat) := (true, [([], []), ([], []), ([0, 1], [0, 1]), ([2], [2]), ([3], [3]), ([], []), ([], []), ([5, 6], [5, 6]), ([7], [7]), ([8], [8]), ([], []), ([9, 10], [9, 10]), ([11], [11]), ([4, 12], [4, 12])])
def ladderbacklaw33_LoopNests.B19 : List Nat := [0, 0, 3, 7, 15, 0, 0, 96, 224, 480, 0, 2016, 4064, 8191]
theorem ladderbacklaw33_LoopNests.tab19 : rtab .any (opsOf Tryd.f4 19) = ladderbacklaw33_LoopNests.T19 := by kernel_rfl
theorem ladderbacklaw33_LoopNests.bits19 : waitsOk ladderbacklaw33_LoopNests.T19.2 ladderbacklaw33_LoopNests.B19 = true := by kernel_rfl
set_option maxHeartbeats 8000000 in
set_option maxRecDepth 100000 in
theorem ladderbacklaw33_LoopNests.calls (k : Nat) (A0 : Option Addr) (c0 : Nat) (l0 : List (List Int)) (r : Bool) (w : World) (hr0 : Kd.C (Kd.slice 3 (Kd.int .i64)) w A0 l0.length l0) (hc0 : l0.length ≤ c0) (h : ladderbacklaw33_LoopNests.f k l0 = some r) (hrt_ : r = true := by rfl) (hL_ : Laid w := by repeat (first | exact hL_ | exact Laid.below hL_ HB.out | apply Laid.drewN | apply Laid.drew | apply Laid.alloc | (refine Laid.below hL_ ?_; repeat (first | (with_reducible first | exact HB.out | apply below_alloc | apply pw_below_drewN | apply below_drew1 | refine below_set ?_ (Aside0.out (by assumption))) | exact HB.out)))) :
  Calls Tryd.prog 4 #[.slice A0 l0.length c0] w fun e w' => e = .returned (.bool r) ∧ Below w.heap.size w w' := by
 have HR0 := Aside0.mk hr0
 have HC0 := Aside0.mk hc0
 clear hr0 hc0
 have HB := Aside0.mk (Below.refl w.heap.size w)
 have H : ((ladderbackref31_Few.f k l0 16).bind fun t183 => (if t183 = true then ((loop_Find.f k l0).bind fun t185 => (ladderbacklaw33_LoopNests.l0 k l0 t185 0)) else ((ladderbacklaw33_awake.f k).bind fun t184 => (some t184)))) = some r := h
 clear h
 have HRT := Aside0.mk hrt_
 clear hrt_
 replace H := Option.bind_eq_some_iff.mp H
 obtain ⟨t183, A20, H⟩ := H
 replace H : (if t183 = true then ((loop_Find.f k l0).bind fun t185 => (ladderbacklaw33_LoopNests.l0 k l0 t185 0)) else ((ladderbacklaw33_awake.f k).bind fun t184 => (some t184))) = some r := H
 have A2 := Aside0.mk A20
 clear A20
 by_cases c3 : t183 = true
 ·
  subst c3
  have H1 : ((loop_Find.f k l0).bind fun t185 => (ladderbacklaw33_LoopNests.l0 k l0 t185 0)) = some r := by rw [if_pos rfl] at H; exact H
  clear H
  have H := H1
  clear H1
  replace H := Option.bind_eq_some_iff.mp H
  obtain ⟨t185, A40, H⟩ := H
  replace H : (ladderbacklaw33_LoopNests.l0 k l0 t185 0) = some r := H
  have A4 := Aside0.mk A40
  clear A40
  have H' := Aside0.mk H
  clear H
  go_enter Tryd.func4, Tryd.ntmps4
  go_wp2_with (first | ((with_reducible refine gate_callee (f := 5) rfl ?_); refine goesL_ (some 10) rfl rfl Tryd.func5 (by kernel_rfl) rfl #[.slice A0 l0.length c0, .int .i64 16] rfl p6_1 ?_; (with_reducible refine (ladderbackref31_Few.calls k _ _ l0 16 true _ ?side1 ?side2 A2.out).mono ?_); (case side1 => repeat (first | exact HR0.out | (with_reducible refine Kd.C_alloc ?_ _) | (with_reducible refine Kd.C_drewN ?_ _) | (with_reducible refine Kd.C_drew ?_))); (case side2 => exact HC0.out); rintro e w' ⟨rfl, ⟨nd, rfl⟩⟩; refine ⟨_, rfl, ?_⟩) | ((with_reducible refine gate_callee (f := 10) rfl ?_); refine goesL_ (some 14) rfl rfl Tryd.func10 (by kernel_rfl) rfl #[.slice A0 l0.length c0] rfl p6_1 ?_; (with_reducible refine (loop_Find.calls k _ _ l0 t185 _ ?side1 ?side2 A4.out (hL_ := ?hL_)).mono ?_); (case hL_ => repeat (first | exact hL_ | exact Laid.below hL_ HB.out | apply Laid.drewN | apply Laid.drew | apply Laid.alloc | (refine Laid.below hL_ ?_; repeat (first | (with_reducible first | exact HB.out | apply below_alloc | apply pw_below_drewN | apply below_drew1 | refine below_set ?_ (Aside0.out (by assumption))) | exact HB.out)))); (case side1 => repeat (first | exact HR0.out | (with_reducible refine Kd.C_alloc ?_ _) | (with_reducible refine Kd.C_drewN ?_ _) | (with_reducible refine Kd.C_drew ?_))); (case side2 => exact HC0.out); rintro e w5 ⟨v186, rfl, ho0, hb⟩; refine ⟨_, rfl, ?_⟩; have n0_ := Aside0.mk (Kd.S_lower ho0 (below_size p6_3)); have n1_ := Aside0.mk (below_step p6_3 hb); clear HB; have HO187 := n0_; have HB := n1_; clear n0_ n1_; (try clear hb); (try clear hb2); (try clear hk); (try clear hi); (try clear ho0)))
  go_loopg [4] k (fun kq v4 w' => ∃ (x4_1 : Int), v4 = .int .i64 x4_1 ∧ Aside0 (ladderbacklaw33_LoopNests.l0 kq l0 t185 x4_1 = some r) ∧ Aside0 (kq ≤ k) ∧ Aside0 (Kd.S k35 35 w' w.heap.size (fun _ => True) v186 t185) ∧ Aside0 (Below w.heap.size w w'))
  case atStart => exact ⟨(0), p6_2, H', ⟨Nat.le_refl _⟩, ⟨by (with_reducible repeat (first | apply Kd.S_alloc | apply Kd.S_drewN | apply Kd.S_drew)); exact HO187.out⟩, ⟨by repeat (first | (with_reducible first | exact HB.out | apply below_alloc | apply pw_below_drewN | apply below_drew1) | exact HB.out)⟩⟩
  case round =>
   clear H'
   try clear c3
   obtain ⟨x4_1, rfl, HA, HK1, HO_3, HB⟩ := hrel
   cases gk with
   | zero => exact absurd HA.out (by simp [ladderbacklaw33_LoopNests.l0])
   | succ k1 =>
    have H := HA.out
    clear HA
    simp only [ladderbacklaw33_LoopNests.l0] at H
    by_cases c6 : x4_1 < (t185.length : Int)
    ·
     rw [if_pos c6] at H
     have c6b0 : decide (x4_1 < (t185.length : Int)) = true := decide_eq_true c6
     clear c6
     have H' := Aside0.mk H
     clear H
     obtain ⟨Ao7, co7, eo7⟩ := Kd.S_slice HO_3.out
     subst eo7
     go_wp2
     go_loopg [5] k1 (fun kq v5 w' => ∃ (x5_2 : Int), v5 = .int .i64 x5_2 ∧ Aside0 (ladderbacklaw33_LoopNests.l1 kq l0 t185 x4_1 x5_2 = some r) ∧ Aside0 (kq ≤ k1) ∧ Aside0 (Kd.S k35 35 w' w.heap.size (fun _ => True) (.slice Ao7 t185.length co7) t185) ∧ Aside0 (Below w.heap.size w w'))
     case atStart => exact ⟨(0), p6_2, H', ⟨Nat.le_refl _⟩, ⟨by (with_reducible repeat (first | apply Kd.S_alloc | apply Kd.S_drewN | apply Kd.S_drew)); exact HO_3.out⟩, ⟨by repeat (first | (with_reducible first | exact HB.out | apply below_alloc | apply pw_below_drewN | apply below_drew1) | exact HB.out)⟩⟩
     case round =>
      clear H'
      (try clear c6); (try clear c6b0)
      obtain ⟨x5_2, rfl, HA, HK2, HO_3, HB⟩ := hrel
      cases gk with
      | zero => exact absurd HA.out (by simp [ladderbacklaw33_LoopNests.l1])
      | succ k2 =>
       have H := HA.out
       clear HA
       simp only [ladderbacklaw33_LoopNests.l1] at H
       by_cases c8 : 0 ≤ x4_1
       ·
        rw [if_pos c8] at H
        have c8b0 : decide (0 ≤ x4_1) = true := decide_eq_true c8
        clear c8
        by_cases c9 : x4_1 < (t185.length : Int)
        ·
         rw [if_pos c9] at H
         have c9b0 : decide (x4_1 < (t185.length : Int)) = true := decide_eq_true c9
         clear c9
         by_cases c10 : x5_2 < (((rd_T35 t185 x4_1).f1).length : Int)
         ·
          rw [if_pos c10] at H
          have c10b0 : decide (x5_2 < (((rd_T35 t185 x4_1).f1).length : Int)) = true := decide_eq_true c10
          clear c10
          by_cases c11 : 0 ≤ x5_2
          ·
           rw [if_pos c11] at H
           have c11b0 : decide (0 ≤ x5_2) = true := decide_eq_true c11
           clear c11
           replace H := Option.bind_eq_some_iff.mp H
           obtain ⟨t193, A120, H⟩ := H
           replace H : (if t193 = true then (ladderbacklaw33_LoopNests.l1 k2 l0 t185 x4_1 (wrap64 (x5_2 + 1))) else (some false)) = some r := H
           have A12 := Aside0.mk A120
           clear A120
           by_cases c13 : t193 = true
           ·
            subst c13
            have H1 : (ladderbacklaw33_LoopNests.l1 k2 l0 t185 x4_1 (wrap64 (x5_2 + 1))) = some r := by rw [if_pos rfl] at H; exact H
            clear H
            have H := H1
            clear H1
            have H' := Aside0.mk H
            clear H
            have p189 : 0 ≤ (x4_1 : Int) := of_decide_eq_true p6_0
            have q189 : x4_1 < (t185.length : Int) := of_decide_eq_true p6_0
            obtain ⟨ad189, A189_1, c189_1, e189, hx189_0, hx189_1, hx189_2, hl189_1, hi189_1⟩ := at_T35 (Kd.S_reads' HO_3.out).2.2 x4_1 p189 q189
            cases e189
            obtain ⟨ce189, hce189, hMe189, hcc189⟩ := Kd.S_get HO_3.out z35 x4_1 p189 (by first | exact q189 | exact of_decide_eq_true p6_0 | (have e_ := (Kd.S_reads' HO_3.out).1; omega))
            obtain ⟨ve189_1, rfl, ge189_1⟩ := k35_openM hMe189
            have hv189_1 := hcc189 1 _ rfl
            rw [add_field _ _ 1 (by omega)] at hv189_1
            replace hv189_1 := Option.some.inj (hv189_1.symm.trans hx189_1)
            rw [hv189_1] at ge189_1
            have HL189_1 := Aside0.mk (show Kd.R (Kd.int .i64) 3 _ _ _ _ ((rd_T35 t185 x4_1).f1) from ge189_1)
            clear hv189_1 ge189_1
            clear hcc189 hce189
            have HR189_1 := Aside0.mk hi189_1
            have HC189_1 := Aside0.mk hl189_1
            clear hi189_1 hl189_1
            replace p189 := eq_true p189
            replace q189 := eq_true q189
            try go_wp2
            have n0_ := Aside0.mk (Kd.S_drew HO_3.out)
            have n1_ := Aside0.mk (Kd.R_drew HL189_1.out)
            have n2_ := Aside0.mk (Kd.C_drew HR189_1.out)
            have n3_ := Aside0.mk (below_drew1 HB.out)
            clear HO_3
            clear HL189_1
            clear HR189_1
            clear HB
            have HO_3 := n0_
            have HL189_1 := n1_
            have HR189_1 := n2_
            have HB := n3_
            clear n0_ n1_ n2_ n3_
            have p190 : 0 ≤ (x4_1 : Int) := of_decide_eq_true p6_0
            have q190 : x4_1 < (t185.length : Int) := of_decide_eq_true p6_0
            obtain ⟨ad190, A190_1, c190_1, e190, hx190_0, hx190_1, hx190_2, hl190_1, hi190_1⟩ := at_T35 (Kd.S_reads' HO_3.out).2.2 x4_1 p190 q190
            obtain rfl : ad189 = ad190 := (by injection e190)
            obtain ⟨ce190, hce190, hMe190, hcc190⟩ := Kd.S_get HO_3.out z35 x4_1 p190 (by first | exact q190 | exact of_decide_eq_true p6_0 | (have e_ := (Kd.S_reads' HO_3.out).1; omega))
            obtain ⟨ve190_1, rfl, ge190_1⟩ := k35_openM hMe190
            have hv190_1 := hcc190 1 _ rfl
            rw [add_field _ _ 1 (by omega)] at hv190_1
            replace hv190_1 := Option.some.inj (hv190_1.symm.trans hx190_1)
            rw [hv190_1] at ge190_1
            have HL190_1 := Aside0.mk (show Kd.R (Kd.int .i64) 3 _ _ _ _ ((rd_T35 t185 x4_1).f1) from ge190_1)
            clear hv190_1 ge190_1
            clear hcc190 hce190
            have HR190_1 := Aside0.mk hi190_1
            have HC190_1 := Aside0.mk hl190_1
            clear hi190_1 hl190_1
            replace p190 := eq_true p190
            replace q190 := eq_true q190
            have p191 : 0 ≤ (x4_1 : Int) := of_decide_eq_true p6_0
            have q191 : x4_1 < (t185.length : Int) := of_decide_eq_true p6_0
            obtain ⟨ad191, A191_1, c191_1, e191, hx191_0, hx191_1, hx191_2, hl191_1, hi191_1⟩ := at_T35 (Kd.S_reads' HO_3.out).2.2 x4_1 p191 q191
            obtain rfl : ad189 = ad191 := (by injection e191)
            obtain ⟨ce191, hce191, hMe191, hcc191⟩ := Kd.S_get HO_3.out z35 x4_1 p191 (by first | exact q191 | exact of_decide_eq_true p6_0 | (have e_ := (Kd.S_reads' HO_3.out).1; omega))
            obtain ⟨ve191_1, rfl, ge191_1⟩ := k35_openM hMe191
            have hv191_1 := hcc191 1 _ rfl
            rw [add_field _ _ 1 (by omega)] at hv191_1
            replace hv191_1 := Option.some.inj (hv191_1.symm.trans hx191_1)
            rw [hv191_1] at ge191_1
            have HL191_1 := Aside0.mk (show Kd.R (Kd.int .i64) 3 _ _ _ _ ((rd_T35 t185 x4_1).f1) from ge191_1)
            clear hv191_1 ge191_1
            clear hcc191 hce191
            have HR191_1 := Aside0.mk hi191_1
            have HC191_1 := Aside0.mk hl191_1
            clear hi191_1 hl191_1
            replace p191 := eq_true p191
            replace q191 := eq_true q191
            have ea_ := Option.some.inj (hx190_1.symm.trans hx191_1)
            injection ea_ with ea_ en_ ec_
            subst ea_
            subst ec_
            clear en_
            have p192 : 0 ≤ (x5_2 : Int) := of_decide_eq_true p6_0
            have q192 : x5_2 < (((rd_T35 t185 x4_1).f1).length : Int) := of_decide_eq_true p6_0
            obtain ⟨ad192, e192, hx192_0⟩ := Kd.at_int p6_5 x5_2 p192 q192
            cases e192
            replace p192 := eq_true p192
            replace q192 := eq_true q192
            refine start_ (n := 16) (S := fun w' => w'.cell? (ad189.add ((x4_1).toNat * 3)) = some (.int .i64 ((rd_T35 t185 x4_1).f0)) ∧ w'.cell? ⟨(ad189.add ((x4_1).toNat * 3)).block, (ad189.add ((x4_1).toNat * 3)).off + 1, none⟩ = some (.slice (some ad192) ((rd_T35 t185 x4_1).f1).length c190_1) ∧ w'.cell? ⟨(ad189.add ((x4_1).toNat * 3)).block, (ad189.add ((x4_1).toNat * 3)).off + 2, none⟩ = some (.int .i64 ((rd_T35 t185 x4_1).f2)) ∧ w'.cell? (ad189.add ((x4_1).toNat * 3)) = some (.int .i64 ((rd_T35 t185 x4_1).f0)) ∧ w'.cell? ⟨(ad189.add ((x4_1).toNat * 3)).block, (ad189.add ((x4_1).toNat * 3)).off + 1, none⟩ = some (.slice (some ad192) ((rd_T35 t185 x4_1).f1).length c190_1) ∧ w'.cell? ⟨(ad189.add ((x4_1).toNat * 3)).block, (ad189.add ((x4_1).toNat * 3)).off + 2, none⟩ = some (.int .i64 ((rd_T35 t185 x4_1).f2)) ∧ w'.cell? (ad192.add (x5_2).toNat) = some (.int .i64 (rd ((rd_T35 t185 x4_1).f1) x5_2))) (ds := []) #[false, false, false, false, false, false, false, false, false, false, false, false, false, false, false, false] (by kernel_rfl) rfl rfl ⟨hx190_0, hx190_1, hx190_2, hx191_0, hx191_1, hx191_2, hx192_0⟩ (fun hHeld => ?_); refine with_tabW ladderbacklaw33_LoopNests.tab10 ladderbacklaw33_LoopNests.bits10 (fun HT_ HW_ => ?_)
            generalize wr.drew = w14 at HO_3 HL189_1 HR189_1 HB HL190_1 HL191_1 HR190_1 HR191_1 hx190_0 hx190_1 hx190_2 hx191_0 hx191_1 hx191_2 hx192_0 hHeld ⊢
            refine pure_ (i := 0) (N := some 31) (v := ?_) (a' := ?_) #[true, false, false, false, false, false, false, false, false, false, false, false, false, false, false, false] rfl rfl (any_of HT_.out (by kernel_rfl)) (fun _ _ _ h => h) (Or.inl ⟨by rfl, ?_⟩) ?_ ?_
            rotate_left
            ·
             intro w'
             go_simp
             with_reducible rfl
            rotate_left
            ·
             simp only [Act.put, List.setIfInBounds_toArray, List.set_cons_zero, List.set_cons_succ, i64_w, i32_w]
             rfl
            refine pure_ (i := 1) (N := some 32) (v := ?_) (a' := ?_) #[true, true, false, false, false, false, false, false, false, false, false, false, false, false, false, false] rfl rfl (any_of HT_.out (by kernel_rfl)) (fun _ _ _ h => h) (Or.inl ⟨by rfl, ?_⟩) ?_ ?_
            rotate_left
            ·
             intro w'
             go_simp
             with_reducible rfl
            rotate_left
            ·
             simp only [Act.put, List.setIfInBounds_toArray, List.set_cons_zero, List.set_cons_succ, i64_w, i32_w]
             rfl
            refine pure_ (i := 2) (N := some 33) (v := ?_) (a' := ?_) #[true, true, true, false, false, false, false, false, false, false, false, false, false, false, false, false] rfl rfl (any_of HT_.out (by kernel_rfl)) (fun _ _ _ h => h) (Or.inl ⟨by rfl, ?_⟩) ?_ ?_
            rotate_left
            ·
             intro w'
             go_simp
             with_reducible rfl
            rotate_left
            ·
             simp only [Act.put, List.setIfInBounds_toArray, List.set_cons_zero, List.set_cons_succ, i64_w, i32_w]
             rfl
            refine pure_ (i := 3) (N := some 34) (v := ?_) (a' := ?_) #[true, true, true, true, false, false, false, false, false, false, false, false, false, false, false, false] rfl rfl (any_of HT_.out (by kernel_rfl)) (fun _ _ _ h => h) (Or.inl ⟨by rfl, ?_⟩) ?_ ?_
            rotate_left
            ·
             intro w'
             go_simp
             with_reducible rfl
            rotate_left
            ·
             simp only [Act.put, List.setIfInBounds_toArray, List.set_cons_zero, List.set_cons_succ, i64_w, i32_w]
             rfl
            refine pure_ (i := 4) (N := some 35) (v := ?_) (a' := ?_) #[true, true, true, true, true, false, false, false, false, false, false, false, false, false, false, false] rfl rfl (any_of HT_.out (by kernel_rfl)) (fun _ _ _ h => h) (Or.inl ⟨by rfl, ?_⟩) ?_ ?_
            rotate_left
            ·
             intro w'
             go_simp
             with_reducible rfl
            rotate_left
            ·
             simp only [Act.put, List.setIfInBounds_toArray, List.set_cons_zero, List.set_cons_succ, i64_w, i32_w]
             rfl
            refine pure_ (i := 6) (N := some 37) (v := ?_) (a' := ?_) #[true, true, true, true, true, false, true, false, false, false, false, false, false, false, false, false] rfl rfl (any_of HT_.out (by kernel_rfl)) (fun _ _ _ h => h) (Or.inl ⟨by rfl, ?_⟩) ?_ ?_
            rotate_left
            ·
             intro w'
             go_simp
             with_reducible rfl
            rotate_left
            ·
             simp only [Act.put, List.setIfInBounds_toArray, List.set_cons_zero, List.set_cons_succ, i64_w, i32_w]
             rfl
            refine pure_ (i := 7) (N := some 38) (v := ?_) (a' := ?_) #[true, true, true, true, true, false, true, true, false, false, false, false, false, false, false, false] rfl rfl (any_of HT_.out (by kernel_rfl)) (fun _ _ _ h => h) (Or.inl ⟨by rfl, ?_⟩) ?_ ?_
            rotate_left
            ·
             intro w'
             go_simp
             with_reducible rfl
            rotate_left
            ·
             simp only [Act.put, List.setIfInBounds_toArray, List.set_cons_zero, List.set_cons_succ, i64_w, i32_w]
             rfl
            refine pure_ (i := 8) (N := some 39) (v := ?_) (a' := ?_) #[true, true, true, true, true, false, true, true, true, false, false, false, false, false, false, false] rfl rfl (any_of HT_.out (by kernel_rfl)) (fun _ _ _ h => h) (Or.inl ⟨by rfl, ?_⟩) ?_ ?_
            rotate_left
            ·
             intro w'
             go_simp
             with_reducible rfl
            rotate_left
            ·
             simp only [Act.put, List.setIfInBounds_toArray, List.set_cons_zero, List.set_cons_succ, i64_w, i32_w]
             rfl
            refine pure_ (i := 9) (N := some 40) (v := ?_) (a' := ?_) #[true, true, true, true, true, false, true, true, true, true, false, false, false, false, false, false] rfl rfl (any_of HT_.out (by kernel_rfl)) (fun _ _ _ h => h) (Or.inl ⟨by rfl, ?_⟩) ?_ ?_
            rotate_left
            ·
             intro w'
             go_simp
             with_reducible rfl
            rotate_left
            ·
             simp only [Act.put, List.setIfInBounds_toArray, List.set_cons_zero, List.set_cons_succ, i64_w, i32_w]
             rfl
            refine pure_ (i := 11) (N := some 42) (v := ?_) (a' := ?_) #[true, true, true, true, true, false, true, true, true, true, false, true, false, false, false, false] rfl rfl (any_of HT_.out (by kernel_rfl)) (fun _ _ _ h => h) (Or.inl ⟨by rfl, ?_⟩) ?_ ?_
            rotate_left
            ·
             intro w'
             go_simp
             with_reducible rfl
            rotate_left
            ·
             simp only [Act.put, List.setIfInBounds_toArray, List.set_cons_zero, List.set_cons_succ, i64_w, i32_w]
             rfl
            refine take_ (i := 5) (N := some 36) (v := ?_) (a' := ?_) #[true, true, true, true, true, true, true, true, true, true, false, true, false, false, false, false] rfl rfl (take_ofW HT_.out HW_.out (by kernel_rfl)) (fun _ _ _ h => h) (Or.inl ⟨by rfl, ?_⟩) hHeld ?_ ?_
            rotate_left
            ·
             rintro w' ⟨s0, s1, s2, s3, s4, s5, s6⟩
             go_simp
             with_reducible rfl
            rotate_left
            ·
             simp only [Act.put, List.setIfInBounds_toArray, List.set_cons_zero, List.set_cons_succ, i64_w, i32_w]
             rfl
            refine take_ (i := 10) (N := some 41) (v := ?_) (a' := ?_) #[true, true, true, true, true, true, true, true, true, true, true, true, false, false, false, false] rfl rfl (take_ofW HT_.out HW_.out (by kernel_rfl)) (fun _ _ _ h => h) (Or.inl ⟨by rfl, ?_⟩) hHeld ?_ ?_
            rotate_left
            ·
             rintro w' ⟨s0, s1, s2, s3, s4, s5, s6⟩
             go_simp
             with_reducible rfl
            rotate_left
            ·
             simp only [Act.put, List.setIfInBounds_toArray, List.set_cons_zero, List.set_cons_succ, i64_w, i32_w]
             rfl
            refine pure_ (i := 12) (N := some 43) (v := ?_) (a' := ?_) #[true, true, true, true, true, true, true, true, true, true, true, true, true, false, false, false] rfl rfl (any_of HT_.out (by kernel_rfl)) (fun _ _ _ h => h) (Or.inl ⟨by rfl, ?_⟩) ?_ ?_
            rotate_left
            ·
             intro w'
             go_simp
             with_reducible rfl
            rotate_left
            ·
             simp only [Act.put, List.setIfInBounds_toArray, List.set_cons_zero, List.set_cons_succ, i64_w, i32_w]
             rfl
            refine take_ (i := 13) (N := some 44) (v := ?_) (a' := ?_) #[true, true, true, true, true, true, true, true, true, true, true, true, true, true, false, false] rfl rfl (take_ofW HT_.out HW_.out (by kernel_rfl)) (fun _ _ _ h => h) (Or.inl ⟨by rfl, ?_⟩) hHeld ?_ ?_
            rotate_left
            ·
             rintro w' ⟨s0, s1, s2, s3, s4, s5, s6⟩
             go_simp
             with_reducible rfl
            rotate_left
            ·
             simp only [Act.put, List.setIfInBounds_toArray, List.set_cons_zero, List.set_cons_succ, i64_w, i32_w]
             rfl
            refine one_ (i := 14) (N := some 45) #[true, true, true, true, true, true, true, true, true, true, true, true, true, true, true, false] rfl rfl (one_of HT_.out (by kernel_rfl)) (by decide) (fun K hK => ?_)
            refine goes_ Tryd.func13 (by kernel_rfl) rfl #[.slice A0 l0.length c0, .int .i64 ((rd_T35 t185 x4_1).f0), .int .i64 (rd ((rd_T35 t185 x4_1).f1) x5_2)] (by rfl) rfl rfl p6_1 ?_
            with_reducible refine (ladderbackref31_Dominates.calls k2 _ _ l0 ((rd_T35 t185 x4_1).f0) (rd ((rd_T35 t185 x4_1).f1) x5_2) true _ ?side1 ?side2 A12.out).mono ?_
            (case side1 => repeat (first | exact (Kd.C_below HR0.out HB.out) | (with_reducible refine Kd.C_alloc ?_ _) | (with_reducible refine Kd.C_drewN ?_ _) | (with_reducible refine Kd.C_drew ?_)))
            (case side2 => exact HC0.out)
            rintro e w15 ⟨rfl, hb⟩
            have HS0_ := (hb.cell (World.block_lt_of_cell? _ _ (hHeld.1))).trans (hHeld.1)
            have HS1_ := (hb.cell (World.block_lt_of_cell? _ _ (hHeld.2.1))).trans (hHeld.2.1)
            have HS2_ := (hb.cell (World.block_lt_of_cell? _ _ (hHeld.2.2.1))).trans (hHeld.2.2.1)
            have HS3_ := (hb.cell (World.block_lt_of_cell? _ _ (hHeld.2.2.2.1))).trans (hHeld.2.2.2.1)
            have HS4_ := (hb.cell (World.block_lt_of_cell? _ _ (hHeld.2.2.2.2.1))).trans (hHeld.2.2.2.2.1)
            have HS5_ := (hb.cell (World.block_lt_of_cell? _ _ (hHeld.2.2.2.2.2.1))).trans (hHeld.2.2.2.2.2.1)
            have HS6_ := (hb.cell (World.block_lt_of_cell? _ _ (hHeld.2.2.2.2.2.2))).trans (hHeld.2.2.2.2.2.2)
            refine ⟨_, rfl, ?_⟩
            have n0_ := Aside0.mk (Kd.S_below (by (with_reducible repeat (first | apply Kd.S_alloc | apply Kd.S_drewN | apply Kd.S_drew)); exact HO_3.out) hb)
            have n1_ := Aside0.mk (Kd.R_below (by (with_reducible repeat (first | apply Kd.R_alloc | apply Kd.R_drewN | apply Kd.R_drew)); exact HL189_1.out) hb)
            have n2_ := Aside0.mk (Kd.R_below (by (with_reducible repeat (first | apply Kd.R_alloc | apply Kd.R_drewN | apply Kd.R_drew)); exact HL190_1.out) hb)
            have n3_ := Aside0.mk (Kd.R_below (by (with_reducible repeat (first | apply Kd.R_alloc | apply Kd.R_drewN | apply Kd.R_drew)); exact HL191_1.out) hb)
            have n4_ := Aside0.mk (Kd.C_below (by repeat (first | (with_reducible exact HR189_1.out) | (with_reducible refine Kd.C_alloc ?_ _) | (with_reducible refine Kd.C_drewN ?_ _) | (with_reducible refine Kd.C_drew ?_) | exact HR189_1.out)) hb)
            have n5_ := Aside0.mk (Kd.C_below (by repeat (first | (with_reducible exact HR190_1.out) | (with_reducible refine Kd.C_alloc ?_ _) | (with_reducible refine Kd.C_drewN ?_ _) | (with_reducible refine Kd.C_drew ?_) | exact HR190_1.out)) hb)
            have n6_ := Aside0.mk (Kd.C_below p6_5 hb)
            have n7_ := Aside0.mk (below_step p6_3 hb)
            clear HO_3
            clear HL189_1
            clear HL190_1
            clear HL191_1
            clear HR189_1
            clear HR190_1
            clear HR191_1
            clear HB
            have HO_3 := n0_
            have HL189_1 := n1_
            have HL190_1 := n2_
            have HL191_1 := n3_
            have HR189_1 := n4_
            have HR190_1 := n5_
            have HR191_1 := n6_
            have HB := n7_
            clear n0_ n1_ n2_ n3_ n4_ n5_ n6_ n7_
            (try clear hb)
            (try clear hb2)
            (try clear hk)
            (try clear hi)
            refine hK.out _ _ ⟨HS0_, HS1_, HS2_, HS3_, HS4_, HS5_, HS6_⟩ (fun hHeld => ?_)
            clear hK K
            refine norm_ (a' := ?_) ?_ ?_
            rotate_left
            ·
             show Act.put _ (some 45) _ = _
             simp only [Act.put, List.setIfInBounds_toArray, List.set_cons_zero, List.set_cons_succ, i64_w, i32_w]
             rfl
            refine pure_ (i := 15) (N := some 46) (v := ?_) (a' := ?_) #[true, true, true, true, true, true, true, true, true, true, true, true, true, true, true, true] rfl rfl (any_of HT_.out (by kernel_rfl)) (fun _ _ _ h => h) (Or.inl ⟨by rfl, ?_⟩) ?_ ?_
            rotate_left
            ·
             intro w'
             go_simp
             with_reducible rfl
            rotate_left
            ·
             simp only [Act.put, List.setIfInBounds_toArray, List.set_cons_zero, List.set_cons_succ, i64_w, i32_w]
             rfl
            refine done_ (done_of HT_.out (by kernel_rfl)) ?_
            try go_wp2
            go_roundg k2
            case measure => have := HK1.out; have := HK2.out; omega
            case rel => exact ⟨(wrap64 (x5_2 + 1)), p6_2, H', ⟨by have := HK1.out; have := HK2.out; omega⟩, ⟨by (with_reducible repeat (first | apply Kd.S_alloc | apply Kd.S_drewN | apply Kd.S_drew)); exact HO_3.out⟩, ⟨by repeat (first | (with_reducible first | exact HB.out | apply below_alloc | apply pw_below_drewN | apply below_drew1) | exact HB.out)⟩⟩
           ·
            replace c13 := Bool.eq_false_iff.mpr c13
            subst c13
            have H1 : (some false) = some r := by rw [if_neg (show ¬ (false = true) by decide)] at H; exact H
            clear H
            have H := H1
            clear H1
            exact absurd (Option.some.inj H) (by rw [HRT.out]; decide)
          ·
           rw [if_neg c11] at H
           exact absurd H (by simp)
         ·
          rw [if_neg c10] at H
          have c10b0 : decide (x5_2 < (((rd_T35 t185 x4_1).f1).length : Int)) = false := decide_eq_false c10
          clear c10
          have H' := Aside0.mk H
          clear H
          have p189 : 0 ≤ (x4_1 : Int) := of_decide_eq_true p6_0
          have q189 : x4_1 < (t185.length : Int) := of_decide_eq_true p6_0
          obtain ⟨ad189, A189_1, c189_1, e189, hx189_0, hx189_1, hx189_2, hl189_1, hi189_1⟩ := at_T35 (Kd.S_reads' HO_3.out).2.2 x4_1 p189 q189
          cases e189
          obtain ⟨ce189, hce189, hMe189, hcc189⟩ := Kd.S_get HO_3.out z35 x4_1 p189 (by first | exact q189 | exact of_decide_eq_true p6_0 | (have e_ := (Kd.S_reads' HO_3.out).1; omega))
          obtain ⟨ve189_1, rfl, ge189_1⟩ := k35_openM hMe189
          have hv189_1 := hcc189 1 _ rfl
          rw [add_field _ _ 1 (by omega)] at hv189_1
          replace hv189_1 := Option.some.inj (hv189_1.symm.trans hx189_1)
          rw [hv189_1] at ge189_1
          have HL189_1 := Aside0.mk (show Kd.R (Kd.int .i64) 3 _ _ _ _ ((rd_T35 t185 x4_1).f1) from ge189_1)
          clear hv189_1 ge189_1
          clear hcc189 hce189
          have HR189_1 := Aside0.mk hi189_1
          have HC189_1 := Aside0.mk hl189_1
          clear hi189_1 hl189_1
          replace p189 := eq_true p189
          replace q189 := eq_true q189
          go_wp2
          go_loopg [6] k2 (fun kq v6 w' => ∃ (x6_3 : Int), v6 = .int .i64 x6_3 ∧ Aside0 (ladderbacklaw33_LoopNests.l2 kq l0 t185 x4_1 x6_3 = some r) ∧ Aside0 (kq ≤ k2) ∧ Aside0 (Kd.S k35 35 w' w.heap.size (fun _ => True) (.slice (some ad189) t185.length co7) t185) ∧ Aside0 (Kd.C (Kd.int .i64) w' A189_1 ((rd_T35 t185 x4_1).f1).length ((rd_T35 t185 x4_1).f1)) ∧ Aside0 (Below w.heap.size w w'))
          case atStart => exact ⟨(0), p6_2, H', ⟨Nat.le_refl _⟩, ⟨by (with_reducible repeat (first | apply Kd.S_alloc | apply Kd.S_drewN | apply Kd.S_drew)); exact HO_3.out⟩, ⟨by repeat (first | (with_reducible exact HR189_1.out) | (with_reducible refine Kd.C_alloc ?_ _) | (with_reducible refine Kd.C_drewN ?_ _) | (with_reducible refine Kd.C_drew ?_) | exact HR189_1.out)⟩, ⟨by repeat (first | (with_reducible first | exact HB.out | apply below_alloc | apply pw_below_drewN | apply below_drew1) | exact HB.out)⟩⟩
          case round =>
           clear H'
           (try clear c8); (try clear c8b0); (try clear c9); (try clear c9b0); (try clear c10); (try clear c10b0); (try clear hx189_0); (try clear hx189_1); (try clear hx189_2); (try clear p189); (try clear q189)
           obtain ⟨x6_3, rfl, HA, HK3, HO_3, HR189_1, HB⟩ := hrel
           cases gk with
           | zero => exact absurd HA.out (by simp [ladderbacklaw33_LoopNests.l2])
           | succ k3 =>
            have H := HA.out
            clear HA
            simp only [ladderbacklaw33_LoopNests.l2] at H
            by_cases c16 : x6_3 < x4_1
            ·
             rw [if_pos c16] at H
             have c16b0 : decide (x6_3 < x4_1) = true := decide_eq_true c16
             clear c16
             have H' := Aside0.mk H
             clear H
             go_wp2
             go_loopg [7, 8] k3 (fun kq v7 v8 w' => ∃ (x7_4 : Int) (x8_4 : Int), v7 = .int .i64 x7_4 ∧ v8 = .int .i64 x8_4 ∧ Aside0 (ladderbacklaw33_LoopNests.l3 kq l0 t185 x4_1 x6_3 x7_4 x8_4 = some r) ∧ Aside0 (kq ≤ k3) ∧ Aside0 (Kd.S k35 35 w' w.heap.size (fun _ => True) (.slice (some ad189) t185.length co7) t185) ∧ Aside0 (Kd.C (Kd.int .i64) w' A189_1 ((rd_T35 t185 x4_1).f1).length ((rd_T35 t185 x4_1).f1)) ∧ Aside0 (Below w.heap.size w w'))
             case atStart => exact ⟨(0), (0), p6_2, p6_2, H', ⟨Nat.le_refl _⟩, ⟨by (with_reducible repeat (first | apply Kd.S_alloc | apply Kd.S_drewN | apply Kd.S_drew)); exact HO_3.out⟩, ⟨by repeat (first | (with_reducible exact HR189_1.out) | (with_reducible refine Kd.C_alloc ?_ _) | (with_reducible refine Kd.C_drewN ?_ _) | (with_reducible refine Kd.C_drew ?_) | exact HR189_1.out)⟩, ⟨by repeat (first | (with_reducible first | exact HB.out | apply below_alloc | apply pw_below_drewN | apply below_drew1) | exact HB.out)⟩⟩
             case round =>
              clear H'
              (try clear c16); (try clear c16b0)
              obtain ⟨x7_4, x8_4, rfl, rfl, HA, HK4, HO_3, HR189_1, HB⟩ := hrel
              cases gk with
              | zero => exact absurd HA.out (by simp [ladderbacklaw33_LoopNests.l3])
              | succ k4 =>
               have H := HA.out
               clear HA
               simp only [ladderbacklaw33_LoopNests.l3] at H
               by_cases c17 : 0 ≤ x4_1
               ·
                rw [if_pos c17] at H
                have c17b0 : decide (0 ≤ x4_1) = true := decide_eq_true c17
                clear c17
                by_cases c18 : x4_1 < (t185.length : Int)
                ·
                 rw [if_pos c18] at H
                 have c18b0 : decide (x4_1 < (t185.length : Int)) = true := decide_eq_true c18
                 clear c18
                 by_cases c19 : x8_4 < (((rd_T35 t185 x4_1).f1).length : Int)
                 ·
                  rw [if_pos c19] at H
                  have c19b0 : decide (x8_4 < (((rd_T35 t185 x4_1).f1).length : Int)) = true := decide_eq_true c19
                  clear c19
                  by_cases c20 : 0 ≤ x6_3
                  ·
                   rw [if_pos c20] at H
                   have c20b0 : decide (0 ≤ x6_3) = true := decide_eq_true c20
                   clear c20
                   by_cases c21 : x6_3 < (t185.length : Int)
                   ·
                    rw [if_pos c21] at H
                    have c21b0 : decide (x6_3 < (t185.length : Int)) = true := decide_eq_true c21
                    clear c21
                    by_cases c22 : 0 ≤ x8_4
                    ·
                     rw [if_pos c22] at H
                     have c22b0 : decide (0 ≤ x8_4) = true := decide_eq_true c22
                     clear c22
                     replace H := Option.bind_eq_some_iff.mp H
                     obtain ⟨t198, A230, H⟩ := H
                     replace H : (if t198 = true then (ladderbacklaw33_LoopNests.l3 k4 l0 t185 x4_1 x6_3 (wrap64 (x7_4 + 1)) (wrap64 (x8_4 + 1))) else (ladderbacklaw33_LoopNests.l3 k4 l0 t185 x4_1 x6_3 x7_4 (wrap64 (x8_4 + 1)))) = some r := H
                     have A23 := Aside0.mk A230
                     clear A230
                     by_cases c24 : t198 = true
                     ·
                      subst c24
                      have H1 : (ladderbacklaw33_LoopNests.l3 k4 l0 t185 x4_1 x6_3 (wrap64 (x7_4 + 1)) (wrap64 (x8_4 + 1))) = some r := by rw [if_pos rfl] at H; exact H
                      clear H
                      have H := H1
                      clear H1
                      have H' := Aside0.mk H
                      clear H
                      have p194 : 0 ≤ (x4_1 : Int) := of_decide_eq_true p6_0
                      have q194 : x4_1 < (t185.length : Int) := of_decide_eq_true p6_0
                      obtain ⟨ad194, A194_1, c194_1, e194, hx194_0, hx194_1, hx194_2, hl194_1, hi194_1⟩ := at_T35 (Kd.S_reads' HO_3.out).2.2 x4_1 p194 q194
                      obtain rfl : ad189 = ad194 := (by injection e194)
                      obtain ⟨ce194, hce194, hMe194, hcc194⟩ := Kd.S_get HO_3.out z35 x4_1 p194 p6_4
                      obtain ⟨ve194_1, rfl, ge194_1⟩ := k35_openM hMe194
                      have hv194_1 := hcc194 1 _ rfl
                      rw [add_field _ _ 1 (by omega)] at hv194_1
                      replace hv194_1 := Option.some.inj (hv194_1.symm.trans hx194_1)
                      rw [hv194_1] at ge194_1
                      have HL194_1 := Aside0.mk (show Kd.R (Kd.int .i64) 3 _ _ _ _ ((rd_T35 t185 x4_1).f1) from ge194_1)
                      clear hv194_1 ge194_1
                      clear hcc194 hce194
                      have HR194_1 := Aside0.mk hi194_1
                      have HC194_1 := Aside0.mk hl194_1
                      clear hi194_1 hl194_1
                      replace p194 := eq_true p194
                      replace q194 := eq_true q194
                      try go_wp2
                      have n0_ := Aside0.mk (Kd.S_drew HO_3.out)
                      have n1_ := Aside0.mk (Kd.R_drew HL194_1.out)
                      have n2_ := Aside0.mk (Kd.C_drew HR189_1.out)
                      have n3_ := Aside0.mk (Kd.C_drew HR194_1.out)
                      have n4_ := Aside0.mk (below_drew1 HB.out)
                      clear HO_3
                      clear HL194_1
                      clear HR189_1
                      clear HR194_1
                      clear HB
                      have HO_3 := n0_
                      have HL194_1 := n1_
                      have HR189_1 := n2_
                      have HR194_1 := n3_
                      have HB := n4_
                      clear n0_ n1_ n2_ n3_ n4_
                      have p195 : 0 ≤ (x6_3 : Int) := of_decide_eq_true p6_0
                      have q195 : x6_3 < (t185.length : Int) := of_decide_eq_true p6_0
                      obtain ⟨ad195, A195_1, c195_1, e195, hx195_0, hx195_1, hx195_2, hl195_1, hi195_1⟩ := at_T35 (Kd.S_reads' HO_3.out).2.2 x6_3 p195 q195
                      obtain rfl : ad189 = ad195 := (by injection e195)
                      obtain ⟨ce195, hce195, hMe195, hcc195⟩ := Kd.S_get HO_3.out z35 x6_3 p195 (by first | exact q195 | exact of_decide_eq_true p6_0 | (have e_ := (Kd.S_reads' HO_3.out).1; omega))
                      obtain ⟨ve195_1, rfl, ge195_1⟩ := k35_openM hMe195
                      have hv195_1 := hcc195 1 _ rfl
                      rw [add_field _ _ 1 (by omega)] at hv195_1
                      replace hv195_1 := Option.some.inj (hv195_1.symm.trans hx195_1)
                      rw [hv195_1] at ge195_1
                      have HL195_1 := Aside0.mk (show Kd.R (Kd.int .i64) 3 _ _ _ _ ((rd_T35 t185 x6_3).f1) from ge195_1)
                      clear hv195_1 ge195_1
                      clear hcc195 hce195
                      have HR195_1 := Aside0.mk hi195_1
                      have HC195_1 := Aside0.mk hl195_1
                      clear hi195_1 hl195_1
                      replace p195 := eq_true p195
                      replace q195 := eq_true q195
                      have p196 : 0 ≤ (x4_1 : Int) := of_decide_eq_true p6_0
                      have q196 : x4_1 < (t185.length : Int) := of_decide_eq_true p6_0
                      obtain ⟨ad196, A196_1, c196_1, e196, hx196_0, hx196_1, hx196_2, hl196_1, hi196_1⟩ := at_T35 (Kd.S_reads' HO_3.out).2.2 x4_1 p196 q196
                      obtain rfl : ad189 = ad196 := (by injection e196)
                      obtain ⟨ce196, hce196, hMe196, hcc196⟩ := Kd.S_get HO_3.out z35 x4_1 p196 (by first | exact q196 | exact of_decide_eq_true p6_0 | (have e_ := (Kd.S_reads' HO_3.out).1; omega))
                      obtain ⟨ve196_1, rfl, ge196_1⟩ := k35_openM hMe196
                      have hv196_1 := hcc196 1 _ rfl
                      rw [add_field _ _ 1 (by omega)] at hv196_1
                      replace hv196_1 := Option.some.inj (hv196_1.symm.trans hx196_1)
                      rw [hv196_1] at ge196_1
                      have HL196_1 := Aside0.mk (show Kd.R (Kd.int .i64) 3 _ _ _ _ ((rd_T35 t185 x4_1).f1) from ge196_1)
                      clear hv196_1 ge196_1
                      clear hcc196 hce196
                      have HR196_1 := Aside0.mk hi196_1
                      have HC196_1 := Aside0.mk hl196_1
                      clear hi196_1 hl196_1
                      replace p196 := eq_true p196
                      replace q196 := eq_true q196
                      have p197 : 0 ≤ (x8_4 : Int) := of_decide_eq_true p6_0
                      have q197 : x8_4 < (((rd_T35 t185 x4_1).f1).length : Int) := of_decide_eq_true p6_0
                      obtain ⟨ad197, e197, hx197_0⟩ := Kd.at_int p6_6 x8_4 p197 q197
                      cases e197
                      replace p197 := eq_true p197
                      replace q197 := eq_true q197
                      refine start_ (n := 14) (S := fun w' => w'.cell? (ad189.add ((x6_3).toNat * 3)) = some (.int .i64 ((rd_T35 t185 x6_3).f0)) ∧ w'.cell? ⟨(ad189.add ((x6_3).toNat * 3)).block, (ad189.add ((x6_3).toNat * 3)).off + 1, none⟩ = some (.slice A195_1 ((rd_T35 t185 x6_3).f1).length c195_1) ∧ w'.cell? ⟨(ad189.add ((x6_3).toNat * 3)).block, (ad189.add ((x6_3).toNat * 3)).off + 2, none⟩ = some (.int .i64 ((rd_T35 t185 x6_3).f2)) ∧ w'.cell? (ad189.add ((x4_1).toNat * 3)) = some (.int .i64 ((rd_T35 t185 x4_1).f0)) ∧ w'.cell? ⟨(ad189.add ((x4_1).toNat * 3)).block, (ad189.add ((x4_1).toNat * 3)).off + 1, none⟩ = some (.slice (some ad197) ((rd_T35 t185 x4_1).f1).length c196_1) ∧ w'.cell? ⟨(ad189.add ((x4_1).toNat * 3)).block, (ad189.add ((x4_1).toNat * 3)).off + 2, none⟩ = some (.int .i64 ((rd_T35 t185 x4_1).f2)) ∧ w'.cell? (ad197.add (x8_4).toNat) = some (.int .i64 (rd ((rd_T35 t185 x4_1).f1) x8_4))) (ds := []) #[false, false, false, false, false, false, false, false, false, false, false, false, false, false] (by kernel_rfl) rfl rfl ⟨hx195_0, hx195_1, hx195_2, hx196_0, hx196_1, hx196_2, hx197_0⟩ (fun hHeld => ?_); refine with_tabW ladderbacklaw33_LoopNests.tab19 ladderbacklaw33_LoopNests.bits19 (fun HT_ HW_ => ?_)
                      generalize wr.drew = w25 at HO_3 HL194_1 HR189_1 HR194_1 HB HL195_1 HL196_1 HR195_1 HR196_1 hx195_0 hx195_1 hx195_2 hx196_0 hx196_1 hx196_2 hx197_0 hHeld ⊢
                      refine pure_ (i := 0) (N := some 62) (v := ?_) (a' := ?_) #[true, false, false, false, false, false, false, false, false, false, false, false, false, false] rfl rfl (any_of HT_.out (by kernel_rfl)) (fun _ _ _ h => h) (Or.inl ⟨by rfl, ?_⟩) ?_ ?_
                      rotate_left
                      ·
                       intro w'
                       go_simp
                       with_reducible rfl
                      rotate_left
                      ·
                       simp only [Act.put, List.setIfInBounds_toArray, List.set_cons_zero, List.set_cons_succ, i64_w, i32_w]
                       rfl
                      refine pure_ (i := 1) (N := some 63) (v := ?_) (a' := ?_) #[true, true, false, false, false, false, false, false, false, false, false, false, false, false] rfl rfl (any_of HT_.out (by kernel_rfl)) (fun _ _ _ h => h) (Or.inl ⟨by rfl, ?_⟩) ?_ ?_
                      rotate_left
                      ·
                       intro w'
                       go_simp
                       with_reducible rfl
                      rotate_left
                      ·
                       simp only [Act.put, List.setIfInBounds_toArray, List.set_cons_zero, List.set_cons_succ, i64_w, i32_w]
                       rfl
                      refine pure_ (i := 2) (N := some 64) (v := ?_) (a' := ?_) #[true, true, true, false, false, false, false, false, false, false, false, false, false, false] rfl rfl (any_of HT_.out (by kernel_rfl)) (fun _ _ _ h => h) (Or.inl ⟨by rfl, ?_⟩) ?_ ?_
                      rotate_left
                      ·
                       intro w'
                       go_simp
                       with_reducible rfl
                      rotate_left
                      ·
                       simp only [Act.put, List.setIfInBounds_toArray, List.set_cons_zero, List.set_cons_succ, i64_w, i32_w]
                       rfl
                      refine pure_ (i := 3) (N := some 65) (v := ?_) (a' := ?_) #[true, true, true, true, false, false, false, false, false, false, false, false, false, false] rfl rfl (any_of HT_.out (by kernel_rfl)) (fun _ _ _ h => h) (Or.inl ⟨by rfl, ?_⟩) ?_ ?_
                      rotate_left
                      ·
                       intro w'
                       go_simp
                       with_reducible rfl
                      rotate_left
                      ·
                       simp only [Act.put, List.setIfInBounds_toArray, List.set_cons_zero, List.set_cons_succ, i64_w, i32_w]
                       rfl
                      refine pure_ (i := 5) (N := some 67) (v := ?_) (a' := ?_) #[true, true, true, true, false, true, false, false, false, false, false, false, false, false] rfl rfl (any_of HT_.out (by kernel_rfl)) (fun _ _ _ h => h) (Or.inl ⟨by rfl, ?_⟩) ?_ ?_
                      rotate_left
                      ·
                       intro w'
                       go_simp
                       with_reducible rfl
                      rotate_left
                      ·
                       simp only [Act.put, List.setIfInBounds_toArray, List.set_cons_zero, List.set_cons_succ, i64_w, i32_w]
                       rfl
                      refine pure_ (i := 6) (N := some 68) (v := ?_) (a' := ?_) #[true, true, true, true, false, true, true, false, false, false, false, false, false, false] rfl rfl (any_of HT_.out (by kernel_rfl)) (fun _ _ _ h => h) (Or.inl ⟨by rfl, ?_⟩) ?_ ?_
                      rotate_left
                      ·
                       intro w'
                       go_simp
                       with_reducible rfl
                      rotate_left
                      ·
                       simp only [Act.put, List.setIfInBounds_toArray, List.set_cons_zero, List.set_cons_succ, i64_w, i32_w]
                       rfl
                      refine pure_ (i := 7) (N := some 69) (v := ?_) (a' := ?_) #[true, true, true, true, false, true, true, true, false, false, false, false, false, false] rfl rfl (any_of HT_.out (by kernel_rfl)) (fun _ _ _ h => h) (Or.inl ⟨by rfl, ?_⟩) ?_ ?_
                      rotate_left
                      ·
                       intro w'
                       go_simp
                       with_reducible rfl
                      rotate_left
                      ·
                       simp only [Act.put, List.setIfInBounds_toArray, List.set_cons_zero, List.set_cons_succ, i64_w, i32_w]
                       rfl
                      refine pure_ (i := 8) (N := some 70) (v := ?_) (a' := ?_) #[true, true, true, true, false, true, true, true, true, false, false, false, false, false] rfl rfl (any_of HT_.out (by kernel_rfl)) (fun _ _ _ h => h) (Or.inl ⟨by rfl, ?_⟩) ?_ ?_
                      rotate_left
                      ·
                       intro w'
                       go_simp
                       with_reducible rfl
                      rotate_left
                      ·
                       simp only [Act.put, List.setIfInBounds_toArray, List.set_cons_zero, List.set_cons_succ, i64_w, i32_w]
                       rfl
                      refine pure_ (i := 10) (N := some 72) (v := ?_) (a' := ?_) #[true, true, true, true, false, true, true, true, true, false, true, false, false, false] rfl rfl (any_of HT_.out (by kernel_rfl)) (fun _ _ _ h => h) (Or.inl ⟨by rfl, ?_⟩) ?_ ?_
                      rotate_left
                      ·
                       intro w'
                       go_simp
                       with_reducible rfl
                      rotate_left
                      ·
                       simp only [Act.put, List.setIfInBounds_toArray, List.set_cons_zero, List.set_cons_succ, i64_w, i32_w]
                       rfl
                      refine take_ (i := 4) (N := some 66) (v := ?_) (a' := ?_) #[true, true, true, true, true, true, true, true, true, false, true, false, false, false] rfl rfl (take_ofW HT_.out HW_.out (by kernel_rfl)) (fun _ _ _ h => h) (Or.inl ⟨by rfl, ?_⟩) hHeld ?_ ?_
                      rotate_left
                      ·
                       rintro w' ⟨s0, s1, s2, s3, s4, s5, s6⟩
                       go_simp
                       with_reducible rfl
                      rotate_left
                      ·
                       simp only [Act.put, List.setIfInBounds_toArray, List.set_cons_zero, List.set_cons_succ, i64_w, i32_w]
                       rfl
                      refine take_ (i := 9) (N := some 71) (v := ?_) (a' := ?_) #[true, true, true, true, true, true, true, true, true, true, true, false, false, false] rfl rfl (take_ofW HT_.out HW_.out (by kernel_rfl)) (fun _ _ _ h => h) (Or.inl ⟨by rfl, ?_⟩) hHeld ?_ ?_
                      rotate_left
                      ·
                       rintro w' ⟨s0, s1, s2, s3, s4, s5, s6⟩
                       go_simp
                       with_reducible rfl
                      rotate_left
                      ·
                       simp only [Act.put, List.setIfInBounds_toArray, List.set_cons_zero, List.set_cons_succ, i64_w, i32_w]
                       rfl
                      refine pure_ (i := 11) (N := some 73) (v := ?_) (a' := ?_) #[true, true, true, true, true, true, true, true, true, true, true, true, false, false] rfl rfl (any_of HT_.out (by kernel_rfl)) (fun _ _ _ h => h) (Or.inl ⟨by rfl, ?_⟩) ?_ ?_
                      rotate_left
                      ·
                       intro w'
                       go_simp
                       with_reducible rfl
                      rotate_left
                      ·
                       simp only [Act.put, List.setIfInBounds_toArray, List.set_cons_zero, List.set_cons_succ, i64_w, i32_w]
                       rfl
                      refine take_ (i := 12) (N := some 74) (v := ?_) (a' := ?_) #[true, true, true, true, true, true, true, true, true, true, true, true, true, false] rfl rfl (take_ofW HT_.out HW_.out (by kernel_rfl)) (fun _ _ _ h => h) (Or.inl ⟨by rfl, ?_⟩) hHeld ?_ ?_
                      rotate_left
                      ·
                       rintro w' ⟨s0, s1, s2, s3, s4, s5, s6⟩
                       go_simp
                       with_reducible rfl
                      rotate_left
                      ·
                       simp only [Act.put, List.setIfInBounds_toArray, List.set_cons_zero, List.set_cons_succ, i64_w, i32_w]
                       rfl
                      refine one_ (i := 13) (N := some 75) #[true, true, true, true, true, true, true, true, true, true, true, true, true, true] rfl rfl (one_of HT_.out (by kernel_rfl)) (by decide) (fun K hK => ?_)
                      refine goes_ Tryd.func11 (by kernel_rfl) rfl #[.slice A195_1 ((rd_T35 t185 x6_3).f1).length c195_1, .int .i64 (rd ((rd_T35 t185 x4_1).f1) x8_4)] (by rfl) rfl rfl p6_1 ?_
                      with_reducible refine (ladderbackref30_Has.calls k4 _ _ ((rd_T35 t185 x6_3).f1) (rd ((rd_T35 t185 x4_1).f1) x8_4) true _ ?side1 ?side2 A23.out).mono ?_
                      (case side1 => repeat (first | exact p6_7 | (with_reducible refine Kd.C_alloc ?_ _) | (with_reducible refine Kd.C_drewN ?_ _) | (with_reducible refine Kd.C_drew ?_)))
                      (case side2 => exact HC195_1.out)
                      rintro e w' ⟨rfl, ⟨nd, rfl⟩⟩
                      refine ⟨_, rfl, ?_⟩
                      refine hK.out _ _ ⟨hHeld.1, hHeld.2.1, hHeld.2.2.1, hHeld.2.2.2.1, hHeld.2.2.2.2.1, hHeld.2.2.2.2.2.1, hHeld.2.2.2.2.2.2⟩ (fun hHeld => ?_)
                      clear hK K
                      refine norm_ (a' := ?_) ?_ ?_
                      rotate_left
                      ·
                       show Act.put _ (some 75) _ = _
                       simp only [Act.put, List.setIfInBounds_toArray, List.set_cons_zero, List.set_cons_succ, i64_w, i32_w]
                       rfl
                      refine done_ (done_of HT_.out (by kernel_rfl)) ?_
                      try go_wp2
                      go_roundg k4
                      case measure => have := HK1.out; have := HK2.out; have := HK3.out; have := HK4.out; omega
                      case rel => exact ⟨(wrap64 (x7_4 + 1)), (wrap64 (x8_4 + 1)), p6_2, p6_2, H', ⟨by have := HK1.out; have := HK2.out; have := HK3.out; have := HK4.out; omega⟩, ⟨by (with_reducible repeat (first | apply Kd.S_alloc | apply Kd.S_drewN | apply Kd.S_drew)); exact HO_3.out⟩, ⟨by repeat (first | (with_reducible exact HR189_1.out) | (with_reducible refine Kd.C_alloc ?_ _) | (with_reducible refine Kd.C_drewN ?_ _) | (with_reducible refine Kd.C_drew ?_) | exact HR189_1.out)⟩, ⟨by repeat (first | (with_reducible first | exact HB.out | apply below_alloc | apply pw_below_drewN | apply below_drew1) | exact HB.out)⟩⟩
                     ·
                      replace c24 := Bool.eq_false_iff.mpr c24
                      subst c24
                      have H1 : (ladderbacklaw33_LoopNests.l3 k4 l0 t185 x4_1 x6_3 x7_4 (wrap64 (x8_4 + 1))) = some r := by rw [if_neg (show ¬ (false = true) by decide)] at H; exact H
                      clear H
                      have H := H1
                      clear H1
                      have H' := Aside0.mk H
                      clear H
                      have p194 : 0 ≤ (x4_1 : Int) := of_decide_eq_true p6_0
                      have q194 : x4_1 < (t185.length : Int) := of_decide_eq_true p6_0
                      obtain ⟨ad194, A194_1, c194_1, e194, hx194_0, hx194_1, hx194_2, hl194_1, hi194_1⟩ := at_T35 (Kd.S_reads' HO_3.out).2.2 x4_1 p194 q194
                      obtain rfl : ad189 = ad194 := (by injection e194)
                      obtain ⟨ce194, hce194, hMe194, hcc194⟩ := Kd.S_get HO_3.out z35 x4_1 p194 p6_4
                      obtain ⟨ve194_1, rfl, ge194_1⟩ := k35_openM hMe194
                      have hv194_1 := hcc194 1 _ rfl
                      rw [add_field _ _ 1 (by omega)] at hv194_1
                      replace hv194_1 := Option.some.inj (hv194_1.symm.trans hx194_1)
                      rw [hv194_1] at ge194_1
                      have HL194_1 := Aside0.mk (show Kd.R (Kd.int .i64) 3 _ _ _ _ ((rd_T35 t185 x4_1).f1) from ge194_1)
                      clear hv194_1 ge194_1
                      clear hcc194 hce194
                      have HR194_1 := Aside0.mk hi194_1
                      have HC194_1 := Aside0.mk hl194_1
                      clear hi194_1 hl194_1
                      replace p194 := eq_true p194
                      replace q194 := eq_true q194
                      try go_wp2
                      have n0_ := Aside0.mk (Kd.S_drew HO_3.out)
                      have n1_ := Aside0.mk (Kd.R_drew HL194_1.out)
                      have n2_ := Aside0.mk (Kd.C_drew HR189_1.out)
                      have n3_ := Aside0.mk (Kd.C_drew HR194_1.out)
                      have n4_ := Aside0.mk (below_drew1 HB.out)
                      clear HO_3
                      clear HL194_1
                      clear HR189_1
                      clear HR194_1
                      clear HB
                      have HO_3 := n0_
                      have HL194_1 := n1_
                      have HR189_1 := n2_
                      have HR194_1 := n3_
                      have HB := n4_
                      clear n0_ n1_ n2_ n3_ n4_
                      have p195 : 0 ≤ (x6_3 : Int) := of_decide_eq_true p6_0
                      have q195 : x6_3 < (t185.length : Int) := of_decide_eq_true p6_0
                      obtain ⟨ad195, A195_1, c195_1, e195, hx195_0, hx195_1, hx195_2, hl195_1, hi195_1⟩ := at_T35 (Kd.S_reads' HO_3.out).2.2 x6_3 p195 q195
                      obtain rfl : ad189 = ad195 := (by injection e195)
                      obtain ⟨ce195, hce195, hMe195, hcc195⟩ := Kd.S_get HO_3.out z35 x6_3 p195 (by first | exact q195 | exact of_decide_eq_true p6_0 | (have e_ := (Kd.S_reads' HO_3.out).1; omega))
                      obtain ⟨ve195_1, rfl, ge195_1⟩ := k35_openM hMe195
                      have hv195_1 := hcc195 1 _ rfl
                      rw [add_field _ _ 1 (by omega)] at hv195_1
                      replace hv195_1 := Option.some.inj (hv195_1.symm.trans hx195_1)
                      rw [hv195_1] at ge195_1
                      have HL195_1 := Aside0.mk (show Kd.R (Kd.int .i64) 3 _ _ _ _ ((rd_T35 t185 x6_3).f1) from ge195_1)
                      clear hv195_1 ge195_1
                      clear hcc195 hce195
                      have HR195_1 := Aside0.mk hi195_1
                      have HC195_1 := Aside0.mk hl195_1
                      clear hi195_1 hl195_1
                      replace p195 := eq_true p195
                      replace q195 := eq_true q195
                      have p196 : 0 ≤ (x4_1 : Int) := of_decide_eq_true p6_0
                      have q196 : x4_1 < (t185.length : Int) := of_decide_eq_true p6_0
                      obtain ⟨ad196, A196_1, c196_1, e196, hx196_0, hx196_1, hx196_2, hl196_1, hi196_1⟩ := at_T35 (Kd.S_reads' HO_3.out).2.2 x4_1 p196 q196
                      obtain rfl : ad189 = ad196 := (by injection e196)
                      obtain ⟨ce196, hce196, hMe196, hcc196⟩ := Kd.S_get HO_3.out z35 x4_1 p196 (by first | exact q196 | exact of_decide_eq_true p6_0 | (have e_ := (Kd.S_reads' HO_3.out).1; omega))
                      obtain ⟨ve196_1, rfl, ge196_1⟩ := k35_openM hMe196
                      have hv196_1 := hcc196 1 _ rfl
                      rw [add_field _ _ 1 (by omega)] at hv196_1
                      replace hv196_1 := Option.some.inj (hv196_1.symm.trans hx196_1)
                      rw [hv196_1] at ge196_1
                      have HL196_1 := Aside0.mk (show Kd.R (Kd.int .i64) 3 _ _ _ _ ((rd_T35 t185 x4_1).f1) from ge196_1)
                      clear hv196_1 ge196_1
                      clear hcc196 hce196
                      have HR196_1 := Aside0.mk hi196_1
                      have HC196_1 := Aside0.mk hl196_1
                      clear hi196_1 hl196_1
                      replace p196 := eq_true p196
                      replace q196 := eq_true q196
                      have p197 : 0 ≤ (x8_4 : Int) := of_decide_eq_true p6_0
                      have q197 : x8_4 < (((rd_T35 t185 x4_1).f1).length : Int) := of_decide_eq_true p6_0
                      obtain ⟨ad197, e197, hx197_0⟩ := Kd.at_int p6_6 x8_4 p197 q197
                      cases e197
                      replace p197 := eq_true p197
                      replace q197 := eq_true q197
                      refine start_ (n := 14) (S := fun w' => w'.cell? (ad189.add ((x6_3).toNat * 3)) = some (.int .i64 ((rd_T35 t185 x6_3).f0)) ∧ w'.cell? ⟨(ad189.add ((x6_3).toNat * 3)).block, (ad189.add ((x6_3).toNat * 3)).off + 1, none⟩ = some (.slice A195_1 ((rd_T35 t185 x6_3).f1).length c195_1) ∧ w'.cell? ⟨(ad189.add ((x6_3).toNat * 3)).block, (ad189.add ((x6_3).toNat * 3)).off + 2, none⟩ = some (.int .i64 ((rd_T35 t185 x6_3).f2)) ∧ w'.cell? (ad189.add ((x4_1).toNat * 3)) = some (.int .i64 ((rd_T35 t185 x4_1).f0)) ∧ w'.cell? ⟨(ad189.add ((x4_1).toNat * 3)).block, (ad189.add ((x4_1).toNat * 3)).off + 1, none⟩ = some (.slice (some ad197) ((rd_T35 t185 x4_1).f1).length c196_1) ∧ w'.cell? ⟨(ad189.add ((x4_1).toNat * 3)).block, (ad189.add ((x4_1).toNat * 3)).off + 2, none⟩ = some (.int .i64 ((rd_T35 t185 x4_1).f2)) ∧ w'.cell? (ad197.add (x8_4).toNat) = some (.int .i64 (rd ((rd_T35 t185 x4_1).f1) x8_4))) (ds := []) #[false, false, false, false, false, false, false, false, false, false, false, false, false, false] (by kernel_rfl) rfl rfl ⟨hx195_0, hx195_1, hx195_2, hx196_0, hx196_1, hx196_2, hx197_0⟩ (fun hHeld => ?_); refine with_tabW ladderbacklaw33_LoopNests.tab19 ladderbacklaw33_LoopNests.bits19 (fun HT_ HW_ => ?_)
                      generalize wr.drew = w26 at HO_3 HL194_1 HR189_1 HR194_1 HB HL195_1 HL196_1 HR195_1 HR196_1 hx195_0 hx195_1 hx195_2 hx196_0 hx196_1 hx196_2 hx197_0 hHeld ⊢
                      refine pure_ (i := 0) (N := some 62) (v := ?_) (a' := ?_) #[true, false, false, false, false, false, false, false, false, false, false, false, false, false] rfl rfl (any_of HT_.out (by kernel_rfl)) (fun _ _ _ h => h) (Or.inl ⟨by rfl, ?_⟩) ?_ ?_
                      rotate_left
                      ·
                       intro w'
                       go_simp
                       with_reducible rfl
                      rotate_left
                      ·
                       simp only [Act.put, List.setIfInBounds_toArray, List.set_cons_zero, List.set_cons_succ, i64_w, i32_w]
                       rfl
                      refine pure_ (i := 1) (N := some 63) (v := ?_) (a' := ?_) #[true, true, false, false, false, false, false, false, false, false, false, false, false, false] rfl rfl (any_of HT_.out (by kernel_rfl)) (fun _ _ _ h => h) (Or.inl ⟨by rfl, ?_⟩) ?_ ?_
                      rotate_left
                      ·
                       intro w'
                       go_simp
                       with_reducible rfl
                      rotate_left
                      ·
                       simp only [Act.put, List.setIfInBounds_toArray, List.set_cons_zero, List.set_cons_succ, i64_w, i32_w]
                       rfl
                      refine pure_ (i := 2) (N := some 64) (v := ?_) (a' := ?_) #[true, true, true, false, false, false, false, false, false, false, false, false, false, false] rfl rfl (any_of HT_.out (by kernel_rfl)) (fun _ _ _ h => h) (Or.inl ⟨by rfl, ?_⟩) ?_ ?_
                      rotate_left
                      ·
                       intro w'
                       go_simp
                       with_reducible rfl
                      rotate_left
                      ·
                       simp only [Act.put, List.setIfInBounds_toArray, List.set_cons_zero, List.set_cons_succ, i64_w, i32_w]
                       rfl
                      refine pure_ (i := 3) (N := some 65) (v := ?_) (a' := ?_) #[true, true, true, true, false, false, false, false, false, false, false, false, false, false] rfl rfl (any_of HT_.out (by kernel_rfl)) (fun _ _ _ h => h) (Or.inl ⟨by rfl, ?_⟩) ?_ ?_
                      rotate_left
                      ·
                       intro w'
                       go_simp
                       with_reducible rfl
                      rotate_left
                      ·
                       simp only [Act.put, List.setIfInBounds_toArray, List.set_cons_zero, List.set_cons_succ, i64_w, i32_w]
                       rfl
                      refine pure_ (i := 5) (N := some 67) (v := ?_) (a' := ?_) #[true, true, true, true, false, true, false, false, false, false, false, false, false, false] rfl rfl (any_of HT_.out (by kernel_rfl)) (fun _ _ _ h => h) (Or.inl ⟨by rfl, ?_⟩) ?_ ?_
                      rotate_left
                      ·
                       intro w'
                       go_simp
                       with_reducible rfl
                      rotate_left
                      ·
                       simp only [Act.put, List.setIfInBounds_toArray, List.set_cons_zero, List.set_cons_succ, i64_w, i32_w]
                       rfl
                      refine pure_ (i := 6) (N := some 68) (v := ?_) (a' := ?_) #[true, true, true, true, false, true, true, false, false, false, false, false, false, false] rfl rfl (any_of HT_.out (by kernel_rfl)) (fun _ _ _ h => h) (Or.inl ⟨by rfl, ?_⟩) ?_ ?_
                      rotate_left
                      ·
                       intro w'
                       go_simp
                       with_reducible rfl
                      rotate_left
                      ·
                       simp only [Act.put, List.setIfInBounds_toArray, List.set_cons_zero, List.set_cons_succ, i64_w, i32_w]
                       rfl
                      refine pure_ (i := 7) (N := some 69) (v := ?_) (a' := ?_) #[true, true, true, true, false, true, true, true, false, false, false, false, false, false] rfl rfl (any_of HT_.out (by kernel_rfl)) (fun _ _ _ h => h) (Or.inl ⟨by rfl, ?_⟩) ?_ ?_
                      rotate_left
                      ·
                       intro w'
                       go_simp
                       with_reducible rfl
                      rotate_left
                      ·
                       simp only [Act.put, List.setIfInBounds_toArray, List.set_cons_zero, List.set_cons_succ, i64_w, i32_w]
                       rfl
                      refine pure_ (i := 8) (N := some 70) (v := ?_) (a' := ?_) #[true, true, true, true, false, true, true, true, true, false, false, false, false, false] rfl rfl (any_of HT_.out (by kernel_rfl)) (fun _ _ _ h => h) (Or.inl ⟨by rfl, ?_⟩) ?_ ?_
                      rotate_left
                      ·
                       intro w'
                       go_simp
                       with_reducible rfl
                      rotate_left
                      ·
                       simp only [Act.put, List.setIfInBounds_toArray, List.set_cons_zero, List.set_cons_succ, i64_w, i32_w]
                       rfl
                      refine pure_ (i := 10) (N := some 72) (v := ?_) (a' := ?_) #[true, true, true, true, false, true, true, true, true, false, true, false, false, false] rfl rfl (any_of HT_.out (by kernel_rfl)) (fun _ _ _ h => h) (Or.inl ⟨by rfl, ?_⟩) ?_ ?_
                      rotate_left
                      ·
                       intro w'
                       go_simp
                       with_reducible rfl
                      rotate_left
                      ·
                       simp only [Act.put, List.setIfInBounds_toArray, List.set_cons_zero, List.set_cons_succ, i64_w, i32_w]
                       rfl
                      refine take_ (i := 4) (N := some 66) (v := ?_) (a' := ?_) #[true, true, true, true, true, true, true, true, true, false, true, false, false, false] rfl rfl (take_ofW HT_.out HW_.out (by kernel_rfl)) (fun _ _ _ h => h) (Or.inl ⟨by rfl, ?_⟩) hHeld ?_ ?_
                      rotate_left
                      ·
                       rintro w' ⟨s0, s1, s2, s3, s4, s5, s6⟩
                       go_simp
                       with_reducible rfl
                      rotate_left
                      ·
                       simp only [Act.put, List.setIfInBounds_toArray, List.set_cons_zero, List.set_cons_succ, i64_w, i32_w]
                       rfl
                      refine take_ (i := 9) (N := some 71) (v := ?_) (a' := ?_) #[true, true, true, true, true, true, true, true, true, true, true, false, false, false] rfl rfl (take_ofW HT_.out HW_.out (by kernel_rfl)) (fun _ _ _ h => h) (Or.inl ⟨by rfl, ?_⟩) hHeld ?_ ?_
                      rotate_left
                      ·
                       rintro w' ⟨s0, s1, s2, s3, s4, s5, s6⟩
                       go_simp
                       with_reducible rfl
                      rotate_left
                      ·
                       simp only [Act.put, List.setIfInBounds_toArray, List.set_cons_zero, List.set_cons_succ, i64_w, i32_w]
                       rfl
                      refine pure_ (i := 11) (N := some 73) (v := ?_) (a' := ?_) #[true, true, true, true, true, true, true, true, true, true, true, true, false, false] rfl rfl (any_of HT_.out (by kernel_rfl)) (fun _ _ _ h => h) (Or.inl ⟨by rfl, ?_⟩) ?_ ?_
                      rotate_left
                      ·
                       intro w'
                       go_simp
                       with_reducible rfl
                      rotate_left
                      ·
                       simp only [Act.put, List.setIfInBounds_toArray, List.set_cons_zero, List.set_cons_succ, i64_w, i32_w]
                       rfl
                      refine take_ (i := 12) (N := some 74) (v := ?_) (a' := ?_) #[true, true, true, true, true, true, true, true, true, true, true, true, true, false] rfl rfl (take_ofW HT_.out HW_.out (by kernel_rfl)) (fun _ _ _ h => h) (Or.inl ⟨by rfl, ?_⟩) hHeld ?_ ?_
                      rotate_left
                      ·
                       rintro w' ⟨s0, s1, s2, s3, s4, s5, s6⟩
                       go_simp
                       with_reducible rfl
                      rotate_left
                      ·
                       simp only [Act.put, List.setIfInBounds_toArray, List.set_cons_zero, List.set_cons_succ, i64_w, i32_w]
                       rfl
                      refine one_ (i := 13) (N := some 75) #[true, true, true, true, true, true, true, true, true, true, true, true, true, true] rfl rfl (one_of HT_.out (by kernel_rfl)) (by decide) (fun K hK => ?_)
                      refine goes_ Tryd.func11 (by kernel_rfl) rfl #[.slice A195_1 ((rd_T35 t185 x6_3).f1).length c195_1, .int .i64 (rd ((rd_T35 t185 x4_1).f1) x8_4)] (by rfl) rfl rfl p6_1 ?_
                      with_reducible refine (ladderbackref30_Has.calls k4 _ _ ((rd_T35 t185 x6_3).f1) (rd ((rd_T35 t185 x4_1).f1) x8_4) false _ ?side1 ?side2 A23.out).mono ?_
                      (case side1 => repeat (first | exact p6_7 | (with_reducible refine Kd.C_alloc ?_ _) | (with_reducible refine Kd.C_drewN ?_ _) | (with_reducible refine Kd.C_drew ?_)))
                      (case side2 => exact HC195_1.out)
                      rintro e w' ⟨rfl, ⟨nd, rfl⟩⟩
                      refine ⟨_, rfl, ?_⟩
                      refine hK.out _ _ ⟨hHeld.1, hHeld.2.1, hHeld.2.2.1, hHeld.2.2.2.1, hHeld.2.2.2.2.1, hHeld.2.2.2.2.2.1, hHeld.2.2.2.2.2.2⟩ (fun hHeld => ?_)
                      clear hK K
                      refine norm_ (a' := ?_) ?_ ?_
                      rotate_left
                      ·
                       show Act.put _ (some 75) _ = _
                       simp only [Act.put, List.setIfInBounds_toArray, List.set_cons_zero, List.set_cons_succ, i64_w, i32_w]
                       rfl
                      refine done_ (done_of HT_.out (by kernel_rfl)) ?_
                      try go_wp2
                      go_roundg k4
                      case measure => have := HK1.out; have := HK2.out; have := HK3.out; have := HK4.out; omega
                      case rel => exact ⟨(x7_4), (wrap64 (x8_4 + 1)), p6_2, p6_2, H', ⟨by have := HK1.out; have := HK2.out; have := HK3.out; have := HK4.out; omega⟩, ⟨by (with_reducible repeat (first | apply Kd.S_alloc | apply Kd.S_drewN | apply Kd.S_drew)); exact HO_3.out⟩, ⟨by repeat (first | (with_reducible exact HR189_1.out) | (with_reducible refine Kd.C_alloc ?_ _) | (with_reducible refine Kd.C_drewN ?_ _) | (with_reducible refine Kd.C_drew ?_) | exact HR189_1.out)⟩, ⟨by repeat (first | (with_reducible first | exact HB.out | apply below_alloc | apply pw_below_drewN | apply below_drew1) | exact HB.out)⟩⟩
                    ·
                     rw [if_neg c22] at H
                     exact absurd H (by simp)
                   ·
                    rw [if_neg c21] at H
                    exact absurd H (by simp)
                  ·
                   rw [if_neg c20] at H
                   exact absurd H (by simp)
                 ·
                  rw [if_neg c19] at H
                  have c19b0 : decide (x8_4 < (((rd_T35 t185 x4_1).f1).length : Int)) = false := decide_eq_false c19
                  clear c19
                  by_cases c27 : x7_4 = 0
                  ·
                   rw [if_pos c27] at H
                   have c27b0 : (x7_4 == 0) = true := beq_iff_eq.mpr c27
                   have c27b1 : (x7_4 != 0) = false := bne_eq_false_iff_eq.mpr c27
                   clear c27
                   have H' := Aside0.mk H
                   clear H
                   have p194 : 0 ≤ (x4_1 : Int) := of_decide_eq_true p6_0
                   have q194 : x4_1 < (t185.length : Int) := of_decide_eq_true p6_0
                   obtain ⟨ad194, A194_1, c194_1, e194, hx194_0, hx194_1, hx194_2, hl194_1, hi194_1⟩ := at_T35 (Kd.S_reads' HO_3.out).2.2 x4_1 p194 q194
                   obtain rfl : ad189 = ad194 := (by injection e194)
                   obtain ⟨ce194, hce194, hMe194, hcc194⟩ := Kd.S_get HO_3.out z35 x4_1 p194 p6_4
                   obtain ⟨ve194_1, rfl, ge194_1⟩ := k35_openM hMe194
                   have hv194_1 := hcc194 1 _ rfl
                   rw [add_field _ _ 1 (by omega)] at hv194_1
                   replace hv194_1 := Option.some.inj (hv194_1.symm.trans hx194_1)
                   rw [hv194_1] at ge194_1
                   have HL194_1 := Aside0.mk (show Kd.R (Kd.int .i64) 3 _ _ _ _ ((rd_T35 t185 x4_1).f1) from ge194_1)
                   clear hv194_1 ge194_1
                   clear hcc194 hce194
                   have HR194_1 := Aside0.mk hi194_1
                   have HC194_1 := Aside0.mk hl194_1
                   clear hi194_1 hl194_1
                   replace p194 := eq_true p194
                   replace q194 := eq_true q194
                   go_wp2
                   go_roundg k4
                   case measure => have := HK1.out; have := HK2.out; have := HK3.out; have := HK4.out; omega
                   case rel => exact ⟨(wrap64 (x6_3 + 1)), p6_2, H', ⟨by have := HK1.out; have := HK2.out; have := HK3.out; have := HK4.out; omega⟩, ⟨by (with_reducible repeat (first | apply Kd.S_alloc | apply Kd.S_drewN | apply Kd.S_drew)); exact HO_3.out⟩, ⟨by repeat (first | (with_reducible exact HR189_1.out) | (with_reducible refine Kd.C_alloc ?_ _) | (with_reducible refine Kd.C_drewN ?_ _) | (with_reducible refine Kd.C_drew ?_) | exact HR189_1.out)⟩, ⟨by repeat (first | (with_reducible first | exact HB.out | apply below_alloc | apply pw_below_drewN | apply below_drew1) | exact HB.out)⟩⟩
                  ·
                   rw [if_neg c27] at H
                   have c27b0 : (x7_4 == 0) = false := beq_eq_false_iff_ne.mpr c27
                   have c27b1 : (x7_4 != 0) = true := bne_iff_ne.mpr c27
                   by_cases c28 : x7_4 = (((rd_T35 t185 x4_1).f1).length : Int)
                   ·
                    rw [if_pos c28] at H
                    have c28b0 : (x7_4 == (((rd_T35 t185 x4_1).f1).length : Int)) = true := beq_iff_eq.mpr c28
                    have c28b1 : (x7_4 != (((rd_T35 t185 x4_1).f1).length : Int)) = false := bne_eq_false_iff_eq.mpr c28
                    clear c28
                    have H' := Aside0.mk H
                    clear H
                    have p194 : 0 ≤ (x4_1 : Int) := of_decide_eq_true p6_0
                    have q194 : x4_1 < (t185.length : Int) := of_decide_eq_true p6_0
                    obtain ⟨ad194, A194_1, c194_1, e194, hx194_0, hx194_1, hx194_2, hl194_1, hi194_1⟩ := at_T35 (Kd.S_reads' HO_3.out).2.2 x4_1 p194 q194
                    obtain rfl : ad189 = ad194 := (by injection e194)
                    obtain ⟨ce194, hce194, hMe194, hcc194⟩ := Kd.S_get HO_3.out z35 x4_1 p194 p6_4
                    obtain ⟨ve194_1, rfl, ge194_1⟩ := k35_openM hMe194
                    have hv194_1 := hcc194 1 _ rfl
                    rw [add_field _ _ 1 (by omega)] at hv194_1
                    replace hv194_1 := Option.some.inj (hv194_1.symm.trans hx194_1)
                    rw [hv194_1] at ge194_1
                    have HL194_1 := Aside0.mk (show Kd.R (Kd.int .i64) 3 _ _ _ _ ((rd_T35 t185 x4_1).f1) from ge194_1)
                    clear hv194_1 ge194_1
                    clear hcc194 hce194
                    have HR194_1 := Aside0.mk hi194_1
                    have HC194_1 := Aside0.mk hl194_1
                    clear hi194_1 hl194_1
                    replace p194 := eq_true p194
                    replace q194 := eq_true q194
                    have p199 : 0 ≤ (x4_1 : Int) := of_decide_eq_true p6_0
                    have q199 : x4_1 < (t185.length : Int) := of_decide_eq_true p6_0
                    obtain ⟨ad199, A199_1, c199_1, e199, hx199_0, hx199_1, hx199_2, hl199_1, hi199_1⟩ := at_T35 (Kd.S_reads' HO_3.out).2.2 x4_1 p199 q199
                    obtain rfl : ad189 = ad199 := (by injection e199)
                    obtain ⟨ce199, hce199, hMe199, hcc199⟩ := Kd.S_get HO_3.out z35 x4_1 p199 (by first | exact q199 | exact of_decide_eq_true p6_0 | (have e_ := (Kd.S_reads' HO_3.out).1; omega))
                    obtain ⟨ve199_1, rfl, ge199_1⟩ := k35_openM hMe199
                    have hv199_1 := hcc199 1 _ rfl
                    rw [add_field _ _ 1 (by omega)] at hv199_1
                    replace hv199_1 := Option.some.inj (hv199_1.symm.trans hx199_1)
                    rw [hv199_1] at ge199_1
                    have HL199_1 := Aside0.mk (show Kd.R (Kd.int .i64) 3 _ _ _ _ ((rd_T35 t185 x4_1).f1) from ge199_1)
                    clear hv199_1 ge199_1
                    clear hcc199 hce199
                    have HR199_1 := Aside0.mk hi199_1
                    have HC199_1 := Aside0.mk hl199_1
                    clear hi199_1 hl199_1
                    replace p199 := eq_true p199
                    replace q199 := eq_true q199
                    have ea_ := Option.some.inj (hx194_1.symm.trans hx199_1)
                    injection ea_ with ea_ en_ ec_
                    subst ea_
                    subst ec_
                    clear en_
                    go_wp2
                    go_roundg k4
                    case measure => have := HK1.out; have := HK2.out; have := HK3.out; have := HK4.out; omega
                    case rel => exact ⟨(wrap64 (x6_3 + 1)), p6_2, H', ⟨by have := HK1.out; have := HK2.out; have := HK3.out; have := HK4.out; omega⟩, ⟨by (with_reducible repeat (first | apply Kd.S_alloc | apply Kd.S_drewN | apply Kd.S_drew)); exact HO_3.out⟩, ⟨by repeat (first | (with_reducible exact HR189_1.out) | (with_reducible refine Kd.C_alloc ?_ _) | (with_reducible refine Kd.C_drewN ?_ _) | (with_reducible refine Kd.C_drew ?_) | exact HR189_1.out)⟩, ⟨by repeat (first | (with_reducible first | exact HB.out | apply below_alloc | apply pw_below_drewN | apply below_drew1) | exact HB.out)⟩⟩
                   ·
                    rw [if_neg c28] at H
                    have c28b0 : (x7_4 == (((rd_T35 t185 x4_1).f1).length : Int)) = false := beq_eq_false_iff_ne.mpr c28
                    have c28b1 : (x7_4 != (((rd_T35 t185 x4_1).f1).length : Int)) = true := bne_iff_ne.mpr c28
                    by_cases c29 : 0 ≤ x6_3
                    ·
                     rw [if_pos c29] at H
                     have c29b0 : decide (0 ≤ x6_3) = true := decide_eq_true c29
                     clear c29
                     by_cases c30 : x6_3 < (t185.length : Int)
                     ·
                      rw [if_pos c30] at H
                      have c30b0 : decide (x6_3 < (t185.length : Int)) = true := decide_eq_true c30
                      clear c30
                      by_cases c31 : x7_4 = (((rd_T35 t185 x6_3).f1).length : Int)
                      ·
                       rw [if_pos c31] at H
                       have c31b0 : (x7_4 == (((rd_T35 t185 x6_3).f1).length : Int)) = true := beq_iff_eq.mpr c31
                       have c31b1 : (x7_4 != (((rd_T35 t185 x6_3).f1).length : Int)) = false := bne_eq_false_iff_eq.mpr c31
                       clear c31
                       have H' := Aside0.mk H
                       clear H
                       have p194 : 0 ≤ (x4_1 : Int) := of_decide_eq_true p6_0
                       have q194 : x4_1 < (t185.length : Int) := of_decide_eq_true p6_0
                       obtain ⟨ad194, A194_1, c194_1, e194, hx194_0, hx194_1, hx194_2, hl194_1, hi194_1⟩ := at_T35 (Kd.S_reads' HO_3.out).2.2 x4_1 p194 q194
                       obtain rfl : ad189 = ad194 := (by injection e194)
                       obtain ⟨ce194, hce194, hMe194, hcc194⟩ := Kd.S_get HO_3.out z35 x4_1 p194 p6_4
                       obtain ⟨ve194_1, rfl, ge194_1⟩ := k35_openM hMe194
                       have hv194_1 := hcc194 1 _ rfl
                       rw [add_field _ _ 1 (by omega)] at hv194_1
                       replace hv194_1 := Option.some.inj (hv194_1.symm.trans hx194_1)
                       rw [hv194_1] at ge194_1
                       have HL194_1 := Aside0.mk (show Kd.R (Kd.int .i64) 3 _ _ _ _ ((rd_T35 t185 x4_1).f1) from ge194_1)
                       clear hv194_1 ge194_1
                       clear hcc194 hce194
                       have HR194_1 := Aside0.mk hi194_1
                       have HC194_1 := Aside0.mk hl194_1
                       clear hi194_1 hl194_1
                       replace p194 := eq_true p194
                       replace q194 := eq_true q194
                       have p199 : 0 ≤ (x4_1 : Int) := of_decide_eq_true p6_0
                       have q199 : x4_1 < (t185.length : Int) := of_decide_eq_true p6_0
                       obtain ⟨ad199, A199_1, c199_1, e199, hx199_0, hx199_1, hx199_2, hl199_1, hi199_1⟩ := at_T35 (Kd.S_reads' HO_3.out).2.2 x4_1 p199 q199
                       obtain rfl : ad189 = ad199 := (by injection e199)
                       obtain ⟨ce199, hce199, hMe199, hcc199⟩ := Kd.S_get HO_3.out z35 x4_1 p199 (by first | exact q199 | exact of_decide_eq_true p6_0 | (have e_ := (Kd.S_reads' HO_3.out).1; omega))
                       obtain ⟨ve199_1, rfl, ge199_1⟩ := k35_openM hMe199
                       have hv199_1 := hcc199 1 _ rfl
                       rw [add_field _ _ 1 (by omega)] at hv199_1
                       replace hv199_1 := Option.some.inj (hv199_1.symm.trans hx199_1)
                       rw [hv199_1] at ge199_1
                       have HL199_1 := Aside0.mk (show Kd.R (Kd.int .i64) 3 _ _ _ _ ((rd_T35 t185 x4_1).f1) from ge199_1)
                       clear hv199_1 ge199_1
                       clear hcc199 hce199
                       have HR199_1 := Aside0.mk hi199_1
                       have HC199_1 := Aside0.mk hl199_1
                       clear hi199_1 hl199_1
                       replace p199 := eq_true p199
                       replace q199 := eq_true q199
                       have ea_ := Option.some.inj (hx194_1.symm.trans hx199_1)
                       injection ea_ with ea_ en_ ec_
                       subst ea_
                       subst ec_
                       clear en_
                       have p200 : 0 ≤ (x6_3 : Int) := of_decide_eq_true p6_0
                       have q200 : x6_3 < (t185.length : Int) := of_decide_eq_true p6_0
                       obtain ⟨ad200, A200_1, c200_1, e200, hx200_0, hx200_1, hx200_2, hl200_1, hi200_1⟩ := at_T35 (Kd.S_reads' HO_3.out).2.2 x6_3 p200 q200
                       obtain rfl : ad189 = ad200 := (by injection e200)
                       obtain ⟨ce200, hce200, hMe200, hcc200⟩ := Kd.S_get HO_3.out z35 x6_3 p200 (by first | exact q200 | exact of_decide_eq_true p6_0 | (have e_ := (Kd.S_reads' HO_3.out).1; omega))
                       obtain ⟨ve200_1, rfl, ge200_1⟩ := k35_openM hMe200
                       have hv200_1 := hcc200 1 _ rfl
                       rw [add_field _ _ 1 (by omega)] at hv200_1
                       replace hv200_1 := Option.some.inj (hv200_1.symm.trans hx200_1)
                       rw [hv200_1] at ge200_1
                       have HL200_1 := Aside0.mk (show Kd.R (Kd.int .i64) 3 _ _ _ _ ((rd_T35 t185 x6_3).f1) from ge200_1)
                       clear hv200_1 ge200_1
                       clear hcc200 hce200
                       have HR200_1 := Aside0.mk hi200_1
                       have HC200_1 := Aside0.mk hl200_1
                       clear hi200_1 hl200_1
                       replace p200 := eq_true p200
                       replace q200 := eq_true q200
                       go_wp2
                       go_roundg k4
                       case measure => have := HK1.out; have := HK2.out; have := HK3.out; have := HK4.out; omega
                       case rel => exact ⟨(wrap64 (x6_3 + 1)), p6_2, H', ⟨by have := HK1.out; have := HK2.out; have := HK3.out; have := HK4.out; omega⟩, ⟨by (with_reducible repeat (first | apply Kd.S_alloc | apply Kd.S_drewN | apply Kd.S_drew)); exact HO_3.out⟩, ⟨by repeat (first | (with_reducible exact HR189_1.out) | (with_reducible refine Kd.C_alloc ?_ _) | (with_reducible refine Kd.C_drewN ?_ _) | (with_reducible refine Kd.C_drew ?_) | exact HR189_1.out)⟩, ⟨by repeat (first | (with_reducible first | exact HB.out | apply below_alloc | apply pw_below_drewN | apply below_drew1) | exact HB.out)⟩⟩
                      ·
                       rw [if_neg c31] at H
                       have c31b0 : (x7_4 == (((rd_T35 t185 x6_3).f1).length : Int)) = false := beq_eq_false_iff_ne.mpr c31
                       have c31b1 : (x7_4 != (((rd_T35 t185 x6_3).f1).length : Int)) = true := bne_iff_ne.mpr c31
                       exact absurd (Option.some.inj H) (by rw [HRT.out]; decide)
                     ·
                      rw [if_neg c30] at H
                      exact absurd H (by simp)
                    ·
                     rw [if_neg c29] at H
                     exact absurd H (by simp)
                ·
                 rw [if_neg c18] at H
                 exact absurd H (by simp)
               ·
                rw [if_neg c17] at H
                exact absurd H (by simp)
            ·
             rw [if_neg c16] at H
             have c16b0 : decide (x6_3 < x4_1) = false := decide_eq_false c16
             clear c16
             have H' := Aside0.mk H
             clear H
             go_wp2
             go_roundg k3
             case measure => have := HK1.out; have := HK2.out; have := HK3.out; omega
             case rel => exact ⟨(wrap64 (x4_1 + 1)), p6_2, H', ⟨by have := HK1.out; have := HK2.out; have := HK3.out; omega⟩, ⟨by (with_reducible repeat (first | apply Kd.S_alloc | apply Kd.S_drewN | apply Kd.S_drew)); exact HO_3.out⟩, ⟨by repeat (first | (with_reducible first | exact HB.out | apply below_alloc | apply pw_below_drewN | apply below_drew1) | exact HB.out)⟩⟩
        ·
         rw [if_neg c9] at H
         exact absurd H (by simp)
       ·
        rw [if_neg c8] at H
        exact absurd H (by simp)
    ·
     rw [if_neg c6] at H
     have c6b0 : decide (x4_1 < (t185.length : Int)) = false := decide_eq_false c6
     clear c6
     replace H := Option.bind_eq_some_iff.mp H
     obtain ⟨t188, A320, H⟩ := H
     replace H : (some t188) = some r := H
     have A32 := Aside0.mk A320
     clear A320
     obtain rfl := Option.some.inj H
     obtain ⟨Ao33, co33, eo33⟩ := Kd.S_slice HO_3.out
     subst eo33
     go_wp2_with (first | ((with_reducible refine gate_callee (f := 6) rfl ?_); refine goesL_ (some 100) rfl rfl Tryd.func6 (by kernel_rfl) rfl #[] rfl p6_1 ?_; (with_reducible refine (ladderbacklaw33_awake.calls k1  t188 _ A32.out (hL_ := ?hL_)).mono ?_); (case hL_ => repeat (first | exact hL_ | exact Laid.below hL_ HB.out | apply Laid.drewN | apply Laid.drew | apply Laid.alloc | (refine Laid.below hL_ ?_; repeat (first | (with_reducible first | exact HB.out | apply below_alloc | apply pw_below_drewN | apply below_drew1 | refine below_set ?_ (Aside0.out (by assumption))) | exact HB.out)))); rintro e w34 ⟨rfl, hb⟩; refine ⟨_, rfl, ?_⟩; have n0_ := Aside0.mk (Kd.S_below (by (with_reducible repeat (first | apply Kd.S_alloc | apply Kd.S_drewN | apply Kd.S_drew)); exact HO_3.out) hb); have n1_ := Aside0.mk (below_step p6_3 hb); clear HO_3; clear HB; have HO_3 := n0_; have HB := n1_; clear n0_ n1_; (try clear hb); (try clear hb2); (try clear hk); (try clear hi)))
     go_ret
     exact ⟨by first | rfl | (simp [errW_none, errW_some] <;> rfl) | (simp [*, errW_none, errW_some] <;> rfl), by repeat (first | (with_reducible first | exact HB.out | apply below_alloc | apply pw_below_drewN | apply below_drew1) | exact HB.out)⟩
 ·
  replace c3 := Bool.eq_false_iff.mpr c3
  subst c3
  have H1 : ((ladderbacklaw33_awake.f k).bind fun t184 => (some t184)) = some r := by rw [if_neg (show ¬ (false = true) by decide)] at H; exact H
  clear H
  have H := H1
  clear H1
  replace H := Option.bind_eq_some_iff.mp H
  obtain ⟨t184, A350, H⟩ := H
  replace H : (some t184) = some r := H
  have A35 := Aside0.mk A350
  clear A350
  obtain rfl := Option.some.inj H
  go_enter Tryd.func4, Tryd.ntmps4
  go_wp2_with (first | ((with_reducible refine gate_callee (f := 5) rfl ?_); refine goesL_ (some 10) rfl rfl Tryd.func5 (by kernel_rfl) rfl #[.slice A0 l0.length c0, .int .i64 16] rfl p6_1 ?_; (with_reducible refine (ladderbackref31_Few.calls k _ _ l0 16 false _ ?side1 ?side2 A2.out).mono ?_); (case side1 => repeat (first | exact HR0.out | (with_reducible refine Kd.C_alloc ?_ _) | (with_reducible refine Kd.C_drewN ?_ _) | (with_reducible refine Kd.C_drew ?_))); (case side2 => exact HC0.out); rintro e w' ⟨rfl, ⟨nd, rfl⟩⟩; refine ⟨_, rfl, ?_⟩) | ((with_reducible refine gate_callee (f := 6) rfl ?_); refine goesL_ (some 12) rfl rfl Tryd.func6 (by kernel_rfl) rfl #[] rfl p6_1 ?_; (with_reducible refine (ladderbacklaw33_awake.calls k  t184 _ A35.out (hL_ := ?hL_)).mono ?_); (case hL_ => repeat (first | exact hL_ | exact Laid.below hL_ HB.out | apply Laid.drewN | apply Laid.drew | apply Laid.alloc | (refine Laid.below hL_ ?_; repeat (first | (with_reducible first | exact HB.out | apply below_alloc | apply pw_below_drewN | apply below_drew1 | refine below_set ?_ (Aside0.out (by assumption))) | exact HB.out)))); rintro e w36 ⟨rfl, hb⟩; refine ⟨_, rfl, ?_⟩; have n0_ := Aside0.mk (below_step p6_3 hb); clear HB; have HB := n0_; clear n0_; (try clear hb); (try clear hb2); (try clear hk); (try clear hi)))
  go_ret
  exact ⟨by first | rfl | (simp [errW_none, errW_some] <;> rfl) | (simp [*, errW_none, errW_some] <;> rfl), by repeat (first | (with_reducible first | exact HB.out | apply below_alloc | apply pw_below_drewN | apply below_drew1) | exact HB.out)⟩
/-- The pure statement of ladderbacklaw33_LoopNests. -/
def ladderbacklaw33_LoopNests.Pure : Prop := ∀ (y0 : List (List Int)), (y0.length ≤ 9223372036854775807 ∧ ∀ y0_ ∈ y0, (y0_.length ≤ 9223372036854775807 ∧ ∀ y1_ ∈ y0_, (Lit.int .i64 y1_).wf = true)) → ∃ k, ladderbacklaw33_LoopNests.f k y0 = some true

end Go.Proofs.YtfiffhcpgojkhaaDoor.QLoopNests
