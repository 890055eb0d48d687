-- Printed by a program of this session's over the kit's printer (wip/patch_print.py).
import Derived.Test.YtfiffhcpgojkhaaQInterReducesx0
import Derived.Test.YtfiffhcpgojkhaaQInterReducesx4
import Derived.Test.YtfiffhcpgojkhaaQInterReducesx5
namespace Go.Proofs.Ytfiffhcpgojkhaa.QInterReduces
open Go.RowKit Go.Proofs.Ytfiffhcpgojkhaa Go.Proofs.YtfiffhcpgojkhaaW.PrintWords Go.Proofs.YtfiffhcpgojkhaaW.PrintLast Go.Proofs.YtfiffhcpgojkhaaW.PrintMore
attribute [local go_sem] setCell_drewN0 max2_int min2_int max_two min_two max_three min_three max_four min_four   -- for this text's walks alone
set_option linter.unusedVariables false
set_option linter.unusedSimpArgs false

/-! ### ladderbackref34_Plain: function 50 -/
theorem p6_0 {P : Prop} (h : P := by first | (with_reducible assumption) | assumption) : P := h
theorem p6_1 {P : Prop} (h : P := by repeat (first | (with_reducible first | exact HB.out | apply below_alloc | apply pw_below_drewN | apply below_drew1) | exact HB.out)) : P := h
theorem p6_2 {P : Prop} (h : P := by repeat (first | (with_reducible exact HR250_0.out) | (with_reducible refine Kd.C_alloc ?_ _) | (with_reducible refine Kd.C_drewN ?_ _) | (with_reducible refine Kd.C_drew ?_) | exact HR250_0.out)) : P := h
theorem p6_3 {P : Prop} (h : P := by first | rfl | (simp; done) | (simp [*]; done)) : P := h
theorem p6_4 {P : Prop} (h : P := by (with_reducible repeat (first | apply Kd.S_alloc | apply Kd.S_drewN | apply Kd.S_drew)); exact HO_4.out) : P := h
theorem p6_5 {P : Prop} (h : P := by first | exact q249 | exact of_decide_eq_true p6_0 | (have e_ := (Kd.S_reads' HO_4.out).1; omega)) : P := h
theorem p6_6 {P : Prop} (h : P := by (with_reducible repeat (first | apply Kd.R_alloc | apply Kd.R_drewN | apply Kd.R_drew)); exact HO_3.out) : P := h
theorem p6_7 {P : Prop} (h : P := by (with_reducible repeat (first | apply Kd.R_alloc | apply Kd.R_drewN | apply Kd.R_drew)); exact HO_6.out) : P := h
theorem p6_8 {P : Prop} (h : P := by first | exact q250 | exact of_decide_eq_true p6_0 | (have e_ := (Kd.S_reads' HO_4.out).1; omega)) : P := h
theorem p6_9 {P : Prop} (h : P := by (try simp only [List.map_toArray, List.map_cons, List.map_nil]); first | done | rfl | (simp only [List.length_drop, List.length_take]; rfl)) : P := h
theorem p6_10 {P : Prop} (h : P := by repeat (first | (with_reducible exact HR249_0.out) | (with_reducible refine Kd.C_alloc ?_ _) | (with_reducible refine Kd.C_drewN ?_ _) | (with_reducible refine Kd.C_drew ?_) | exact HR249_0.out)) : P := h
mutual
def ladderbackref34_Plain.l0 : Nat → List (List Int) → List Bool → List (List Int) → Int → Option (Bool)
 | 0, _, _, _, _ => none
 | k + 1, x0, x3, x4, x5 => if x5 < (x0.length : Int) then (ladderbackref34_Plain.l1 k x0 x3 x4 x5 ([] : List Int) 0) else (ladderbackref34_Plain.l2 k x4 0)
def ladderbackref34_Plain.l1 : Nat → List (List Int) → List Bool → List (List Int) → Int → List Int → Int → Option (Bool)
 | 0, _, _, _, _, _, _ => none
 | k + 1, x0, x3, x4, x5, x6, x7 => if 0 ≤ x5 then (if x5 < (x0.length : Int) then (if x7 < ((rd_L1 x0 x5).length : Int) then (if x5 < (x3.length : Int) then (ladderbackref34_Plain.j2 k x0 x3 x4 x5 x6 x7 (rdOf false x3 x5)) else (none)) else (ladderbackref34_Plain.j2 k x0 x3 x4 x5 x6 x7 false)) else (none)) else (none)
def ladderbackref34_Plain.j2 : Nat → List (List Int) → List Bool → List (List Int) → Int → List Int → Int → Bool → Option (Bool)
 | 0, _, _, _, _, _, _, _ => none
 | k + 1, x0, x3, x4, x5, x6, x7, x31 => if x31 = true then (if 0 ≤ x5 then (if x5 < (x0.length : Int) then (if 0 ≤ x7 then (if x7 < ((rd_L1 x0 x5).length : Int) then ((ladderbackref33_Back.f k x0 x5 (rd (rd_L1 x0 x5) x7)).bind fun t240 => (if t240 = true then (ladderbackref34_Plain.l1 k x0 x3 x4 x5 x6 (wrap64 (x7 + 1))) else (if x6.length < 17592186044416 then (ladderbackref34_Plain.l1 k x0 x3 x4 x5 (x6 ++ [rd (rd_L1 x0 x5) x7]) (wrap64 (x7 + 1))) else (none)))) else (none)) else (none)) else (none)) else (none)) else (if x4.length < 5864062014805 then (ladderbackref34_Plain.l0 k x0 x3 (x4 ++ [x6]) (wrap64 (x5 + 1))) else (none))
def ladderbackref34_Plain.l2 : Nat → List (List Int) → Int → Option (Bool)
 | 0, _, _ => none
 | k + 1, x4, x8 => if x8 < (x4.length : Int) then (ladderbackref34_Plain.l3 k x4 x8 0) else (some true)
def ladderbackref34_Plain.l3 : Nat → List (List Int) → Int → Int → Option (Bool)
 | 0, _, _, _ => none
 | k + 1, x4, x8, x9 => if 0 ≤ x8 then (if x8 < (x4.length : Int) then (if x9 < ((rd_L1 x4 x8).length : Int) then (if 0 ≤ x9 then (if (rd (rd_L1 x4 x8) x9) ≥ 0 then (if (rd (rd_L1 x4 x8) x9) < (x4.length : Int) then ((ladderbackref31_Reach.f k x4 (rd (rd_L1 x4 x8) x9) (-1)).bind fun t252 => (if x8 < (t252.length : Int) then (if rdOf false t252 x8 = true then (some false) else (ladderbackref34_Plain.l3 k x4 x8 (wrap64 (x9 + 1)))) else (none))) else (ladderbackref34_Plain.l3 k x4 x8 (wrap64 (x9 + 1)))) else (ladderbackref34_Plain.l3 k x4 x8 (wrap64 (x9 + 1)))) else (none)) else (ladderbackref34_Plain.l2 k x4 (wrap64 (x8 + 1)))) else (none)) else (none)
end
def ladderbackref34_Plain.f (k : Nat) (l0 : List (List Int)) : Option (Bool) := (ladderbackref31_Reach.f k l0 0 (-1)).bind fun t233 => (ladderbackref34_Plain.l0 k l0 t233 ([] : List (List Int)) 0)
theorem ladderbackref34_Plain.mono_l : ∀ k, (∀ y0 y1 y2 y3, LeO (ladderbackref34_Plain.l0 k y0 y1 y2 y3) (ladderbackref34_Plain.l0 (k + 1) y0 y1 y2 y3)) ∧ (∀ y0 y1 y2 y3 y4 y5, LeO (ladderbackref34_Plain.l1 k y0 y1 y2 y3 y4 y5) (ladderbackref34_Plain.l1 (k + 1) y0 y1 y2 y3 y4 y5)) ∧ (∀ y0 y1 y2 y3 y4 y5 y6, LeO (ladderbackref34_Plain.j2 k y0 y1 y2 y3 y4 y5 y6) (ladderbackref34_Plain.j2 (k + 1) y0 y1 y2 y3 y4 y5 y6)) ∧ (∀ y0 y1, LeO (ladderbackref34_Plain.l2 k y0 y1) (ladderbackref34_Plain.l2 (k + 1) y0 y1)) ∧ (∀ y0 y1 y2, LeO (ladderbackref34_Plain.l3 k y0 y1 y2) (ladderbackref34_Plain.l3 (k + 1) y0 y1 y2))
 | 0 => ⟨fun _ _ _ _ r h => by simp [ladderbackref34_Plain.l0] at h, fun _ _ _ _ _ _ r h => by simp [ladderbackref34_Plain.l1] at h, fun _ _ _ _ _ _ _ r h => by simp [ladderbackref34_Plain.j2] at h, fun _ _ r h => by simp [ladderbackref34_Plain.l2] at h, fun _ _ _ r h => by simp [ladderbackref34_Plain.l3] at h⟩
 | k + 1 => by
  obtain ⟨ih0, ih1, ih2, ih3, ih4⟩ := ladderbackref34_Plain.mono_l k
  refine ⟨?_, ?_, ?_, ?_, ?_⟩
  ·
   intro y0 y1 y2 y3
   unfold ladderbackref34_Plain.l0
   repeat' first
   | (with_reducible exact ih0 _ _ _ _)
   | (with_reducible exact ih1 _ _ _ _ _ _)
   | (with_reducible exact ih2 _ _ _ _ _ _ _)
   | (with_reducible exact ih3 _ _)
   | (with_reducible exact ih4 _ _ _)
   | (with_reducible exact ladderbackref31_Reach.mono _ _ _ _)
   | (with_reducible exact ladderbackref33_Back.mono _ _ _ _)
   | (with_reducible exact LeO.refl _)
   | (with_reducible exact LeO.none _)
   | (with_reducible refine LeO.ite ?_ ?_)
   | (with_reducible refine LeO.bind ?_ (fun _ => ?_))
   | exact ih0 _ _ _ _
   | exact ih1 _ _ _ _ _ _
   | exact ih2 _ _ _ _ _ _ _
   | exact ih3 _ _
   | exact ih4 _ _ _
   | exact ladderbackref31_Reach.mono _ _ _ _
   | exact ladderbackref33_Back.mono _ _ _ _
   | exact LeO.none _
   | refine LeO.ite ?_ ?_
   | refine LeO.bind ?_ (fun _ => ?_)
  ·
   intro y0 y1 y2 y3 y4 y5
   unfold ladderbackref34_Plain.l1
   repeat' first
   | (with_reducible exact ih0 _ _ _ _)
   | (with_reducible exact ih1 _ _ _ _ _ _)
   | (with_reducible exact ih2 _ _ _ _ _ _ _)
   | (with_reducible exact ih3 _ _)
   | (with_reducible exact ih4 _ _ _)
   | (with_reducible exact ladderbackref31_Reach.mono _ _ _ _)
   | (with_reducible exact ladderbackref33_Back.mono _ _ _ _)
   | (with_reducible exact LeO.refl _)
   | (with_reducible exact LeO.none _)
   | (with_reducible refine LeO.ite ?_ ?_)
   | (with_reducible refine LeO.bind ?_ (fun _ => ?_))
   | exact ih0 _ _ _ _
   | exact ih1 _ _ _ _ _ _
   | exact ih2 _ _ _ _ _ _ _
   | exact ih3 _ _
   | exact ih4 _ _ _
   | exact ladderbackref31_Reach.mono _ _ _ _
   | exact ladderbackref33_Back.mono _ _ _ _
   | exact LeO.none _
   | refine LeO.ite ?_ ?_
   | refine LeO.bind ?_ (fun _ => ?_)
  ·
   intro y0 y1 y2 y3 y4 y5 y6
   unfold ladderbackref34_Plain.j2
   repeat' first
   | (with_reducible exact ih0 _ _ _ _)
   | (with_reducible exact ih1 _ _ _ _ _ _)
   | (with_reducible exact ih2 _ _ _ _ _ _ _)
   | (with_reducible exact ih3 _ _)
   | (with_reducible exact ih4 _ _ _)
   | (with_reducible exact ladderbackref31_Reach.mono _ _ _ _)
   | (with_reducible exact ladderbackref33_Back.mono _ _ _ _)
   | (with_reducible exact LeO.refl _)
   | (with_reducible exact LeO.none _)
   | (with_reducible refine LeO.ite ?_ ?_)
   | (with_reducible refine LeO.bind ?_ (fun _ => ?_))
   | exact ih0 _ _ _ _
   | exact ih1 _ _ _ _ _ _
   | exact ih2 _ _ _ _ _ _ _
   | exact ih3 _ _
   | exact ih4 _ _ _
   | exact ladderbackref31_Reach.mono _ _ _ _
   | exact ladderbackref33_Back.mono _ _ _ _
   | exact LeO.none _
   | refine LeO.ite ?_ ?_
   | refine LeO.bind ?_ (fun _ => ?_)
  ·
   intro y0 y1
   unfold ladderbackref34_Plain.l2
   repeat' first
   | (with_reducible exact ih0 _ _ _ _)
   | (with_reducible exact ih1 _ _ _ _ _ _)
   | (with_reducible exact ih2 _ _ _ _ _ _ _)
   | (with_reducible exact ih3 _ _)
   | (with_reducible exact ih4 _ _ _)
   | (with_reducible exact ladderbackref31_Reach.mono _ _ _ _)
   | (with_reducible exact ladderbackref33_Back.mono _ _ _ _)
   | (with_reducible exact LeO.refl _)
   | (with_reducible exact LeO.none _)
   | (with_reducible refine LeO.ite ?_ ?_)
   | (with_reducible refine LeO.bind ?_ (fun _ => ?_))
   | exact ih0 _ _ _ _
   | exact ih1 _ _ _ _ _ _
   | exact ih2 _ _ _ _ _ _ _
   | exact ih3 _ _
   | exact ih4 _ _ _
   | exact ladderbackref31_Reach.mono _ _ _ _
   | exact ladderbackref33_Back.mono _ _ _ _
   | exact LeO.none _
   | refine LeO.ite ?_ ?_
   | refine LeO.bind ?_ (fun _ => ?_)
  ·
   intro y0 y1 y2
   unfold ladderbackref34_Plain.l3
   repeat' first
   | (with_reducible exact ih0 _ _ _ _)
   | (with_reducible exact ih1 _ _ _ _ _ _)
   | (with_reducible exact ih2 _ _ _ _ _ _ _)
   | (with_reducible exact ih3 _ _)
   | (with_reducible exact ih4 _ _ _)
   | (with_reducible exact ladderbackref31_Reach.mono _ _ _ _)
   | (with_reducible exact ladderbackref33_Back.mono _ _ _ _)
   | (with_reducible exact LeO.refl _)
   | (with_reducible exact LeO.none _)
   | (with_reducible refine LeO.ite ?_ ?_)
   | (with_reducible refine LeO.bind ?_ (fun _ => ?_))
   | exact ih0 _ _ _ _
   | exact ih1 _ _ _ _ _ _
   | exact ih2 _ _ _ _ _ _ _
   | exact ih3 _ _
   | exact ih4 _ _ _
   | exact ladderbackref31_Reach.mono _ _ _ _
   | exact ladderbackref33_Back.mono _ _ _ _
   | exact LeO.none _
   | refine LeO.ite ?_ ?_
   | refine LeO.bind ?_ (fun _ => ?_)
theorem ladderbackref34_Plain.mono : ∀ a0 k, LeO (ladderbackref34_Plain.f k a0) (ladderbackref34_Plain.f (k + 1) a0) := by
 intro a0 k
 obtain ⟨ih0, ih1, ih2, ih3, ih4⟩ := ladderbackref34_Plain.mono_l k
 unfold ladderbackref34_Plain.f
 repeat' first
   | (with_reducible exact ih0 _ _ _ _)
   | (with_reducible exact ih1 _ _ _ _ _ _)
   | (with_reducible exact ih2 _ _ _ _ _ _ _)
   | (with_reducible exact ih3 _ _)
   | (with_reducible exact ih4 _ _ _)
   | (with_reducible exact ladderbackref31_Reach.mono _ _ _ _)
   | (with_reducible exact ladderbackref33_Back.mono _ _ _ _)
   | (with_reducible exact LeO.refl _)
   | (with_reducible exact LeO.none _)
   | (with_reducible refine LeO.ite ?_ ?_)
   | (with_reducible refine LeO.bind ?_ (fun _ => ?_))
   | exact ih0 _ _ _ _
   | exact ih1 _ _ _ _ _ _
   | exact ih2 _ _ _ _ _ _ _
   | exact ih3 _ _
   | exact ih4 _ _ _
   | exact ladderbackref31_Reach.mono _ _ _ _
   | exact ladderbackref33_Back.mono _ _ _ _
   | exact LeO.none _
   | refine LeO.ite ?_ ?_
   | refine LeO.bind ?_ (fun _ => ?_)
set_option maxHeartbeats 8000000 in
set_option maxRecDepth 100000 in
theorem ladderbackref34_Plain.calls (k : Nat) (A0 : Option Addr) (c0 : Nat) (l0 : List (List Int)) (r : Bool) (w : World) (hr0 : Kd.C (Kd.slice 3 (Kd.int .i64)) w A0 l0.length l0) (hc0 : l0.length ≤ c0) (h : ladderbackref34_Plain.f k l0 = some r) :
  Calls Try.prog 50 #[.slice A0 l0.length c0] w fun e w' => e = .returned (.bool r) ∧ Below w.heap.size w w' := by
 have HR0 := Aside0.mk hr0
 have HC0 := Aside0.mk hc0
 clear hr0 hc0
 have HB := Aside0.mk (Below.refl w.heap.size w)
 have H : ((ladderbackref31_Reach.f k l0 0 (-1)).bind fun t233 => (ladderbackref34_Plain.l0 k l0 t233 ([] : List (List Int)) 0)) = some r := h
 clear h
 replace H := Option.bind_eq_some_iff.mp H
 obtain ⟨t233, A20, H⟩ := H
 replace H : (ladderbackref34_Plain.l0 k l0 t233 ([] : List (List Int)) 0) = some r := H
 have A2 := Aside0.mk A20
 clear A20
 have H' := Aside0.mk H
 clear H
 go_enter Try.func50, Try.ntmps50
 go_wp2_with (first | ((with_reducible refine gate_callee (f := 49) rfl ?_); refine goesL_ (some 12) rfl rfl Try.func49 (by kernel_rfl) rfl #[.slice A0 l0.length c0, .int .i64 0, .int .i64 (-1)] rfl p6_9 ?_; (with_reducible refine (ladderbackref31_Reach.calls k _ _ l0 0 (-1) t233 _ ?side1 ?side2 A2.out).mono ?_); (case side1 => repeat (first | exact HR0.out | (with_reducible refine Kd.C_alloc ?_ _) | (with_reducible refine Kd.C_drewN ?_ _) | (with_reducible refine Kd.C_drew ?_))); (case side2 => exact HC0.out); rintro e w3 ⟨v234, rfl, ho0, hb⟩; refine ⟨_, rfl, ?_⟩; have n0_ := Aside0.mk (Kd.R_lower ho0 (below_size p6_1)); have n1_ := Aside0.mk (below_step p6_1 hb); clear HB; have HO235 := n0_; have HB := n1_; clear n0_ n1_; (try clear hb); (try clear hb2); (try clear hk); (try clear hi); (try clear ho0)))
 go_loopg [4, 5] k (fun kq v4 v5 w' => ∃ (x4_1 : List (List Int)) (x5_1 : Int), v5 = .int .i64 x5_1 ∧ Aside0 (ladderbackref34_Plain.l0 kq l0 t233 x4_1 x5_1 = some r) ∧ Aside0 (kq ≤ k) ∧ Aside0 (Kd.R Kd.bool 4 w' w.heap.size (fun _ => True) v234 t233) ∧ Aside0 (Kd.S (Kd.slice 3 (Kd.int .i64)) 27 w' w.heap.size (fun _ => True) v4 x4_1) ∧ Aside0 (Below w.heap.size w w'))
 case atStart => exact ⟨(([] : List (List Int))), (0), p6_3, H', ⟨Nat.le_refl _⟩, ⟨by (with_reducible repeat (first | apply Kd.R_alloc | apply Kd.R_drewN | apply Kd.R_drew)); exact HO235.out⟩, ⟨by first | exact Kd.S_nil _ _ _ _ _ | exact Kd.N_nil _ _ _ _ _ | exact Kd.V_nil _ _ _ _ _ | exact Kd.Q_nil _ _ _ _ _ | exact Kd.R_nil _ _ _ _ _⟩, ⟨by repeat (first | (with_reducible first | exact HB.out | apply below_alloc | apply pw_below_drewN | apply below_drew1) | exact HB.out)⟩⟩
 case round =>
  clear H'
  obtain ⟨x4_1, x5_1, rfl, HA, HK1, HO_3, HO_4, HB⟩ := hrel
  cases gk with
  | zero => exact absurd HA.out (by simp [ladderbackref34_Plain.l0])
  | succ k1 =>
   have H := HA.out
   clear HA
   simp only [ladderbackref34_Plain.l0] at H
   by_cases c4 : x5_1 < (l0.length : Int)
   ·
    rw [if_pos c4] at H
    have c4b0 : decide (x5_1 < (l0.length : Int)) = true := decide_eq_true c4
    clear c4
    have H' := Aside0.mk H
    clear H
    go_wp2
    go_loopg [6, 7] k1 (fun kq v6 v7 w' => ∃ (x6_2 : List Int) (x7_2 : Int), v7 = .int .i64 x7_2 ∧ Aside0 (ladderbackref34_Plain.l1 kq l0 t233 x4_1 x5_1 x6_2 x7_2 = some r) ∧ Aside0 (kq ≤ k1) ∧ Aside0 (Kd.R Kd.bool 4 w' w.heap.size (fun _ => True) v234 t233) ∧ Aside0 (Kd.S (Kd.slice 3 (Kd.int .i64)) 27 w' w.heap.size (fun k_ => some k_ ≠ (v6 : Value).ownBlock) u4 x4_1) ∧ Aside0 (Kd.R (Kd.int .i64) 3 w' w.heap.size (fun _ => True) v6 x6_2) ∧ Aside0 (Below w.heap.size w w'))
    case atStart => exact ⟨(([] : List Int)), (0), p6_3, H', ⟨Nat.le_refl _⟩, ⟨by (with_reducible repeat (first | apply Kd.R_alloc | apply Kd.R_drewN | apply Kd.R_drew)); exact HO_3.out⟩, ⟨by (with_reducible repeat (first | apply Kd.S_alloc | apply Kd.S_drewN | apply Kd.S_drew)); exact Kd.S_mono HO_4.out (fun _ hk => (by simp [Value.ownBlock]))⟩, ⟨by first | exact Kd.R_nil _ _ _ _ _ | exact Kd.N_nil _ _ _ _ _ | exact Kd.V_nil _ _ _ _ _ | exact Kd.Q_nil _ _ _ _ _ | exact Kd.S_nil _ _ _ _ _⟩, ⟨by repeat (first | (with_reducible first | exact HB.out | apply below_alloc | apply pw_below_drewN | apply below_drew1) | exact HB.out)⟩⟩
    case round =>
     clear H'
     (try clear c4); (try clear c4b0)
     obtain ⟨x6_2, x7_2, rfl, HA, HK2, HO_3, HO_4, HO_6, HB⟩ := hrel
     cases gk with
     | zero => exact absurd HA.out (by simp [ladderbackref34_Plain.l1])
     | succ k2 =>
      have H := HA.out
      clear HA
      simp only [ladderbackref34_Plain.l1] at H
      have HC5 := Aside0.mk H
      clear H
      go_upto_region 8 with (fail)
      go_cut [31] from 19 to 31 (fun v31 wc => ∃ (kq : Nat) (x31_4 : Bool), v31 = .bool x31_4 ∧ Aside0 (ladderbackref34_Plain.j2 kq l0 t233 x4_1 x5_1 x6_2 x7_2 x31_4 = some r) ∧ Aside0 (kq ≤ k2) ∧ Aside0 (Kd.R Kd.bool 4 wc w.heap.size (fun _ => True) v234 t233) ∧ Aside0 (Kd.S (Kd.slice 3 (Kd.int .i64)) 27 wc w.heap.size (fun k_ => some k_ ≠ (u6 : Value).ownBlock) u4 x4_1) ∧ Aside0 (Kd.R (Kd.int .i64) 3 wc w.heap.size (fun _ => True) u6 x6_2) ∧ Aside0 (Below w.heap.size w wc))
      case first =>
       have H := HC5.out
       clear HC5
       by_cases c6 : 0 ≤ x5_1
       ·
        rw [if_pos c6] at H
        have c6b0 : decide (0 ≤ x5_1) = true := decide_eq_true c6
        clear c6
        (first | rw [c6b0] | (simp only [i64_w, i32_w]; rw [c6b0]) | rw [c6b1] | skip)
        by_cases c7 : x5_1 < (l0.length : Int)
        ·
         rw [if_pos c7] at H
         have c7b0 : decide (x5_1 < (l0.length : Int)) = true := decide_eq_true c7
         clear c7
         by_cases c8 : x7_2 < ((rd_L1 l0 x5_1).length : Int)
         ·
          rw [if_pos c8] at H
          have c8b0 : decide (x7_2 < ((rd_L1 l0 x5_1).length : Int)) = true := decide_eq_true c8
          clear c8
          by_cases c9 : x5_1 < (t233.length : Int)
          ·
           rw [if_pos c9] at H
           have c9b0 : decide (x5_1 < (t233.length : Int)) = true := decide_eq_true c9
           clear c9
           have H' := Aside0.mk H
           clear H
           have p236 : 0 ≤ (x5_1 : Int) := of_decide_eq_true p6_0
           have q236 : x5_1 < (l0.length : Int) := of_decide_eq_true p6_0
           obtain ⟨ad236, A236_0, c236_0, e236, hx236_0, hl236_0, hi236_0⟩ := at_L1 HR0.out x5_1 p236 q236
           cases e236
           replace hx236_0 := (HB.out.cell (World.block_lt_of_cell? w _ hx236_0)).trans hx236_0
           have HR236_0 := Aside0.mk hi236_0
           have HC236_0 := Aside0.mk hl236_0
           clear hi236_0 hl236_0
           replace p236 := eq_true p236
           replace q236 := eq_true q236
           obtain ⟨Ao10, co10, eo10⟩ := Kd.R_slice HO_3.out
           subst eo10
           have p237 : 0 ≤ (x5_1 : Int) := of_decide_eq_true p6_0
           have q237 : x5_1 < (t233.length : Int) := of_decide_eq_true p6_0
           obtain ⟨ad237, e237, hx237_0⟩ := Kd.at_bool (Kd.R_reads' HO_3.out).2.2 x5_1 p237 q237
           cases e237
           replace p237 := eq_true p237
           replace q237 := eq_true q237
           go_wp2
           go_meet
           case rel => exact ⟨_, (rdOf false t233 x5_1), p6_3, H', ⟨by have := HK1.out; have := HK2.out; first | omega | exact Nat.le_refl _⟩, ⟨by (with_reducible repeat (first | apply Kd.R_alloc | apply Kd.R_drewN | apply Kd.R_drew)); exact HO_3.out⟩, ⟨by (with_reducible repeat (first | apply Kd.S_alloc | apply Kd.S_drewN | apply Kd.S_drew)); exact HO_4.out⟩, ⟨by (with_reducible repeat (first | apply Kd.R_alloc | apply Kd.R_drewN | apply Kd.R_drew)); exact HO_6.out⟩, ⟨by repeat (first | (with_reducible first | exact HB.out | apply below_alloc | apply pw_below_drewN | apply below_drew1) | exact HB.out)⟩⟩
          ·
           rw [if_neg c9] at H
           exact absurd H (by simp)
         ·
          rw [if_neg c8] at H
          have c8b0 : decide (x7_2 < ((rd_L1 l0 x5_1).length : Int)) = false := decide_eq_false c8
          clear c8
          have H' := Aside0.mk H
          clear H
          have p236 : 0 ≤ (x5_1 : Int) := of_decide_eq_true p6_0
          have q236 : x5_1 < (l0.length : Int) := of_decide_eq_true p6_0
          obtain ⟨ad236, A236_0, c236_0, e236, hx236_0, hl236_0, hi236_0⟩ := at_L1 HR0.out x5_1 p236 q236
          cases e236
          replace hx236_0 := (HB.out.cell (World.block_lt_of_cell? w _ hx236_0)).trans hx236_0
          have HR236_0 := Aside0.mk hi236_0
          have HC236_0 := Aside0.mk hl236_0
          clear hi236_0 hl236_0
          replace p236 := eq_true p236
          replace q236 := eq_true q236
          go_wp2
          go_meet
          case rel => exact ⟨_, (false), p6_3, H', ⟨by have := HK1.out; have := HK2.out; first | omega | exact Nat.le_refl _⟩, ⟨by (with_reducible repeat (first | apply Kd.R_alloc | apply Kd.R_drewN | apply Kd.R_drew)); exact HO_3.out⟩, ⟨by (with_reducible repeat (first | apply Kd.S_alloc | apply Kd.S_drewN | apply Kd.S_drew)); exact HO_4.out⟩, ⟨by (with_reducible repeat (first | apply Kd.R_alloc | apply Kd.R_drewN | apply Kd.R_drew)); exact HO_6.out⟩, ⟨by repeat (first | (with_reducible first | exact HB.out | apply below_alloc | apply pw_below_drewN | apply below_drew1) | exact HB.out)⟩⟩
        ·
         rw [if_neg c7] at H
         exact absurd H (by simp)
       ·
        rw [if_neg c6] at H
        exact absurd H (by simp)
      case rest =>
       clear HC5
       obtain ⟨kq, x31_4, rfl, HA, HJ4, HO_3, HO_4, HO_6, HB⟩ := hcut
       cases kq with
       | zero => exact absurd HA.out (by simp [ladderbackref34_Plain.j2])
       | succ kj4 =>
        have H := HA.out
        clear HA
        simp only [ladderbackref34_Plain.j2] at H
        by_cases c11 : x31_4 = true
        ·
         subst c11
         have H1 : (if 0 ≤ x5_1 then (if x5_1 < (l0.length : Int) then (if 0 ≤ x7_2 then (if x7_2 < ((rd_L1 l0 x5_1).length : Int) then ((ladderbackref33_Back.f kj4 l0 x5_1 (rd (rd_L1 l0 x5_1) x7_2)).bind fun t240 => (if t240 = true then (ladderbackref34_Plain.l1 kj4 l0 t233 x4_1 x5_1 x6_2 (wrap64 (x7_2 + 1))) else (if x6_2.length < 17592186044416 then (ladderbackref34_Plain.l1 kj4 l0 t233 x4_1 x5_1 (x6_2 ++ [rd (rd_L1 l0 x5_1) x7_2]) (wrap64 (x7_2 + 1))) else (none)))) else (none)) else (none)) else (none)) else (none)) = some r := by rw [if_pos rfl] at H; exact H
         clear H
         have H := H1
         clear H1
         by_cases c12 : 0 ≤ x5_1
         ·
          rw [if_pos c12] at H
          have c12b0 : decide (0 ≤ x5_1) = true := decide_eq_true c12
          clear c12
          by_cases c13 : x5_1 < (l0.length : Int)
          ·
           rw [if_pos c13] at H
           have c13b0 : decide (x5_1 < (l0.length : Int)) = true := decide_eq_true c13
           clear c13
           by_cases c14 : 0 ≤ x7_2
           ·
            rw [if_pos c14] at H
            have c14b0 : decide (0 ≤ x7_2) = true := decide_eq_true c14
            clear c14
            by_cases c15 : x7_2 < ((rd_L1 l0 x5_1).length : Int)
            ·
             rw [if_pos c15] at H
             have c15b0 : decide (x7_2 < ((rd_L1 l0 x5_1).length : Int)) = true := decide_eq_true c15
             clear c15
             replace H := Option.bind_eq_some_iff.mp H
             obtain ⟨t240, A160, H⟩ := H
             replace H : (if t240 = true then (ladderbackref34_Plain.l1 kj4 l0 t233 x4_1 x5_1 x6_2 (wrap64 (x7_2 + 1))) else (if x6_2.length < 17592186044416 then (ladderbackref34_Plain.l1 kj4 l0 t233 x4_1 x5_1 (x6_2 ++ [rd (rd_L1 l0 x5_1) x7_2]) (wrap64 (x7_2 + 1))) else (none))) = some r := H
             have A16 := Aside0.mk A160
             clear A160
             by_cases c17 : t240 = true
             ·
              subst c17
              have H1 : (ladderbackref34_Plain.l1 kj4 l0 t233 x4_1 x5_1 x6_2 (wrap64 (x7_2 + 1))) = some r := by rw [if_pos rfl] at H; exact H
              clear H
              have H := H1
              clear H1
              have H' := Aside0.mk H
              clear H
              have p238 : 0 ≤ (x5_1 : Int) := of_decide_eq_true p6_0
              have q238 : x5_1 < (l0.length : Int) := of_decide_eq_true p6_0
              obtain ⟨ad238, A238_0, c238_0, e238, hx238_0, hl238_0, hi238_0⟩ := at_L1 HR0.out x5_1 p238 q238
              cases e238
              replace hx238_0 := (HB.out.cell (World.block_lt_of_cell? w _ hx238_0)).trans hx238_0
              have HR238_0 := Aside0.mk hi238_0
              have HC238_0 := Aside0.mk hl238_0
              clear hi238_0 hl238_0
              replace p238 := eq_true p238
              replace q238 := eq_true q238
              have p239 : 0 ≤ (x7_2 : Int) := of_decide_eq_true p6_0
              have q239 : x7_2 < ((rd_L1 l0 x5_1).length : Int) := of_decide_eq_true p6_0
              obtain ⟨ad239, e239, hx239_0⟩ := Kd.at_int HR238_0.out x7_2 p239 q239
              cases e239
              replace hx239_0 := (HB.out.cell (World.block_lt_of_cell? w _ hx239_0)).trans hx239_0
              replace p239 := eq_true p239
              replace q239 := eq_true q239
              go_wp2_with (first | ((with_reducible refine gate_callee (f := 73) rfl ?_); refine goesL_ (some 43) rfl rfl Try.func73 (by kernel_rfl) rfl #[.slice (some ad238) l0.length c0, .int .i64 x5_1, .int .i64 (rd (rd_L1 l0 x5_1) x7_2)] rfl p6_9 ?_; (with_reducible refine (ladderbackref33_Back.calls kj4 _ _ l0 x5_1 (rd (rd_L1 l0 x5_1) x7_2) true _ ?side1 ?side2 A16.out).mono ?_); (case side1 => repeat (first | exact (Kd.C_below HR0.out HB.out) | (with_reducible refine Kd.C_alloc ?_ _) | (with_reducible refine Kd.C_drewN ?_ _) | (with_reducible refine Kd.C_drew ?_))); (case side2 => exact HC0.out); rintro e w18 ⟨rfl, hb⟩; refine ⟨_, rfl, ?_⟩; have n0_ := Aside0.mk (Kd.R_below p6_6 hb); have n1_ := Aside0.mk (Kd.S_below p6_4 hb); have n2_ := Aside0.mk (Kd.R_below p6_7 hb); have n3_ := Aside0.mk (below_step p6_1 hb); clear HO_3; clear HO_4; clear HO_6; clear HB; have HO_3 := n0_; have HO_4 := n1_; have HO_6 := n2_; have HB := n3_; clear n0_ n1_ n2_ n3_; (try clear hb); (try clear hb2); (try clear hk); (try clear hi)))
              go_roundg kj4
              case measure => have := HK1.out; have := HK2.out; have := HJ4.out; omega
              case rel => exact ⟨(x6_2), (wrap64 (x7_2 + 1)), p6_3, H', ⟨by have := HK1.out; have := HK2.out; have := HJ4.out; omega⟩, ⟨by (with_reducible repeat (first | apply Kd.R_alloc | apply Kd.R_drewN | apply Kd.R_drew)); exact HO_3.out⟩, ⟨by (with_reducible repeat (first | apply Kd.S_alloc | apply Kd.S_drewN | apply Kd.S_drew)); exact HO_4.out⟩, ⟨by (with_reducible repeat (first | apply Kd.R_alloc | apply Kd.R_drewN | apply Kd.R_drew)); exact HO_6.out⟩, ⟨by repeat (first | (with_reducible first | exact HB.out | apply below_alloc | apply pw_below_drewN | apply below_drew1) | exact HB.out)⟩⟩
             ·
              replace c17 := Bool.eq_false_iff.mpr c17
              subst c17
              have H1 : (if x6_2.length < 17592186044416 then (ladderbackref34_Plain.l1 kj4 l0 t233 x4_1 x5_1 (x6_2 ++ [rd (rd_L1 l0 x5_1) x7_2]) (wrap64 (x7_2 + 1))) else (none)) = some r := by rw [if_neg (show ¬ (false = true) by decide)] at H; exact H
              clear H
              have H := H1
              clear H1
              by_cases c19 : x6_2.length < 17592186044416
              ·
               rw [if_pos c19] at H
               have LMc19 := Aside0.mk c19
               clear c19
               obtain ⟨y243, hy243⟩ : ∃ y_ : List Int, y_ = (x6_2 ++ [rd (rd_L1 l0 x5_1) x7_2]) := ⟨_, rfl⟩
               replace H : (ladderbackref34_Plain.l1 kj4 l0 t233 x4_1 x5_1 y243 (wrap64 (x7_2 + 1))) = some r := by first | (rw [hy243]; with_reducible exact H) | (have H2_ := (Option.bind_some _ _).symm.trans H; rw [hy243]; with_reducible exact H2_) | (have H2_ := (Option.bind_some _ _).symm.trans H; with_reducible exact H2_) | with_reducible exact H | (rw [hy243]; exact H) | exact H
               have Ny243 := Aside0.mk hy243
               clear hy243
               have H' := Aside0.mk H
               clear H
               have p238 : 0 ≤ (x5_1 : Int) := of_decide_eq_true p6_0
               have q238 : x5_1 < (l0.length : Int) := of_decide_eq_true p6_0
               obtain ⟨ad238, A238_0, c238_0, e238, hx238_0, hl238_0, hi238_0⟩ := at_L1 HR0.out x5_1 p238 q238
               cases e238
               replace hx238_0 := (HB.out.cell (World.block_lt_of_cell? w _ hx238_0)).trans hx238_0
               have HR238_0 := Aside0.mk hi238_0
               have HC238_0 := Aside0.mk hl238_0
               clear hi238_0 hl238_0
               replace p238 := eq_true p238
               replace q238 := eq_true q238
               have p239 : 0 ≤ (x7_2 : Int) := of_decide_eq_true p6_0
               have q239 : x7_2 < ((rd_L1 l0 x5_1).length : Int) := of_decide_eq_true p6_0
               obtain ⟨ad239, e239, hx239_0⟩ := Kd.at_int HR238_0.out x7_2 p239 q239
               cases e239
               replace hx239_0 := (HB.out.cell (World.block_lt_of_cell? w _ hx239_0)).trans hx239_0
               replace p239 := eq_true p239
               replace q239 := eq_true q239
               go_wp2_with (first | ((with_reducible refine gate_callee (f := 73) rfl ?_); refine goesL_ (some 43) rfl rfl Try.func73 (by kernel_rfl) rfl #[.slice (some ad238) l0.length c0, .int .i64 x5_1, .int .i64 (rd (rd_L1 l0 x5_1) x7_2)] rfl p6_9 ?_; (with_reducible refine (ladderbackref33_Back.calls kj4 _ _ l0 x5_1 (rd (rd_L1 l0 x5_1) x7_2) false _ ?side1 ?side2 A16.out).mono ?_); (case side1 => repeat (first | exact (Kd.C_below HR0.out HB.out) | (with_reducible refine Kd.C_alloc ?_ _) | (with_reducible refine Kd.C_drewN ?_ _) | (with_reducible refine Kd.C_drew ?_))); (case side2 => exact HC0.out); rintro e w20 ⟨rfl, hb⟩; refine ⟨_, rfl, ?_⟩; have n0_ := Aside0.mk (Kd.R_below p6_6 hb); have n1_ := Aside0.mk (Kd.S_below p6_4 hb); have n2_ := Aside0.mk (Kd.R_below p6_7 hb); have n3_ := Aside0.mk (below_step p6_1 hb); clear HO_3; clear HO_4; clear HO_6; clear HB; have HO_3 := n0_; have HO_4 := n1_; have HO_6 := n2_; have HB := n3_; clear n0_ n1_ n2_ n3_; (try clear hb); (try clear hb2); (try clear hk); (try clear hi); have p241 : 0 ≤ (x5_1 : Int) := of_decide_eq_true p6_0; have q241 : x5_1 < (l0.length : Int) := of_decide_eq_true p6_0; obtain ⟨ad241, A241_0, c241_0, e241, hx241_0, hl241_0, hi241_0⟩ := at_L1 HR0.out x5_1 p241 q241; obtain rfl : ad238 = ad241 := (by injection e241); replace hx241_0 := (HB.out.cell (World.block_lt_of_cell? w _ hx241_0)).trans hx241_0; have HR241_0 := Aside0.mk hi241_0; have HC241_0 := Aside0.mk hl241_0; clear hi241_0 hl241_0; replace p241 := eq_true p241; replace q241 := eq_true q241; have p242 : 0 ≤ (x7_2 : Int) := of_decide_eq_true p6_0; have q242 : x7_2 < ((rd_L1 l0 x5_1).length : Int) := of_decide_eq_true p6_0; obtain ⟨ad242, e242, hx242_0⟩ := Kd.at_int HR241_0.out x7_2 p242 q242; cases e242; replace hx242_0 := (HB.out.cell (World.block_lt_of_cell? w _ hx242_0)).trans hx242_0; replace p242 := eq_true p242; replace q242 := eq_true q242) | ((with_reducible refine gate_builtin (b := .append) (xs := #[.tmp 45, .tmp 53]) rfl ?_); (try (refine gate_guard (by rfl) ?_; dsimp only)); at_builtin; refine Kd.R_append (Kd.int .i64) (w0 := w) w.heap.size rfl (.tmp 45) (.tmp 53) 27 3 (.int .i64 0) 8 rfl Try.underlying27 info3 rfl (by decide) (by omega) u6 x6_2 (rd (rd_L1 l0 x5_1) x7_2) [.int .i64 (rd (rd_L1 l0 x5_1) x7_2)] (fun _ => True) (fun _ => False) rfl rfl ?aP (fun _ hk => hk.elim) ?aF ?aO ?aB ?aS ?aL ?_; (case aP => exact rfl); (case aB => exact p6_1); (case aF => exact (fun _ _ => trivial)); (case aO => exact p6_7); (case aS => exact (below_size p6_1)); (case aL => have := LMc19.out; omega); intro v244 w21 ho hb hg hat; rw [← Ny243.out] at ho; have n0_ := Aside0.mk (Kd.R_over' p6_6 (Kd.R_typed p6_7) (by decide) hg); have n1_ := Aside0.mk (Kd.S_after (ok := (fun _ => True)) (by (with_reducible repeat (first | apply Kd.S_alloc | apply Kd.S_drewN | apply Kd.S_drew)); exact Kd.S_mono HO_4.out (fun _ hk => ⟨trivial, hk⟩)) hg hat); have n2_ := Aside0.mk (hb); have n3_ := Aside0.mk (ho); clear HO_3; clear HO_4; clear HB; clear HO_6; have HO_3 := n0_; have HO_4 := n1_; have HB := n2_; have HO245 := n3_; clear n0_ n1_ n2_ n3_; clear ho hb hg hat))
               go_roundg kj4
               case measure => have := HK1.out; have := HK2.out; have := HJ4.out; omega
               case rel => exact ⟨(y243), (wrap64 (x7_2 + 1)), p6_3, H', ⟨by have := HK1.out; have := HK2.out; have := HJ4.out; omega⟩, ⟨by (with_reducible repeat (first | apply Kd.R_alloc | apply Kd.R_drewN | apply Kd.R_drew)); exact HO_3.out⟩, ⟨by (with_reducible repeat (first | apply Kd.S_alloc | apply Kd.S_drewN | apply Kd.S_drew)); exact Kd.S_mono HO_4.out (fun _ hk => hk.2)⟩, ⟨by (with_reducible repeat (first | apply Kd.R_alloc | apply Kd.R_drewN | apply Kd.R_drew)); exact HO245.out⟩, ⟨by repeat (first | (with_reducible first | exact HB.out | apply below_alloc | apply pw_below_drewN | apply below_drew1) | exact HB.out)⟩⟩
              ·
               rw [if_neg c19] at H
               exact absurd H (by simp)
            ·
             rw [if_neg c15] at H
             exact absurd H (by simp)
           ·
            rw [if_neg c14] at H
            exact absurd H (by simp)
          ·
           rw [if_neg c13] at H
           exact absurd H (by simp)
         ·
          rw [if_neg c12] at H
          exact absurd H (by simp)
        ·
         replace c11 := Bool.eq_false_iff.mpr c11
         subst c11
         have H1 : (if x4_1.length < 5864062014805 then (ladderbackref34_Plain.l0 kj4 l0 t233 (x4_1 ++ [x6_2]) (wrap64 (x5_1 + 1))) else (none)) = some r := by rw [if_neg (show ¬ (false = true) by decide)] at H; exact H
         clear H
         have H := H1
         clear H1
         by_cases c22 : x4_1.length < 5864062014805
         ·
          rw [if_pos c22] at H
          have LMc22 := Aside0.mk c22
          clear c22
          obtain ⟨y246, hy246⟩ : ∃ y_ : List (List Int), y_ = (x4_1 ++ [x6_2]) := ⟨_, rfl⟩
          replace H : (ladderbackref34_Plain.l0 kj4 l0 t233 y246 (wrap64 (x5_1 + 1))) = some r := by first | (rw [hy246]; with_reducible exact H) | (have H2_ := (Option.bind_some _ _).symm.trans H; rw [hy246]; with_reducible exact H2_) | (have H2_ := (Option.bind_some _ _).symm.trans H; with_reducible exact H2_) | with_reducible exact H | (rw [hy246]; exact H) | exact H
          have Ny246 := Aside0.mk hy246
          clear hy246
          have H' := Aside0.mk H
          clear H
          obtain ⟨Ao24, co24, eo24⟩ := Kd.R_slice HO_6.out
          subst eo24
          go_wp2_with (first | ((with_reducible refine gate_builtin (b := .append) (xs := #[.tmp 55, .tmp 57]) rfl ?_); (try (refine gate_guard (by rfl) ?_; dsimp only)); at_builtin; refine Kd.S_append (Kd.slice 3 (Kd.int .i64)) (w0 := w) w.heap.size rfl (.tmp 55) (.tmp 57) 22 27 (.slice none 0 0) 24 rfl Try.underlying22 info27 rfl (by decide) (by omega) u4 x4_1 x6_2 [.slice Ao24 x6_2.length co24] (fun _ => True) (fun k_ => some k_ = (.slice Ao24 x6_2.length co24 : Value).ownBlock) rfl rfl ?aP (fun k_ hk_ => ((Kd.R_mono (ok' := fun k_ => ((fun _ => True)) k_ ∧ some k_ ≠ (u4 : Value).ownBlock) (Kd.R_apart' (HO_6.out) (Kd.S_typed HO_4.out) (by decide)) (fun k_ hk => ⟨trivial, hk.2⟩))).1 k_ hk_.symm) ?aF ?aO ?aB ?aS ?aL ?_; (case aP => exact Kd.M_row (Kd.R_mono (Kd.R_tight rfl (Kd.R_mono (ok' := fun k_ => ((fun _ => True)) k_ ∧ some k_ ≠ (u4 : Value).ownBlock) (Kd.R_apart' (HO_6.out) (Kd.S_typed HO_4.out) (by decide)) (fun k_ hk => ⟨trivial, hk.2⟩))) (fun _ h_ => h_))); (case aB => exact p6_1); (case aF => exact (fun _ _ => trivial)); (case aO => exact (by (with_reducible repeat (first | apply Kd.S_alloc | apply Kd.S_drewN | apply Kd.S_drew)); exact Kd.S_mono HO_4.out (fun k_ hk => ⟨trivial, fun e_ => hk e_⟩))); (case aS => exact (below_size p6_1)); (case aL => have := LMc22.out; omega); intro v247 w23 ho hb hg hat; rw [← Ny246.out] at ho; have n0_ := Aside0.mk (Kd.R_over' p6_6 (Kd.S_typed p6_4) (by decide) hg); have n1_ := Aside0.mk (hb); have n2_ := Aside0.mk (ho); clear HO_3; clear HB; clear HO_4; clear HO_6; have HO_3 := n0_; have HB := n1_; have HO248 := n2_; clear n0_ n1_ n2_; clear ho hb hg hat))
          go_roundg kj4
          case measure => have := HK1.out; have := HK2.out; have := HJ4.out; omega
          case rel => exact ⟨(y246), (wrap64 (x5_1 + 1)), p6_3, H', ⟨by have := HK1.out; have := HK2.out; have := HJ4.out; omega⟩, ⟨by (with_reducible repeat (first | apply Kd.R_alloc | apply Kd.R_drewN | apply Kd.R_drew)); exact HO_3.out⟩, ⟨by (with_reducible repeat (first | apply Kd.S_alloc | apply Kd.S_drewN | apply Kd.S_drew)); exact HO248.out⟩, ⟨by repeat (first | (with_reducible first | exact HB.out | apply below_alloc | apply pw_below_drewN | apply below_drew1) | exact HB.out)⟩⟩
         ·
          rw [if_neg c22] at H
          exact absurd H (by simp)
   ·
    rw [if_neg c4] at H
    have c4b0 : decide (x5_1 < (l0.length : Int)) = false := decide_eq_false c4
    clear c4
    have H' := Aside0.mk H
    clear H
    go_wp2
    go_loopg [8] k1 (fun kq v8 w' => ∃ (x8_2 : Int), v8 = .int .i64 x8_2 ∧ Aside0 (ladderbackref34_Plain.l2 kq x4_1 x8_2 = some r) ∧ Aside0 (kq ≤ k1) ∧ Aside0 (Kd.S (Kd.slice 3 (Kd.int .i64)) 27 w' w.heap.size (fun _ => True) u4 x4_1) ∧ Aside0 (Below w.heap.size w w'))
    case atStart => exact ⟨(0), p6_3, H', ⟨Nat.le_refl _⟩, ⟨by (with_reducible repeat (first | apply Kd.S_alloc | apply Kd.S_drewN | apply Kd.S_drew)); exact HO_4.out⟩, ⟨by repeat (first | (with_reducible first | exact HB.out | apply below_alloc | apply pw_below_drewN | apply below_drew1) | exact HB.out)⟩⟩
    case round =>
     clear H'
     (try clear c4); (try clear c4b0)
     obtain ⟨x8_2, rfl, HA, HK2, HO_4, HB⟩ := hrel
     cases gk with
     | zero => exact absurd HA.out (by simp [ladderbackref34_Plain.l2])
     | succ k2 =>
      have H := HA.out
      clear HA
      simp only [ladderbackref34_Plain.l2] at H
      by_cases c25 : x8_2 < (x4_1.length : Int)
      ·
       rw [if_pos c25] at H
       have c25b0 : decide (x8_2 < (x4_1.length : Int)) = true := decide_eq_true c25
       clear c25
       have H' := Aside0.mk H
       clear H
       obtain ⟨Ao26, co26, eo26⟩ := Kd.S_slice HO_4.out
       subst eo26
       go_wp2
       go_loopg [9] k2 (fun kq v9 w' => ∃ (x9_3 : Int), v9 = .int .i64 x9_3 ∧ Aside0 (ladderbackref34_Plain.l3 kq x4_1 x8_2 x9_3 = some r) ∧ Aside0 (kq ≤ k2) ∧ Aside0 (Kd.S (Kd.slice 3 (Kd.int .i64)) 27 w' w.heap.size (fun _ => True) (.slice Ao26 x4_1.length co26) x4_1) ∧ Aside0 (Below w.heap.size w w'))
       case atStart => exact ⟨(0), p6_3, H', ⟨Nat.le_refl _⟩, ⟨by (with_reducible repeat (first | apply Kd.S_alloc | apply Kd.S_drewN | apply Kd.S_drew)); exact HO_4.out⟩, ⟨by repeat (first | (with_reducible first | exact HB.out | apply below_alloc | apply pw_below_drewN | apply below_drew1) | exact HB.out)⟩⟩
       case round =>
        clear H'
        (try clear c25); (try clear c25b0)
        obtain ⟨x9_3, rfl, HA, HK3, HO_4, HB⟩ := hrel
        cases gk with
        | zero => exact absurd HA.out (by simp [ladderbackref34_Plain.l3])
        | succ k3 =>
         have H := HA.out
         clear HA
         simp only [ladderbackref34_Plain.l3] at H
         by_cases c27 : 0 ≤ x8_2
         ·
          rw [if_pos c27] at H
          have c27b0 : decide (0 ≤ x8_2) = true := decide_eq_true c27
          clear c27
          by_cases c28 : x8_2 < (x4_1.length : Int)
          ·
           rw [if_pos c28] at H
           have c28b0 : decide (x8_2 < (x4_1.length : Int)) = true := decide_eq_true c28
           clear c28
           by_cases c29 : x9_3 < ((rd_L1 x4_1 x8_2).length : Int)
           ·
            rw [if_pos c29] at H
            have c29b0 : decide (x9_3 < ((rd_L1 x4_1 x8_2).length : Int)) = true := decide_eq_true c29
            clear c29
            by_cases c30 : 0 ≤ x9_3
            ·
             rw [if_pos c30] at H
             have c30b0 : decide (0 ≤ x9_3) = true := decide_eq_true c30
             clear c30
             by_cases c31 : (rd (rd_L1 x4_1 x8_2) x9_3) ≥ 0
             ·
              rw [if_pos c31] at H
              have c31b0 : decide (0 ≤ (rd (rd_L1 x4_1 x8_2) x9_3)) = true := decide_eq_true c31
              clear c31
              by_cases c32 : (rd (rd_L1 x4_1 x8_2) x9_3) < (x4_1.length : Int)
              ·
               rw [if_pos c32] at H
               have c32b0 : decide ((rd (rd_L1 x4_1 x8_2) x9_3) < (x4_1.length : Int)) = true := decide_eq_true c32
               clear c32
               replace H := Option.bind_eq_some_iff.mp H
               obtain ⟨t252, A330, H⟩ := H
               replace H : (if x8_2 < (t252.length : Int) then (if rdOf false t252 x8_2 = true then (some false) else (ladderbackref34_Plain.l3 k3 x4_1 x8_2 (wrap64 (x9_3 + 1)))) else (none)) = some r := H
               have A33 := Aside0.mk A330
               clear A330
               by_cases c34 : x8_2 < (t252.length : Int)
               ·
                rw [if_pos c34] at H
                have c34b0 : decide (x8_2 < (t252.length : Int)) = true := decide_eq_true c34
                clear c34
                obtain ⟨bq35, hbq35⟩ : ∃ b_ : Bool, b_ = (rdOf false t252 x8_2) := ⟨_, rfl⟩
                replace H : (if bq35 = true then (some false) else (ladderbackref34_Plain.l3 k3 x4_1 x8_2 (wrap64 (x9_3 + 1)))) = some r := by rw [← hbq35] at H; exact H
                (try rw [← hbq35] at A33)
                have Nbq35 := Aside0.mk hbq35
                clear hbq35
                (try rw [← Nbq35.out])
                by_cases c36 : bq35 = true
                ·
                 subst c36
                 have H1 : (some false) = some r := by rw [if_pos rfl] at H; exact H
                 clear H
                 have H := H1
                 clear H1
                 obtain rfl := Option.some.inj H
                 have p249 : 0 ≤ (x8_2 : Int) := of_decide_eq_true p6_0
                 have q249 : x8_2 < (x4_1.length : Int) := of_decide_eq_true p6_0
                 obtain ⟨ad249, A249_0, c249_0, e249, hx249_0, hl249_0, hi249_0⟩ := at_L1 (Kd.S_reads' HO_4.out).2.2 x8_2 p249 q249
                 cases e249
                 obtain ⟨ce249, hce249, hMe249, hcc249⟩ := Kd.S_get HO_4.out [] x8_2 p249 p6_5
                 obtain ⟨ve249_0, rfl, ge249_0⟩ := hMe249
                 have hv249_0 := hcc249 0 _ rfl
                 rw [Nat.add_zero, show ((Kd.slice 3 (Kd.int .i64))).sz = 1 from rfl, Nat.mul_one] at hv249_0
                 replace hv249_0 := Option.some.inj (hv249_0.symm.trans hx249_0)
                 rw [hv249_0] at ge249_0
                 have HL249_0 := Aside0.mk (show Kd.R (Kd.int .i64) 3 _ _ _ _ (rd_L1 x4_1 x8_2) from ge249_0)
                 clear hv249_0 ge249_0
                 clear hcc249 hce249
                 have HR249_0 := Aside0.mk hi249_0
                 have HC249_0 := Aside0.mk hl249_0
                 clear hi249_0 hl249_0
                 replace p249 := eq_true p249
                 replace q249 := eq_true q249
                 have p250 : 0 ≤ (x8_2 : Int) := of_decide_eq_true p6_0
                 have q250 : x8_2 < (x4_1.length : Int) := of_decide_eq_true p6_0
                 obtain ⟨ad250, A250_0, c250_0, e250, hx250_0, hl250_0, hi250_0⟩ := at_L1 (Kd.S_reads' HO_4.out).2.2 x8_2 p250 q250
                 obtain rfl : ad249 = ad250 := (by injection e250)
                 obtain ⟨ce250, hce250, hMe250, hcc250⟩ := Kd.S_get HO_4.out [] x8_2 p250 p6_8
                 obtain ⟨ve250_0, rfl, ge250_0⟩ := hMe250
                 have hv250_0 := hcc250 0 _ rfl
                 rw [Nat.add_zero, show ((Kd.slice 3 (Kd.int .i64))).sz = 1 from rfl, Nat.mul_one] at hv250_0
                 replace hv250_0 := Option.some.inj (hv250_0.symm.trans hx250_0)
                 rw [hv250_0] at ge250_0
                 have HL250_0 := Aside0.mk (show Kd.R (Kd.int .i64) 3 _ _ _ _ (rd_L1 x4_1 x8_2) from ge250_0)
                 clear hv250_0 ge250_0
                 clear hcc250 hce250
                 have HR250_0 := Aside0.mk hi250_0
                 have HC250_0 := Aside0.mk hl250_0
                 clear hi250_0 hl250_0
                 replace p250 := eq_true p250
                 replace q250 := eq_true q250
                 have ea_ := Option.some.inj (hx249_0.symm.trans hx250_0)
                 injection ea_ with ea_ en_ ec_
                 subst ea_
                 subst ec_
                 clear en_
                 have p251 : 0 ≤ (x9_3 : Int) := of_decide_eq_true p6_0
                 have q251 : x9_3 < ((rd_L1 x4_1 x8_2).length : Int) := of_decide_eq_true p6_0
                 obtain ⟨ad251, e251, hx251_0⟩ := Kd.at_int p6_2 x9_3 p251 q251
                 cases e251
                 replace p251 := eq_true p251
                 replace q251 := eq_true q251
                 go_wp2_with (first | (go_at_call 49; (with_reducible refine (ladderbackref31_Reach.calls k3 _ _ x4_1 (rd (rd_L1 x4_1 x8_2) x9_3) (-1) t252 _ ?side1 ?side2 A33.out).mono ?_); (case side1 => repeat (first | exact (Kd.S_reads' HO_4.out).2.2 | (with_reducible refine Kd.C_alloc ?_ _) | (with_reducible refine Kd.C_drewN ?_ _) | (with_reducible refine Kd.C_drew ?_))); (case side2 => exact (Kd.S_reads' HO_4.out).2.1); rintro e w37 ⟨v253, rfl, ho0, hb⟩; have n0_ := Aside0.mk (Kd.S_below p6_4 hb); have n1_ := Aside0.mk (Kd.R_below (by (with_reducible repeat (first | apply Kd.R_alloc | apply Kd.R_drewN | apply Kd.R_drew)); exact HL249_0.out) hb); have n2_ := Aside0.mk (Kd.R_below (by (with_reducible repeat (first | apply Kd.R_alloc | apply Kd.R_drewN | apply Kd.R_drew)); exact HL250_0.out) hb); have n3_ := Aside0.mk (Kd.R_lower ho0 (below_size p6_1)); have n4_ := Aside0.mk (Kd.C_below p6_10 hb); have n5_ := Aside0.mk (Kd.C_below p6_2 hb); have n6_ := Aside0.mk (below_step p6_1 hb); clear HO_4; clear HL249_0; clear HL250_0; clear HR249_0; clear HR250_0; clear HB; have HO_4 := n0_; have HL249_0 := n1_; have HL250_0 := n2_; have HO254 := n3_; have HR249_0 := n4_; have HR250_0 := n5_; have HB := n6_; clear n0_ n1_ n2_ n3_ n4_ n5_ n6_; (try clear hb); (try clear hb2); (try clear hk); (try clear hi); (try clear ho0); obtain ⟨Ao38, co38, eo38⟩ := Kd.R_slice HO254.out; subst eo38; have p255 : 0 ≤ (x8_2 : Int) := of_decide_eq_true p6_0; have q255 : x8_2 < (t252.length : Int) := of_decide_eq_true p6_0; obtain ⟨ad255, e255, hx255_0⟩ := Kd.at_bool (Kd.R_reads' HO254.out).2.2 x8_2 p255 q255; (try rw [← Nbq35.out] at hx255_0); cases e255; replace p255 := eq_true p255; replace q255 := eq_true q255))
                 go_ret
                 exact ⟨by first | rfl | (simp [errW_none, errW_some] <;> rfl) | (simp [*, errW_none, errW_some] <;> rfl), by repeat (first | (with_reducible first | exact HB.out | apply below_alloc | apply pw_below_drewN | apply below_drew1) | exact HB.out)⟩
                ·
                 replace c36 := Bool.eq_false_iff.mpr c36
                 subst c36
                 have H1 : (ladderbackref34_Plain.l3 k3 x4_1 x8_2 (wrap64 (x9_3 + 1))) = some r := by rw [if_neg (show ¬ (false = true) by decide)] at H; exact H
                 clear H
                 have H := H1
                 clear H1
                 have H' := Aside0.mk H
                 clear H
                 have p249 : 0 ≤ (x8_2 : Int) := of_decide_eq_true p6_0
                 have q249 : x8_2 < (x4_1.length : Int) := of_decide_eq_true p6_0
                 obtain ⟨ad249, A249_0, c249_0, e249, hx249_0, hl249_0, hi249_0⟩ := at_L1 (Kd.S_reads' HO_4.out).2.2 x8_2 p249 q249
                 cases e249
                 obtain ⟨ce249, hce249, hMe249, hcc249⟩ := Kd.S_get HO_4.out [] x8_2 p249 p6_5
                 obtain ⟨ve249_0, rfl, ge249_0⟩ := hMe249
                 have hv249_0 := hcc249 0 _ rfl
                 rw [Nat.add_zero, show ((Kd.slice 3 (Kd.int .i64))).sz = 1 from rfl, Nat.mul_one] at hv249_0
                 replace hv249_0 := Option.some.inj (hv249_0.symm.trans hx249_0)
                 rw [hv249_0] at ge249_0
                 have HL249_0 := Aside0.mk (show Kd.R (Kd.int .i64) 3 _ _ _ _ (rd_L1 x4_1 x8_2) from ge249_0)
                 clear hv249_0 ge249_0
                 clear hcc249 hce249
                 have HR249_0 := Aside0.mk hi249_0
                 have HC249_0 := Aside0.mk hl249_0
                 clear hi249_0 hl249_0
                 replace p249 := eq_true p249
                 replace q249 := eq_true q249
                 have p250 : 0 ≤ (x8_2 : Int) := of_decide_eq_true p6_0
                 have q250 : x8_2 < (x4_1.length : Int) := of_decide_eq_true p6_0
                 obtain ⟨ad250, A250_0, c250_0, e250, hx250_0, hl250_0, hi250_0⟩ := at_L1 (Kd.S_reads' HO_4.out).2.2 x8_2 p250 q250
                 obtain rfl : ad249 = ad250 := (by injection e250)
                 obtain ⟨ce250, hce250, hMe250, hcc250⟩ := Kd.S_get HO_4.out [] x8_2 p250 p6_8
                 obtain ⟨ve250_0, rfl, ge250_0⟩ := hMe250
                 have hv250_0 := hcc250 0 _ rfl
                 rw [Nat.add_zero, show ((Kd.slice 3 (Kd.int .i64))).sz = 1 from rfl, Nat.mul_one] at hv250_0
                 replace hv250_0 := Option.some.inj (hv250_0.symm.trans hx250_0)
                 rw [hv250_0] at ge250_0
                 have HL250_0 := Aside0.mk (show Kd.R (Kd.int .i64) 3 _ _ _ _ (rd_L1 x4_1 x8_2) from ge250_0)
                 clear hv250_0 ge250_0
                 clear hcc250 hce250
                 have HR250_0 := Aside0.mk hi250_0
                 have HC250_0 := Aside0.mk hl250_0
                 clear hi250_0 hl250_0
                 replace p250 := eq_true p250
                 replace q250 := eq_true q250
                 have ea_ := Option.some.inj (hx249_0.symm.trans hx250_0)
                 injection ea_ with ea_ en_ ec_
                 subst ea_
                 subst ec_
                 clear en_
                 have p251 : 0 ≤ (x9_3 : Int) := of_decide_eq_true p6_0
                 have q251 : x9_3 < ((rd_L1 x4_1 x8_2).length : Int) := of_decide_eq_true p6_0
                 obtain ⟨ad251, e251, hx251_0⟩ := Kd.at_int p6_2 x9_3 p251 q251
                 cases e251
                 replace p251 := eq_true p251
                 replace q251 := eq_true q251
                 go_wp2_with (first | (go_at_call 49; (with_reducible refine (ladderbackref31_Reach.calls k3 _ _ x4_1 (rd (rd_L1 x4_1 x8_2) x9_3) (-1) t252 _ ?side1 ?side2 A33.out).mono ?_); (case side1 => repeat (first | exact (Kd.S_reads' HO_4.out).2.2 | (with_reducible refine Kd.C_alloc ?_ _) | (with_reducible refine Kd.C_drewN ?_ _) | (with_reducible refine Kd.C_drew ?_))); (case side2 => exact (Kd.S_reads' HO_4.out).2.1); rintro e w39 ⟨v253, rfl, ho0, hb⟩; have n0_ := Aside0.mk (Kd.S_below p6_4 hb); have n1_ := Aside0.mk (Kd.R_below (by (with_reducible repeat (first | apply Kd.R_alloc | apply Kd.R_drewN | apply Kd.R_drew)); exact HL249_0.out) hb); have n2_ := Aside0.mk (Kd.R_below (by (with_reducible repeat (first | apply Kd.R_alloc | apply Kd.R_drewN | apply Kd.R_drew)); exact HL250_0.out) hb); have n3_ := Aside0.mk (Kd.R_lower ho0 (below_size p6_1)); have n4_ := Aside0.mk (Kd.C_below p6_10 hb); have n5_ := Aside0.mk (Kd.C_below p6_2 hb); have n6_ := Aside0.mk (below_step p6_1 hb); clear HO_4; clear HL249_0; clear HL250_0; clear HR249_0; clear HR250_0; clear HB; have HO_4 := n0_; have HL249_0 := n1_; have HL250_0 := n2_; have HO254 := n3_; have HR249_0 := n4_; have HR250_0 := n5_; have HB := n6_; clear n0_ n1_ n2_ n3_ n4_ n5_ n6_; (try clear hb); (try clear hb2); (try clear hk); (try clear hi); (try clear ho0); obtain ⟨Ao40, co40, eo40⟩ := Kd.R_slice HO254.out; subst eo40; have p255 : 0 ≤ (x8_2 : Int) := of_decide_eq_true p6_0; have q255 : x8_2 < (t252.length : Int) := of_decide_eq_true p6_0; obtain ⟨ad255, e255, hx255_0⟩ := Kd.at_bool (Kd.R_reads' HO254.out).2.2 x8_2 p255 q255; (try rw [← Nbq35.out] at hx255_0); cases e255; replace p255 := eq_true p255; replace q255 := eq_true q255))
                 go_roundg k3
                 case measure => have := HK1.out; have := HK2.out; have := HK3.out; omega
                 case rel => exact ⟨(wrap64 (x9_3 + 1)), p6_3, H', ⟨by have := HK1.out; have := HK2.out; have := HK3.out; omega⟩, ⟨by (with_reducible repeat (first | apply Kd.S_alloc | apply Kd.S_drewN | apply Kd.S_drew)); exact HO_4.out⟩, ⟨by repeat (first | (with_reducible first | exact HB.out | apply below_alloc | apply pw_below_drewN | apply below_drew1) | exact HB.out)⟩⟩
               ·
                rw [if_neg c34] at H
                exact absurd H (by simp)
              ·
               rw [if_neg c32] at H
               have c32b0 : decide ((rd (rd_L1 x4_1 x8_2) x9_3) < (x4_1.length : Int)) = false := decide_eq_false c32
               clear c32
               have H' := Aside0.mk H
               clear H
               have p249 : 0 ≤ (x8_2 : Int) := of_decide_eq_true p6_0
               have q249 : x8_2 < (x4_1.length : Int) := of_decide_eq_true p6_0
               obtain ⟨ad249, A249_0, c249_0, e249, hx249_0, hl249_0, hi249_0⟩ := at_L1 (Kd.S_reads' HO_4.out).2.2 x8_2 p249 q249
               cases e249
               obtain ⟨ce249, hce249, hMe249, hcc249⟩ := Kd.S_get HO_4.out [] x8_2 p249 p6_5
               obtain ⟨ve249_0, rfl, ge249_0⟩ := hMe249
               have hv249_0 := hcc249 0 _ rfl
               rw [Nat.add_zero, show ((Kd.slice 3 (Kd.int .i64))).sz = 1 from rfl, Nat.mul_one] at hv249_0
               replace hv249_0 := Option.some.inj (hv249_0.symm.trans hx249_0)
               rw [hv249_0] at ge249_0
               have HL249_0 := Aside0.mk (show Kd.R (Kd.int .i64) 3 _ _ _ _ (rd_L1 x4_1 x8_2) from ge249_0)
               clear hv249_0 ge249_0
               clear hcc249 hce249
               have HR249_0 := Aside0.mk hi249_0
               have HC249_0 := Aside0.mk hl249_0
               clear hi249_0 hl249_0
               replace p249 := eq_true p249
               replace q249 := eq_true q249
               have p250 : 0 ≤ (x8_2 : Int) := of_decide_eq_true p6_0
               have q250 : x8_2 < (x4_1.length : Int) := of_decide_eq_true p6_0
               obtain ⟨ad250, A250_0, c250_0, e250, hx250_0, hl250_0, hi250_0⟩ := at_L1 (Kd.S_reads' HO_4.out).2.2 x8_2 p250 q250
               obtain rfl : ad249 = ad250 := (by injection e250)
               obtain ⟨ce250, hce250, hMe250, hcc250⟩ := Kd.S_get HO_4.out [] x8_2 p250 p6_8
               obtain ⟨ve250_0, rfl, ge250_0⟩ := hMe250
               have hv250_0 := hcc250 0 _ rfl
               rw [Nat.add_zero, show ((Kd.slice 3 (Kd.int .i64))).sz = 1 from rfl, Nat.mul_one] at hv250_0
               replace hv250_0 := Option.some.inj (hv250_0.symm.trans hx250_0)
               rw [hv250_0] at ge250_0
               have HL250_0 := Aside0.mk (show Kd.R (Kd.int .i64) 3 _ _ _ _ (rd_L1 x4_1 x8_2) from ge250_0)
               clear hv250_0 ge250_0
               clear hcc250 hce250
               have HR250_0 := Aside0.mk hi250_0
               have HC250_0 := Aside0.mk hl250_0
               clear hi250_0 hl250_0
               replace p250 := eq_true p250
               replace q250 := eq_true q250
               have ea_ := Option.some.inj (hx249_0.symm.trans hx250_0)
               injection ea_ with ea_ en_ ec_
               subst ea_
               subst ec_
               clear en_
               have p251 : 0 ≤ (x9_3 : Int) := of_decide_eq_true p6_0
               have q251 : x9_3 < ((rd_L1 x4_1 x8_2).length : Int) := of_decide_eq_true p6_0
               obtain ⟨ad251, e251, hx251_0⟩ := Kd.at_int p6_2 x9_3 p251 q251
               cases e251
               replace p251 := eq_true p251
               replace q251 := eq_true q251
               go_wp2
               go_roundg k3
               case measure => have := HK1.out; have := HK2.out; have := HK3.out; omega
               case rel => exact ⟨(wrap64 (x9_3 + 1)), p6_3, H', ⟨by have := HK1.out; have := HK2.out; have := HK3.out; omega⟩, ⟨by (with_reducible repeat (first | apply Kd.S_alloc | apply Kd.S_drewN | apply Kd.S_drew)); exact HO_4.out⟩, ⟨by repeat (first | (with_reducible first | exact HB.out | apply below_alloc | apply pw_below_drewN | apply below_drew1) | exact HB.out)⟩⟩
             ·
              rw [if_neg c31] at H
              have c31b0 : decide (0 ≤ (rd (rd_L1 x4_1 x8_2) x9_3)) = false := decide_eq_false c31
              clear c31
              have H' := Aside0.mk H
              clear H
              have p249 : 0 ≤ (x8_2 : Int) := of_decide_eq_true p6_0
              have q249 : x8_2 < (x4_1.length : Int) := of_decide_eq_true p6_0
              obtain ⟨ad249, A249_0, c249_0, e249, hx249_0, hl249_0, hi249_0⟩ := at_L1 (Kd.S_reads' HO_4.out).2.2 x8_2 p249 q249
              cases e249
              obtain ⟨ce249, hce249, hMe249, hcc249⟩ := Kd.S_get HO_4.out [] x8_2 p249 p6_5
              obtain ⟨ve249_0, rfl, ge249_0⟩ := hMe249
              have hv249_0 := hcc249 0 _ rfl
              rw [Nat.add_zero, show ((Kd.slice 3 (Kd.int .i64))).sz = 1 from rfl, Nat.mul_one] at hv249_0
              replace hv249_0 := Option.some.inj (hv249_0.symm.trans hx249_0)
              rw [hv249_0] at ge249_0
              have HL249_0 := Aside0.mk (show Kd.R (Kd.int .i64) 3 _ _ _ _ (rd_L1 x4_1 x8_2) from ge249_0)
              clear hv249_0 ge249_0
              clear hcc249 hce249
              have HR249_0 := Aside0.mk hi249_0
              have HC249_0 := Aside0.mk hl249_0
              clear hi249_0 hl249_0
              replace p249 := eq_true p249
              replace q249 := eq_true q249
              have p250 : 0 ≤ (x8_2 : Int) := of_decide_eq_true p6_0
              have q250 : x8_2 < (x4_1.length : Int) := of_decide_eq_true p6_0
              obtain ⟨ad250, A250_0, c250_0, e250, hx250_0, hl250_0, hi250_0⟩ := at_L1 (Kd.S_reads' HO_4.out).2.2 x8_2 p250 q250
              obtain rfl : ad249 = ad250 := (by injection e250)
              obtain ⟨ce250, hce250, hMe250, hcc250⟩ := Kd.S_get HO_4.out [] x8_2 p250 p6_8
              obtain ⟨ve250_0, rfl, ge250_0⟩ := hMe250
              have hv250_0 := hcc250 0 _ rfl
              rw [Nat.add_zero, show ((Kd.slice 3 (Kd.int .i64))).sz = 1 from rfl, Nat.mul_one] at hv250_0
              replace hv250_0 := Option.some.inj (hv250_0.symm.trans hx250_0)
              rw [hv250_0] at ge250_0
              have HL250_0 := Aside0.mk (show Kd.R (Kd.int .i64) 3 _ _ _ _ (rd_L1 x4_1 x8_2) from ge250_0)
              clear hv250_0 ge250_0
              clear hcc250 hce250
              have HR250_0 := Aside0.mk hi250_0
              have HC250_0 := Aside0.mk hl250_0
              clear hi250_0 hl250_0
              replace p250 := eq_true p250
              replace q250 := eq_true q250
              have ea_ := Option.some.inj (hx249_0.symm.trans hx250_0)
              injection ea_ with ea_ en_ ec_
              subst ea_
              subst ec_
              clear en_
              have p251 : 0 ≤ (x9_3 : Int) := of_decide_eq_true p6_0
              have q251 : x9_3 < ((rd_L1 x4_1 x8_2).length : Int) := of_decide_eq_true p6_0
              obtain ⟨ad251, e251, hx251_0⟩ := Kd.at_int p6_2 x9_3 p251 q251
              cases e251
              replace p251 := eq_true p251
              replace q251 := eq_true q251
              go_wp2
              go_roundg k3
              case measure => have := HK1.out; have := HK2.out; have := HK3.out; omega
              case rel => exact ⟨(wrap64 (x9_3 + 1)), p6_3, H', ⟨by have := HK1.out; have := HK2.out; have := HK3.out; omega⟩, ⟨by (with_reducible repeat (first | apply Kd.S_alloc | apply Kd.S_drewN | apply Kd.S_drew)); exact HO_4.out⟩, ⟨by repeat (first | (with_reducible first | exact HB.out | apply below_alloc | apply pw_below_drewN | apply below_drew1) | exact HB.out)⟩⟩
            ·
             rw [if_neg c30] at H
             exact absurd H (by simp)
           ·
            rw [if_neg c29] at H
            have c29b0 : decide (x9_3 < ((rd_L1 x4_1 x8_2).length : Int)) = false := decide_eq_false c29
            clear c29
            have H' := Aside0.mk H
            clear H
            have p249 : 0 ≤ (x8_2 : Int) := of_decide_eq_true p6_0
            have q249 : x8_2 < (x4_1.length : Int) := of_decide_eq_true p6_0
            obtain ⟨ad249, A249_0, c249_0, e249, hx249_0, hl249_0, hi249_0⟩ := at_L1 (Kd.S_reads' HO_4.out).2.2 x8_2 p249 q249
            cases e249
            obtain ⟨ce249, hce249, hMe249, hcc249⟩ := Kd.S_get HO_4.out [] x8_2 p249 p6_5
            obtain ⟨ve249_0, rfl, ge249_0⟩ := hMe249
            have hv249_0 := hcc249 0 _ rfl
            rw [Nat.add_zero, show ((Kd.slice 3 (Kd.int .i64))).sz = 1 from rfl, Nat.mul_one] at hv249_0
            replace hv249_0 := Option.some.inj (hv249_0.symm.trans hx249_0)
            rw [hv249_0] at ge249_0
            have HL249_0 := Aside0.mk (show Kd.R (Kd.int .i64) 3 _ _ _ _ (rd_L1 x4_1 x8_2) from ge249_0)
            clear hv249_0 ge249_0
            clear hcc249 hce249
            have HR249_0 := Aside0.mk hi249_0
            have HC249_0 := Aside0.mk hl249_0
            clear hi249_0 hl249_0
            replace p249 := eq_true p249
            replace q249 := eq_true q249
            go_wp2
            go_roundg k3
            case measure => have := HK1.out; have := HK2.out; have := HK3.out; omega
            case rel => exact ⟨(wrap64 (x8_2 + 1)), p6_3, H', ⟨by have := HK1.out; have := HK2.out; have := HK3.out; omega⟩, ⟨by (with_reducible repeat (first | apply Kd.S_alloc | apply Kd.S_drewN | apply Kd.S_drew)); exact HO_4.out⟩, ⟨by repeat (first | (with_reducible first | exact HB.out | apply below_alloc | apply pw_below_drewN | apply below_drew1) | exact HB.out)⟩⟩
          ·
           rw [if_neg c28] at H
           exact absurd H (by simp)
         ·
          rw [if_neg c27] at H
          exact absurd H (by simp)
      ·
       rw [if_neg c25] at H
       have c25b0 : decide (x8_2 < (x4_1.length : Int)) = false := decide_eq_false c25
       clear c25
       obtain rfl := Option.some.inj H
       obtain ⟨Ao41, co41, eo41⟩ := Kd.S_slice HO_4.out
       subst eo41
       go_wp2
       go_ret
       exact ⟨by first | rfl | (simp [errW_none, errW_some] <;> rfl) | (simp [*, errW_none, errW_some] <;> rfl), by repeat (first | (with_reducible first | exact HB.out | apply below_alloc | apply pw_below_drewN | apply below_drew1) | exact HB.out)⟩

end Go.Proofs.Ytfiffhcpgojkhaa.QInterReduces
